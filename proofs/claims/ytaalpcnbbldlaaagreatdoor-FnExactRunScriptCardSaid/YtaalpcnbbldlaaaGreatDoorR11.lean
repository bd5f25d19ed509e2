/-
  Worlds that are drawn, and bent. No program in sight.
-/
import Derived.KernelRfl
import Derived.Test.YtaalpcnbbldlaaaGreatDoorProg
import Derived.Test.YtaalpcnbbldlaaaGreatDoorR10
namespace Go.Proofs.YtaalpcnbbldlaaaGreatDoor.G
set_option linter.all false
open Go.RowKit L D
section
theorem Ye:(Tryz.prog.info? 3).map (fun i=>(i.zero,i.size,i.bytes))=some (some (.int .i64 0),1,8):=by kernel_rfl
theorem Yf:(Tryz.prog.info? 5).map (fun i=>(i.zero,i.size,i.bytes))=some (some (.int .u8 0),1,1):=by kernel_rfl
theorem Yg:(Tryz.prog.info? 9).map (fun i=>(i.zero,i.size,i.bytes))=some (some (.string ⟨#[]⟩),1,16):=by kernel_rfl
theorem Sq:(Tryz.prog.info? 24).map (fun i=>(i.zero,i.size,i.bytes))=some (some (.slice none 0 0),1,24):=by kernel_rfl
theorem Sr:(Tryz.prog.info? 37).map (fun i=>(i.zero,i.size,i.bytes))=some (some (.slice none 0 0),1,24):=by kernel_rfl
theorem Zl:(Tryz.prog.info? 87).map (fun i=>(i.zero,i.size,i.bytes))=some (some (.slice none 0 0),1,24):=by kernel_rfl
theorem HR:(Tryz.prog.info? 111).map (fun i=>(i.zero,i.size,i.bytes))=some (some (.agg #[.slice none 0 0]),1,24):=by kernel_rfl
theorem HS:(Tryz.prog.info? 188).map (fun i=>(i.zero,i.size,i.bytes))=some (some (.agg #[.int .i64 0, .slice none 0 0]),2,32):=by kernel_rfl
theorem Mv:(Tryz.prog.info? 95).map (fun i=>(i.zero,i.size,i.bytes))=some (some (.agg #[.int .i64 0, .int .i64 0, .int .i64 0, .slice none 0 0, .int .i64 0]),5,56):=by kernel_rfl
theorem HT:(Tryz.prog.info? 113).map (fun i=>(i.zero,i.size,i.bytes))=some (some (.agg #[.int .i64 0, .slice none 0 0]),2,32):=by kernel_rfl
theorem Ss:(Tryz.prog.info? 36).map (fun i=>(i.zero,i.size,i.bytes))=some (some (.agg #[.int .i64 0, .slice none 0 0]),2,32):=by kernel_rfl
theorem Su:(Tryz.prog.info? 89).map (fun i=>(i.zero,i.size,i.bytes))=some (some (.agg #[.int .i64 0, .int .i64 0, .int .i64 0, .int .i64 0, .slice none 0 0, .int .i64 0, .slice none 0 0, .int .i64 0]),8,96):=by kernel_rfl
theorem Mw:(Tryz.prog.info? 91).map (fun i=>(i.zero,i.size,i.bytes))=some (some (.agg #[.int .i64 0, .int .i64 0, .int .i64 0, .int .i64 0, .slice none 0 0, .int .i64 0, .slice none 0 0, .int .i64 0, .int .i64 0, .int .i64 0, .int .i64 0, .int .i64 0, .slice none 0 0, .int .i64 0, .slice none 0 0, .int .i64 0]),16,192):=by kernel_rfl
theorem Sv:(Tryz.prog.info? 39).map (fun i=>(i.zero,i.size,i.bytes))=some (some (.agg #[.int .i64 0, .slice none 0 0, .slice none 0 0, .int .i64 0, .slice none 0 0, .int .i64 0, .int .i64 0, .int .i64 0, .slice none 0 0, .int .i64 0]),10,144):=by kernel_rfl
theorem Sw:(Tryz.prog.info? 64).map (fun i=>(i.zero,i.size,i.bytes))=some (some (.agg #[.int .i64 0, .int .i64 0, .int .i64 0, .slice none 0 0]),4,48):=by kernel_rfl
theorem HU:(Tryz.prog.info? 116).map (fun i=>(i.zero,i.size,i.bytes))=some (some (.agg #[.int .i64 0, .int .i64 0, .int .i64 0]),3,24):=by kernel_rfl
theorem HV:(Tryz.prog.info? 220).map (fun i=>(i.zero,i.size,i.bytes))=some (some (.agg #[.int .i64 0, .int .i64 0, .int .i64 0, .int .i64 0, .int .i64 0]),5,40):=by kernel_rfl
theorem N7:(Tryz.prog.info? 206).map (fun i=>(i.zero,i.size,i.bytes))=some (some (.agg #[.int .i64 0, .slice none 0 0]),2,32):=by kernel_rfl
theorem HW:(Tryz.prog.info? 150).map (fun i=>(i.zero,i.size,i.bytes))=some (some (.agg #[.int .i64 0, .int .i64 0, .slice none 0 0, .slice none 0 0, .int .i64 0]),5,72):=by kernel_rfl
theorem Sx:(Tryz.prog.info? 78).map (fun i=>(i.zero,i.size,i.bytes))=some (some (.slice none 0 0),1,24):=by kernel_rfl
theorem nV{P:Program}{i:Nat}{z:Option Value}{k b:Nat}(h:(P.info? i).map (fun i=>(i.zero,i.size,i.bytes))=some (z,k,b)):(P.info? i).map (·.size)=some k:=by
 cases hq:P.info? i with
 |none=>simp[hq]at h
 |some x=>simp[hq]at h;simp[h]
theorem Wg{P:Program}{i:Nat}{z:Option Value}{k b:Nat}(h:(P.info? i).map (fun i=>(i.zero,i.size,i.bytes))=some (z,k,b)):(P.info? i).map (fun i=>(i.size,i.zero))=some (k,z):=by
 cases hq:P.info? i with
 |none=>simp[hq]at h
 |some x=>simp[hq]at h;simp[h]
theorem mQ{P:Program}{t:Nat}{z:List Value}{tg:List (Option Tag)}{fo:List Nat}{fs:Array Field}{b:Nat}(hu:P.underlying t=some (.struct fs))(hi:(P.info? t).map (fun i=>(i.zero,i.size,i.bytes))=some (some (.agg z.toArray),z.length,b))(hz:z.all (·.oneCell')=true)(hf:yw P z.length fs.toList fo=true):cT P t (.st z tg fo):=
 ⟨fs,hu,Wg hi,fun v hv=>List.all_eq_true.1 hz v hv,fun f k h=>by obtain⟨fd,h1,h2⟩:=(td hf).1 f k h;exact⟨fd,by simpa using h1,h2⟩,(td hf).2⟩
theorem eH{P:Program}{i:Nat}(h:(P.info? i).map (fun i=>Nat.beq i.size 1)=some true):(P.info? i).map (·.size)=some 1:=by
 cases hq:P.info? i with
 |none=>simp[hq]at h
 |some x=>simp[hq]at h;simp[h]
def tys:List (Nat×TK):= [(3, .int .i64),
 (2, .int .i64),
 (21, .int .i32),
 (5, .int .u8),
 (213, .int .u32),
 (108, .int .u64),
 (234, .int .u64),
 (12, .int .u64),
 (4, .bool),
 (9, .str),
 (111, .st [.slice none 0 0] [some (.sl .u8)] [0]),
 (188, .st [.int .i64 0, .slice none 0 0] [none,some (.sl .u8)] [0,1]),
 (95, .st [.int .i64 0, .int .i64 0, .int .i64 0, .slice none 0 0, .int .i64 0] [none,none,none,some .aT,none] [0,1,2,3,4]),
 (113, .st [.int .i64 0, .slice none 0 0] [none,some (.sl .u8)] [0,1]),
 (36, .st [.int .i64 0, .slice none 0 0] [none,some .aJ] [0,1]),
 (89, .st [.int .i64 0, .int .i64 0, .int .i64 0, .int .i64 0, .slice none 0 0, .int .i64 0, .slice none 0 0, .int .i64 0] [none,none,none,none,some (.sl .u8),none,some (.sl .u8),none] [0,1,2,3,4,5,6,7]),
 (91, .st [.int .i64 0, .int .i64 0, .int .i64 0, .int .i64 0, .slice none 0 0, .int .i64 0, .slice none 0 0, .int .i64 0, .int .i64 0, .int .i64 0, .int .i64 0, .int .i64 0, .slice none 0 0, .int .i64 0, .slice none 0 0, .int .i64 0] [none,none,none,none,some (.sl .u8),none,some (.sl .u8),none,none,none,none,none,some (.sl .u8),none,some (.sl .u8),none] [0,8]),
 (39, .st [.int .i64 0, .slice none 0 0, .slice none 0 0, .int .i64 0, .slice none 0 0, .int .i64 0, .int .i64 0, .int .i64 0, .slice none 0 0, .int .i64 0] [none,some .bp,some .aZ,none,some .aJ,none,none,none,some .int,none] [0,1,2,3,5,6,7,8,9]),
 (64, .st [.int .i64 0, .int .i64 0, .int .i64 0, .slice none 0 0] [none,none,none,some .u8] [0,1,2,3]),
 (116, .st [.int .i64 0, .int .i64 0, .int .i64 0] [none,none,none] [0,1,2]),
 (220, .st [.int .i64 0, .int .i64 0, .int .i64 0, .int .i64 0, .int .i64 0] [none,none,none,none,none] [0,1,2,3,4]),
 (206, .st [.int .i64 0, .slice none 0 0] [none,some .u8] [0,1]),
 (150, .st [.int .i64 0, .int .i64 0, .slice none 0 0, .slice none 0 0, .int .i64 0] [none,none,some .int,some .u8,none] [0,1,2,3,4]),
 (37, .sl .int 3),
 (24, .sl .u8 5),
 (29, .sl .str 9),
 (87, .sl (.sl .u8) 24),
 (146, .sl (.sl .int) 37),
 (170, .sl .DB 111),
 (93, .sl .aT 188),
 (32, .sl .bp 95),
 (34, .sl .aJ 113),
 (33, .sl .aZ 91),
 (78, .sl .eZ 116),
 (167, .sl .dY 220),
 (145, .sl .cM 150),
 (175, .sl (.sl .eZ) 78)]
def Γ(t:Nat):TK:=match look tys t with|some k=>k|none=> .other
def ty:Tag→Nat
 | .int=>3
 | .u8=>5
 | .str=>9
 | (.sl .u8)=>24
 | (.sl .int)=>37
 | (.sl (.sl .u8))=>87
 | .DB=>111
 | .aT=>188
 | .bp=>95
 | .aJ=>113
 | .gZ=>36
 | .dF=>89
 | .aZ=>91
 | .aW=>39
 | .Ev=>64
 | .eZ=>116
 | .dY=>220
 | .Plain=>206
 | .cM=>150
 | (.sl .eZ)=>78
 |_=>1000000000
theorem Zm:cT Tryz.prog 3 (.int .i64):=Tryz.underlying3
theorem Zn:cT Tryz.prog 2 (.int .i64):=Tryz.underlying2
theorem Wh:cT Tryz.prog 21 (.int .i32):=Tryz.underlying21
theorem Zo:cT Tryz.prog 5 (.int .u8):=Tryz.underlying5
theorem Sy:cT Tryz.prog 213 (.int .u32):=Tryz.underlying213
theorem Sz:cT Tryz.prog 108 (.int .u64):=Tryz.underlying108
theorem SA:cT Tryz.prog 234 (.int .u64):=Tryz.underlying234
theorem Wi:cT Tryz.prog 12 (.int .u64):=Tryz.underlying12
theorem Zp:cT Tryz.prog 4 (.bool):=Tryz.underlying4
theorem Zq:cT Tryz.prog 9 (.str):=Tryz.underlying9
theorem SB:cT Tryz.prog 111 (.st [.slice none 0 0] [some (.sl .u8)] [0]):=mQ Tryz.underlying111 HR rfl (by kernel_rfl)
theorem SC:cT Tryz.prog 188 (.st [.int .i64 0, .slice none 0 0] [none,some (.sl .u8)] [0,1]):=mQ Tryz.underlying188 HS rfl (by kernel_rfl)
theorem Wj:cT Tryz.prog 95 (.st [.int .i64 0, .int .i64 0, .int .i64 0, .slice none 0 0, .int .i64 0] [none,none,none,some .aT,none] [0,1,2,3,4]):=mQ Tryz.underlying95 Mv rfl (by kernel_rfl)
theorem SD:cT Tryz.prog 113 (.st [.int .i64 0, .slice none 0 0] [none,some (.sl .u8)] [0,1]):=mQ Tryz.underlying113 HT rfl (by kernel_rfl)
theorem Wk:cT Tryz.prog 36 (.st [.int .i64 0, .slice none 0 0] [none,some .aJ] [0,1]):=mQ Tryz.underlying36 Ss rfl (by kernel_rfl)
theorem Wl:cT Tryz.prog 89 (.st [.int .i64 0, .int .i64 0, .int .i64 0, .int .i64 0, .slice none 0 0, .int .i64 0, .slice none 0 0, .int .i64 0] [none,none,none,none,some (.sl .u8),none,some (.sl .u8),none] [0,1,2,3,4,5,6,7]):=mQ Tryz.underlying89 Su rfl (by kernel_rfl)
theorem Wm:cT Tryz.prog 91 (.st [.int .i64 0, .int .i64 0, .int .i64 0, .int .i64 0, .slice none 0 0, .int .i64 0, .slice none 0 0, .int .i64 0, .int .i64 0, .int .i64 0, .int .i64 0, .int .i64 0, .slice none 0 0, .int .i64 0, .slice none 0 0, .int .i64 0] [none,none,none,none,some (.sl .u8),none,some (.sl .u8),none,none,none,none,none,some (.sl .u8),none,some (.sl .u8),none] [0,8]):=mQ Tryz.underlying91 Mw rfl (by kernel_rfl)
theorem Wn:cT Tryz.prog 39 (.st [.int .i64 0, .slice none 0 0, .slice none 0 0, .int .i64 0, .slice none 0 0, .int .i64 0, .int .i64 0, .int .i64 0, .slice none 0 0, .int .i64 0] [none,some .bp,some .aZ,none,some .aJ,none,none,none,some .int,none] [0,1,2,3,5,6,7,8,9]):=mQ Tryz.underlying39 Sv rfl (by kernel_rfl)
theorem Wo:cT Tryz.prog 64 (.st [.int .i64 0, .int .i64 0, .int .i64 0, .slice none 0 0] [none,none,none,some .u8] [0,1,2,3]):=mQ Tryz.underlying64 Sw rfl (by kernel_rfl)
theorem SE:cT Tryz.prog 116 (.st [.int .i64 0, .int .i64 0, .int .i64 0] [none,none,none] [0,1,2]):=mQ Tryz.underlying116 HU rfl (by kernel_rfl)
theorem SF:cT Tryz.prog 220 (.st [.int .i64 0, .int .i64 0, .int .i64 0, .int .i64 0, .int .i64 0] [none,none,none,none,none] [0,1,2,3,4]):=mQ Tryz.underlying220 HV rfl (by kernel_rfl)
theorem SG:cT Tryz.prog 206 (.st [.int .i64 0, .slice none 0 0] [none,some .u8] [0,1]):=mQ Tryz.underlying206 N7 rfl (by kernel_rfl)
theorem SH:cT Tryz.prog 150 (.st [.int .i64 0, .int .i64 0, .slice none 0 0, .slice none 0 0, .int .i64 0] [none,none,some .int,some .u8,none] [0,1,2,3,4]):=mQ Tryz.underlying150 HW rfl (by kernel_rfl)
theorem Wp:cT Tryz.prog 37 (.sl .int 3):=⟨Tryz.underlying37,nV Ye⟩
theorem Wq:cT Tryz.prog 24 (.sl .u8 5):=⟨Tryz.underlying24,nV Yf⟩
theorem Wr:cT Tryz.prog 29 (.sl .str 9):=⟨Tryz.underlying29,nV Yg⟩
theorem Ws:cT Tryz.prog 87 (.sl (.sl .u8) 24):=⟨Tryz.underlying87,nV Sq⟩
theorem SI:cT Tryz.prog 146 (.sl (.sl .int) 37):=⟨Tryz.underlying146,nV Sr⟩
theorem SJ:cT Tryz.prog 170 (.sl .DB 111):=⟨Tryz.underlying170,nV HR⟩
theorem Wt:cT Tryz.prog 93 (.sl .aT 188):=⟨Tryz.underlying93,nV HS⟩
theorem Wu:cT Tryz.prog 32 (.sl .bp 95):=⟨Tryz.underlying32,nV Mv⟩
theorem Wv:cT Tryz.prog 34 (.sl .aJ 113):=⟨Tryz.underlying34,nV HT⟩
theorem Ww:cT Tryz.prog 33 (.sl .aZ 91):=⟨Tryz.underlying33,nV Mw⟩
theorem Wx:cT Tryz.prog 78 (.sl .eZ 116):=⟨Tryz.underlying78,nV HU⟩
theorem SK:cT Tryz.prog 167 (.sl .dY 220):=⟨Tryz.underlying167,nV HV⟩
theorem SL:cT Tryz.prog 145 (.sl .cM 150):=⟨Tryz.underlying145,nV HW⟩
theorem SM:cT Tryz.prog 175 (.sl (.sl .eZ) 78):=⟨Tryz.underlying175,nV Sx⟩
set_option maxRecDepth 100000 in
theorem kinds: ∀e,e∈tys→cT Tryz.prog e.1 e.2:=by
 simp only[tys,List.forall_mem_cons];exact⟨Zm,Zn,Wh,Zo,Sy,Sz,SA,Wi,Zp,Zq,SB,SC,Wj,SD,Wk,Wl,Wm,Wn,Wo,SE,SF,SG,SH,Wp,Wq,Wr,Ws,SI,SJ,Wt,Wu,Wv,Ww,Wx,SK,SL,SM,by simp⟩
set_option maxRecDepth 100000 in
theorem abJ: ∀e,e∈tys→(∀z tg fo,e.2≠ .st z tg fo)→(Tryz.prog.info? e.1).map (·.size)=some 1:=by
 simp only[tys,List.forall_mem_cons];refine⟨fun _=>eH (by kernel_rfl),fun _=>eH (by kernel_rfl),fun _=>eH (by kernel_rfl),fun _=>eH (by kernel_rfl),fun _=>eH (by kernel_rfl),fun _=>eH (by kernel_rfl),fun _=>eH (by kernel_rfl),fun _=>eH (by kernel_rfl),fun _=>eH (by kernel_rfl),fun _=>eH (by kernel_rfl),fun h=>absurd rfl (h _ _ _),fun h=>absurd rfl (h _ _ _),fun h=>absurd rfl (h _ _ _),fun h=>absurd rfl (h _ _ _),fun h=>absurd rfl (h _ _ _),fun h=>absurd rfl (h _ _ _),fun h=>absurd rfl (h _ _ _),fun h=>absurd rfl (h _ _ _),fun h=>absurd rfl (h _ _ _),fun h=>absurd rfl (h _ _ _),fun h=>absurd rfl (h _ _ _),fun h=>absurd rfl (h _ _ _),fun h=>absurd rfl (h _ _ _),fun _=>eH (by kernel_rfl),fun _=>eH (by kernel_rfl),fun _=>eH (by kernel_rfl),fun _=>eH (by kernel_rfl),fun _=>eH (by kernel_rfl),fun _=>eH (by kernel_rfl),fun _=>eH (by kernel_rfl),fun _=>eH (by kernel_rfl),fun _=>eH (by kernel_rfl),fun _=>eH (by kernel_rfl),fun _=>eH (by kernel_rfl),fun _=>eH (by kernel_rfl),fun _=>eH (by kernel_rfl),fun _=>eH (by kernel_rfl),by simp⟩
theorem X:Ctx Tryz.prog ty Γ where
 kind:=fun t=>by
  unfold Γ;split
  ·rename_i k hk;exact kinds (t,k) (dO hk)
  ·trivial
 one:=fun t h1 h2=>by
  unfold Γ at h1 h2;split at h1
  ·rename_i k hk;exact abJ (t,k) (dO hk) h1
  ·rename_i hk;rw[hk]at h2;exact absurd rfl h2
theorem bA(t:Tag)(h:ty t<1000000000):El Tryz.prog ty t:=by
 unfold ty at h;split at h
 ·exact Ye
 ·exact Yf
 ·exact Yg
 ·exact Sq
 ·exact Sr
 ·exact Zl
 ·exact HR
 ·exact HS
 ·exact Mv
 ·exact HT
 ·exact Ss
 ·exact Su
 ·exact Mw
 ·exact Sv
 ·exact Sw
 ·exact HU
 ·exact HV
 ·exact N7
 ·exact HW
 ·exact Sx
 ·exact absurd h (by decide)
abbrev So:=Sound ty Tryz.prog
end
section
theorem Wy:(Tryz.prog.info? 69).map (fun i=>(i.zero,i.size,i.bytes))=some (some (.agg #[.slice none 0 0, .int .i64 0, .int .i64 0]),3,40):=by kernel_rfl
theorem SN:cT Tryz.prog 69 (.st [.slice none 0 0, .int .i64 0, .int .i64 0] [some .u8,none,none] [0,1,2]):=mQ Tryz.underlying69 Wy rfl (by kernel_rfl)
def Wz:List (Nat×TK):=(69, .st [.slice none 0 0, .int .i64 0, .int .i64 0] [some .u8,none,none] [0,1,2])::tys
def Γ2(t:Nat):TK:=match look Wz t with|some k=>k|none=> .other
theorem SO: ∀e,e∈Wz→cT Tryz.prog e.1 e.2:=by
 intro e he;rcases List.mem_cons.1 he with rfl|he
 ·exact SN
 ·exact kinds e he
theorem Yh: ∀e,e∈Wz→(∀z tg fo,e.2≠ .st z tg fo)→(Tryz.prog.info? e.1).map (·.size)=some 1:=by
 intro e he h;rcases List.mem_cons.1 he with rfl|he
 ·exact absurd rfl (h _ _ _)
 ·exact abJ e he h
theorem X2:Ctx Tryz.prog ty Γ2 where
 kind:=fun t=>by
  unfold Γ2;split
  ·rename_i k hk;exact SO (t,k) (dO hk)
  ·trivial
 one:=fun t h1 h2=>by
  unfold Γ2 at h1 h2;split at h1
  ·rename_i k hk;exact Yh (t,k) (dO hk) h1
  ·rename_i hk;rw[hk]at h2;exact absurd rfl h2
end
section
theorem WA:(Tryz.prog.info? 44).map (fun i=>(i.zero,i.size,i.bytes))=some (some (.agg #[.int .i64 0, .slice none 0 0, .slice none 0 0, .int .i64 0, .slice none 0 0, .int .i64 0, .int .i64 0, .int .i64 0, .slice none 0 0, .int .i64 0]),10,144):=by kernel_rfl
theorem SP:cT Tryz.prog 44 (.st [.int .i64 0, .slice none 0 0, .slice none 0 0, .int .i64 0, .slice none 0 0, .int .i64 0, .int .i64 0, .int .i64 0, .slice none 0 0, .int .i64 0] [none,some .bp,some .aZ,none,some .aJ,none,none,none,some .int,none] [0]):=mQ Tryz.underlying44 WA rfl (by kernel_rfl)
def Zr:List (Nat×TK):=(44, .st [.int .i64 0, .slice none 0 0, .slice none 0 0, .int .i64 0, .slice none 0 0, .int .i64 0, .int .i64 0, .int .i64 0, .slice none 0 0, .int .i64 0] [none,some .bp,some .aZ,none,some .aJ,none,none,none,some .int,none] [0])::Wz
def Γ4(t:Nat):TK:=match look Zr t with|some k=>k|none=> .other
theorem Zs: ∀e,e∈Zr→cT Tryz.prog e.1 e.2:=by
 intro e he;rcases List.mem_cons.1 he with rfl|he
 ·exact SP
 ·exact SO e he
theorem abK: ∀e,e∈Zr→(∀z tg fo,e.2≠ .st z tg fo)→(Tryz.prog.info? e.1).map (·.size)=some 1:=by
 intro e he h;rcases List.mem_cons.1 he with rfl|he
 ·exact absurd rfl (h _ _ _)
 ·exact Yh e he h
theorem X4:Ctx Tryz.prog ty Γ4 where
 kind:=fun t=>by
  unfold Γ4;split
  ·rename_i k hk;exact Zs (t,k) (dO hk)
  ·trivial
 one:=fun t h1 h2=>by
  unfold Γ4 at h1 h2;split at h1
  ·rename_i k hk;exact abK (t,k) (dO hk) h1
  ·rename_i hk;rw[hk]at h2;exact absurd rfl h2
@[reducible] def hW (x:aW):Hp:= [(1000, .box [.lit (.int .i64 x.rows), .own 261, .own 262, .lit (.int .i64 x.aB.rows), .own 264, .lit (.int .i64 x.bn), .lit (.int .i64 x.seed), .lit (.int .i64 x.round), .own 268, .lit (.int .i64 x.cancelled)]),(261, .arr .bp x.az),(262, .arr .aZ x.af),(264, .arr .aJ x.aB.rounds),(268, .arr .int x.replaced)]
end
section
theorem MO:Tryz.prog.follows .mixedOrders=true:=by kernel_rfl
theorem nb:(∀(p:Prop) [Decidable p],(decide p=true)=p)∧(∀(p:Prop) [Decidable p],(decide p=false)= ¬p)∧(∀b:Bool,((!b)=true)=(b=false))∧(∀b:Bool,((!b)=false)=(b=true))∧
  (∀(α:Type) [BEq α] [LawfulBEq α] (a b:α),((a==b)=true)=(a=b))∧(∀(α:Type) [BEq α] [LawfulBEq α] (a b:α),((a !=b)=true)=(¬a=b))∧(∀(α:Type) [BEq α] [LawfulBEq α] (a b:α),((a==b)=false)=(¬a=b))∧(∀(α:Type) [BEq α] [LawfulBEq α] (a b:α),((a !=b)=false)=(a=b))∧
  (∀(α:Type) (a b:α),(a≠b)= ¬a=b)∧(∀a b:Int,(a>b)=(b<a))∧(∀a b:Int,(a≥b)=(b≤a))∧(∀a b:Nat,(a>b)=(b<a))∧(∀a b:Nat,(a≥b)=(b≤a))∧(∀a b:Int,(¬a<b)=(b≤a))∧(∀a b:Int,(¬a≤b)=(b<a))∧
  (∀(p:Prop) [Decidable p],(¬ ¬p)=p)∧(∀n:Nat,(n:Int).toNat=n)∧(∀m n:Nat,((m:Int)<n)=(m<n))∧(∀m n:Nat,((m:Int)≤n)=(m≤n))∧(∀a b:Nat,(¬a<b)=(b≤a))∧(∀a b:Nat,(¬a≤b)=(b<a))∧
  (∀(p:Prop) [Decidable p] (b:Bool),(if p then b else false)=(decide p&&b))∧(∀(p:Prop) [Decidable p] (b:Bool),(if p then true else b)=(decide p||b))∧(∀(p:Prop) [Decidable p] (b:Bool),(if p then false else b)=(!decide p&&b))∧(∀(p:Prop) [Decidable p] (b:Bool),(if p then b else true)=(!decide p||b))∧
  (∀a b:Bool,((a&&b)=true)=(a=true∧b=true))∧(∀a b:Bool,((a||b)=true)=(a=true∨b=true))∧(∀a b:Bool,((a&&b)=false)=(a=false∨b=false))∧(∀a b:Bool,((a||b)=false)=(a=false∧b=false))∧(∀(b:Bool),decide (b=true)=b):=by
 refine⟨by simp,by simp,by simp,by simp,fun _ _ _ a b=>propext beq_iff_eq,fun _ _ _ a b=>propext bne_iff_ne,fun _ _ _ a b=>propext beq_eq_false_iff_ne,fun _ _ _ a b=>propext bne_eq_false_iff_eq,by simp,by simp,by simp,by simp,by simp,by simp,by simp,by simp,by simp,by simp,by simp,by simp,by simp,by simp,by simp,by simp,by simp,by simp,by simp,by simp,by simp,by simp⟩
theorem lens:(∀n:Nat,(n:Int).toNat=n)∧(∀(α:Type) (a b:List α),(a++b).length=a.length+b.length)∧(∀(α:Type) (a:α),[a].length=1)∧(∀(α:Type) (a:α) (l:List α),(a::l).length=l.length+1)∧(∀(α:Type),([]:List α).length=0)∧(∀(α:Type) (n:Nat) (a:α),(List.replicate n a).length=n)∧
  (∀(α:Type) (l:List α) (n:Nat) (a:α),(l.set n a).length=l.length)∧(∀(α β:Type) (f:α→β) (l:List α),(l.map f).length=l.length)∧(∀(α:Type) (l:List α) (n:Nat),(l.take n).length=min n l.length)∧(∀(α:Type) (l:List α) (n:Nat),(l.drop n).length=l.length-n)∧(∀n:Nat,(List.range n).length=n):=by
 refine⟨by simp,by simp,by simp,by simp,by simp,by simp,by simp,by simp,by simp,by simp,by simp⟩
theorem bf{p:Prop}{l:List Prop}(h:p)(k:mP l):mP (p::l):=⟨h,k⟩
theorem aR:mP []:=True.intro
theorem bu{α:Type}(l:List α)(k:Nat)(d:α)(h:k<l.length):l.take (k+1)=l.take k++ [l.getD k d]:=by
 rw[List.take_add_one,List.getD_eq_getElem?_getD,List.getElem?_eq_getElem h];rfl
theorem bh(a:Int)(n:Nat)(h:a=n)(h2:n<9223372036854775807):IntKind.i64.wrap (a+1)=((n+1:Nat):Int):=by
 subst h;rw[IntWalk.i64_in _ (by omega)];omega
theorem D9{P:Program}{ty:Tag→Nat}{f:FuncId}{xs:List S1}{v:Value}(h:Sound ty P f xs [.a (.lit v)]){w:World}{us:List Value}(ha:bK (FD w) xs us)(hA:Cq w:=by first|assumption|exact trivial):Calls P f us.toArray w (NL w v):=by
 refine(h.2 w us hA ha).mono ?_;rintro e w' ⟨u,fp,rfl,hb,_,f1,f2,⟨rfl,_⟩,_⟩;exact⟨rfl,hb⟩
theorem yL{w:World}{v:Value}(h:v.oneCell'=true):FD w (.a (.lit v)) v:=⟨[],rfl,h,rfl⟩
theorem ct{P:Program}{ty:Tag→Nat}{w0:cD}{c:Code}{Q:Post}{st:St}(d:Nat){t:Tag}{l:List (T t)}(h:look st.sl d=some (.one (.a (.sl t l))))(k:l.length≤9223372036854775807→W P ty w0 c Q st):W P ty w0 c Q st:=by
 intro a w iv;obtain⟨env,g⟩:=iv.good;obtain⟨fp,⟨oa,cap,_,h1,h2,_⟩,_⟩:=g.slot d _ h;have e:maxLen=9223372036854775807:=by decide
 exact k (by omega) a w iv
theorem bl{P:Program}{ty:Tag→Nat}{w0:cD}{c:Code}{Q:Post}{st:St}(d i:Nat){cs:List V}{t:Tag}{l:List (T t)}(h:look st.sl d=some (.one (.agg cs)))(hc:cs[i]? =some (.sl t l))(k:l.length≤9223372036854775807→W P ty w0 c Q st):W P ty w0 c Q st:=by
 intro a w iv;obtain⟨env,g⟩:=iv.good;obtain⟨us,_,hr⟩:=g.slot d _ h;obtain⟨u,_,fp,⟨oa,cap,_,h1,h2,_⟩,_⟩:=hr.at hc;have e:maxLen=9223372036854775807:=by decide
 exact k (by omega) a w iv
theorem qE{α:Type} [DecidableEq α](a b:List α)(d:α)(k:Nat)(ha:k<a.length)(hb:k<b.length)(h:a.take k=b.take k)(he:a.getD k d=b.getD k d):a.take (k+1)=b.take (k+1):=by
 rw[bu a k d ha,bu b k d hb,h,he]
theorem xj{α:Type} [BEq α] [LawfulBEq α](a b:List α)(d:α)(k:Nat)(he:a.getD k d≠b.getD k d):(a==b)=false:=by
 rw[beq_eq_false_iff_ne];rintro rfl;exact he rfl
theorem xk{α:Type} [BEq α] [LawfulBEq α](a b:List α)(k:Nat)(hk:k=a.length)(hl:a.length=b.length)(h:a.take k=b.take k):(a==b)=true:=by
 rw[List.take_of_length_le (by omega),List.take_of_length_le (by omega)]at h;rw[h];simp
theorem AP{α:Type} [BEq α] [LawfulBEq α](a b:List α)(hl:(a.length:Int)≠b.length):(a==b)=false:=by
 rw[beq_eq_false_iff_ne];rintro rfl;exact hl rfl
theorem SQ{x y:UInt8}(h:(x.toNat:Int)=y.toNat):x=y:=by
 have:x.toNat=y.toNat:=by omega
 exact UInt8.toNat_inj.1 this
theorem lG(a b:List UInt8):aX a++aX b=aX (a++b):=by
 apply ByteArray.ext;simp[aX]
theorem AQ(a:List UInt8):(aX a).data.toList=a:=rfl
theorem bZ(a:List UInt8):(aX a).size=a.length:=rfl
theorem J3(l:List (List UInt8)):l.map ((fun x:ByteArray=>x.data.toList)∘aX)=l:=List.map_id l
theorem fE:IntKind.i64.max=9223372036854775807:=by decide
end
section
theorem SR{α:Type}(f:α→Nat)(l:List α)(d:α)(k:Nat)(h:k<l.length):((l.take (k+1)).map f).sum=((l.take k).map f).sum+f (l.getD k d):=
 Jl l f k _ (by rw[List.getD_eq_getElem?_getD,List.getElem?_eq_getElem h];rfl)
theorem WB(x:UInt8):UInt8.ofNat (Int.toNat ((x.toNat:Nat):Int))=x:=by simp
theorem oZ(n:Int):0≤IntKind.u8.wrap n∧IntKind.u8.wrap n<256:=by
 unfold IntKind.wrap;simp only[IntKind.signed,IntKind.bits];simp;omega
theorem u8n(x:UInt8):0≤((x.toNat:Nat):Int)∧((x.toNat:Nat):Int)<256:=by
 have:=x.toNat_lt;omega
theorem abL(n:Int):(((UInt8.ofNat (IntKind.u8.wrap n).toNat).toNat:Nat):Int)=IntKind.u8.wrap n:=by
 have h:=oZ n;generalize IntKind.u8.wrap n=m at h;simp;omega
section
variable{α:Type}{mk:Int→α→α}{mn:α→Nat}
end
end
section
theorem bO{a:Int}(h: -9223372036854775808≤a∧a≤9223372036854775807):IntKind.i64.wrap a=a:=IntWalk.i64_in _ (by omega)
theorem AR(n:Int):IntKind.u8.wrap n=n % 256:=by
 unfold IntKind.wrap;simp only[IntKind.signed,IntKind.bits];simp
def b8(n:Int):UInt8:=UInt8.ofNat (IntKind.u8.wrap n).toNat
theorem yM(n:Int):((b8 n).toNat:Int)=n % 256:=by unfold b8;rw[abL,AR]
theorem Mx{x y:UInt8}(h:(x.toNat:Int)=y.toNat):x=y:=SQ h
theorem ofNat_toNat(n:Int)(h0:0≤n)(h1:n<256):((UInt8.ofNat n.toNat).toNat:Int)=n:=by
 simp;omega
theorem ofNat_eq{n:Int}{x:UInt8}(h0:0≤n)(h1:n<256)(h:n=x.toNat):UInt8.ofNat n.toNat=x:=by
 apply Mx;rw[ofNat_toNat n h0 h1,h]
theorem yN{a b:Int}(h:a % 256=b % 256):b8 a=b8 b:=by
 apply Mx;rw[yM,yM,h]
theorem ew{a b:Int}(h:0≤a):a.tmod b=a % b:=Int.tmod_eq_emod_of_nonneg h
theorem mR{a b:Int}(h:0≤a):a.tdiv b=a/b:=Int.tdiv_eq_ediv_of_nonneg h
theorem md_eq(p q:Int)(h1:1≤q)(h2:q≤1000000000000):(IntKind.i64.wrap (p.tmod q+q)).tmod q=p % q:=by
 have hb: -q<p.tmod q∧p.tmod q<q:=⟨Int.lt_tmod_of_pos p (by omega),Int.tmod_lt_of_pos p (by omega)⟩;rw[bO (by omega),ew (by omega),Int.add_emod_right];rcases Int.le_total 0 p with h|h
 ·rw[ew h,Int.emod_emod_of_dvd _ (Int.dvd_refl q)]
 ·have e:p.tmod q=p-q*p.tdiv q:=by have:=Int.tmod_add_mul_tdiv p q;omega
  rw[e,Int.sub_mul_emod_self_left]
def hs1(h v:Int):Int:=(h*1000003+v % 2147483647+13)% 2147483647
def hsh(l:List Int):Int:=l.foldl hs1 11
def kh(k:Int)(l:List Int):Int:=hsh (k::(l++ [k]))
theorem Qc(h v:Int):0≤hs1 h v∧hs1 h v<2147483647:=⟨Int.emod_nonneg _ (by decide),Int.emod_lt_of_pos _ (by decide)⟩
theorem qF{α β:Type}(f:β→α→β)(b:β)(l:List α)(k:Nat)(d:α)(h:k<l.length):(l.take (k+1)).foldl f b=f ((l.take k).foldl f b) (l.getD k d):=by
 rw[bu l k d h,List.foldl_append];rfl
theorem AS: ∀l:List Int,0≤hsh l∧hsh l<2147483647:=by
 have g: ∀(l:List Int) (a:Int),(0≤a∧a<2147483647)→0≤l.foldl hs1 a∧l.foldl hs1 a<2147483647:=by
  intro l;induction l with
  |nil=>intro a h;exact h
  |cons x r ih=>intro a _;exact ih _ (Qc a x)
 exact fun l=>g l 11 (by decide)
theorem dz(k:Int)(l:List Int):0≤kh k l∧kh k l<2147483647:=AS _
theorem Zt{h v:Int}(h0:0≤h)(h1:h<2147483647):(IntKind.i64.wrap (IntKind.i64.wrap (IntKind.i64.wrap (h*1000003)+v % 2147483647)+13)).tmod 2147483647=hs1 h v:=by
 have hv:0≤v % 2147483647∧v % 2147483647<2147483647:=⟨Int.emod_nonneg _ (by decide),Int.emod_lt_of_pos _ (by decide)⟩;rw[bO (a:=h*1000003) (by omega),bO (a:=h*1000003+v % 2147483647) (by omega),bO (by omega),ew (by omega)];rfl
def As(n:Int):Int:=if n=0 then 1 else n
theorem C6{n:Int}(h:0≤n):(if n>1 then n else 1)=As n:=by
 unfold As;split<;>split<;>omega
theorem o7{n:Int}(h:0≤n∧n<2147483647):1≤As n∧As n<2147483647:=by unfold As;split<;>omega
theorem abM{h:Int}(h0:0≤h)(h1:h<2147483647):0≤h*h∧h*h≤4611686009837453316:=by
 have:=Int.mul_le_mul (show h≤2147483646 by omega) (show h≤2147483646 by omega) h0 (by decide);exact⟨Int.mul_nonneg h0 h0,by omega⟩
def cs(s k:Int):Int:=(kh s [47,k]*kh s [47,k]+5)% 2147483647
theorem tD(s k:Int):0≤cs s k∧cs s k<2147483647:=⟨Int.emod_nonneg _ (by decide),Int.emod_lt_of_pos _ (by decide)⟩
theorem cs_eq{h:Int}(h0:0≤h)(h1:h<2147483647):(IntKind.i64.wrap (IntKind.i64.wrap (h*h)+5)).tmod 2147483647=(h*h+5)% 2147483647:=by
 have:=abM h0 h1;rw[bO (a:=h*h) (by omega),bO (by omega),ew (by omega)]
theorem aee{x:Int}(h:0≤x):IntKind.i64.wrap (BitVec.ofInt IntKind.i64.bits x&&&BitVec.ofInt IntKind.i64.bits 1).toNat=x % 2:=by
 obtain⟨n,rfl⟩:=Int.eq_ofNat_of_zero_le h;have e:(BitVec.ofInt IntKind.i64.bits (n:Int)&&&BitVec.ofInt IntKind.i64.bits 1).toNat=n % 2:=by
  rw[BitVec.toNat_and];have h1:(BitVec.ofInt IntKind.i64.bits 1).toNat=1:=by decide
  have h2:(BitVec.ofInt IntKind.i64.bits (n:Int)).toNat=n % 2^64:=by
   rw[BitVec.ofInt_natCast,BitVec.toNat_ofNat];rfl
  rw[h1,h2,Nat.and_one_is_mod];omega
 rw[e,bO (by omega)];omega
def rsb(h:Int):Int:=h*h % 2147483647/512 % 2
theorem Zu{h:Int}(h0:0≤h)(h1:h<2147483647):IntKind.i64.wrap (BitVec.ofInt IntKind.i64.bits (((IntKind.i64.wrap (h*h)).tmod 2147483647).fdiv (2^(min (Int.toNat 9) IntKind.i64.bits)))&&&BitVec.ofInt IntKind.i64.bits 1).toNat=rsb h:=by
 have:=abM h0 h1;have e:(2:Int)^(min (Int.toNat 9) IntKind.i64.bits)=512:=by decide
 rw[bO (a:=h*h) (by omega),ew (by omega),e,Int.fdiv_eq_ediv_of_nonneg _ (by decide)];have hm:0≤h*h % 2147483647:=Int.emod_nonneg _ (by decide);rw[aee (by omega)];rfl
theorem Qd(h:Int):rsb h=0∨rsb h=1:=by unfold rsb;omega
def ef:List UInt8→List UInt8→List UInt8
 | [],b=>b
 |a,[]=>a
 |x::a,y::b=>(x^^^y)::ef a b
theorem jU(a:List UInt8):ef a []=a:=by cases a<;>rfl
theorem oK(a:List UInt8):ef [] a=a:=by cases a<;>rfl
theorem dG: ∀a b:List UInt8,(ef a b).length=max a.length b.length
 | [],b=>by simp[ef]
 |x::a,[]=>by simp[ef]
 |x::a,y::b=>by simp[ef,dG a b]
theorem Gr: ∀a b:List UInt8,ef a b=ef b a
 | [],b=>by rw[oK,jU]
 |x::a,[]=>by rw[oK,jU]
 |x::a,y::b=>by rw[ef,ef,Gr a b,UInt8.xor_comm]
theorem SS(x y:UInt8):UInt8.ofNat (IntKind.u8.wrap ((BitVec.ofInt IntKind.u8.bits (x.toNat:Int)^^^BitVec.ofInt IntKind.u8.bits (y.toNat:Int)).toNat:Int)).toNat=x^^^y:=by
 have h:(BitVec.ofInt IntKind.u8.bits (x.toNat:Int)^^^BitVec.ofInt IntKind.u8.bits (y.toNat:Int)).toNat=(x^^^y).toNat:=by
  rw[BitVec.ofInt_natCast,BitVec.ofInt_natCast,BitVec.toNat_xor,BitVec.toNat_ofNat,BitVec.toNat_ofNat,UInt8.toNat_xor];have hx:=x.toNat_lt;have hy:=y.toNat_lt;show x.toNat % 2^8^^^y.toNat % 2^8=_
  rw[Nat.mod_eq_of_lt (by omega),Nat.mod_eq_of_lt (by omega)]
 rw[h,AR];apply ofNat_eq<;>have:=(x^^^y).toNat_lt<;>omega
def WC(l:List UInt8)(i:Nat):UInt8:=l.getD i 0
theorem o8: ∀(a b:List UInt8) (k:Nat),k<max a.length b.length→(ef a b).take (k+1)=(ef a b).take k++ [WC a k^^^WC b k]
 | [],b,k,h=>by
   rw[oK,bu b k 0 (by simpa using h)];simp[WC]
 |x::a,[],k,h=>by
  rw[jU,bu (x::a) k 0 (by simpa using h)];simp[WC]
 |x::a,y::b,0,h=>by simp[ef,WC]
 |x::a,y::b,k+1,h=>by
  rw[ef,List.take_succ_cons,List.take_succ_cons,o8 a b k (by simp at h;omega)];simp[WC]
theorem getD_drop{α:Type}(l:List α)(k:Nat)(d:α)(h:k<l.length):l.drop k=l.getD k d::l.drop (k+1):=by
 rw[List.drop_eq_getElem_cons h,List.getD_eq_getElem?_getD,List.getElem?_eq_getElem h];rfl
theorem tE{α:Type}(f l:List α)(k:Nat)(d y:α)(h:k<l.length)(hf:k<f.length)(hy:f.getD k d=y):(f.take k++l.drop k).set k y=f.take (k+1)++l.drop (k+1):=by
 have hk:(f.take k).length=k:=by rw[List.length_take];omega
 rw[List.set_append_right _ _ (by omega),hk,Nat.sub_self,getD_drop l k d h,List.set_cons_zero,bu f k d hf,List.append_assoc,hy];rfl
theorem jV{α:Type}(f l:List α)(k:Nat)(d:α)(hf:k≤f.length):(f.take k++l.drop k).getD k d=l.getD k d:=by
 have hk:(f.take k).length=k:=by rw[List.length_take];omega
 rw[List.getD_eq_getElem?_getD,List.getElem?_append_right (by omega),hk,Nat.sub_self,List.getElem?_drop,List.getD_eq_getElem?_getD,Nat.add_zero]
theorem jW{α:Type}(f l:List α)(k:Nat)(hf:f.length=l.length)(h:k≤l.length):(f.take k++l.drop k).length=l.length:=by
 rw[List.length_append,List.length_take,List.length_drop];omega
theorem lH{α β:Type}(f:α→β)(l:List α)(k:Nat)(d:α)(h:k<l.length):(l.take (k+1)).map f=(l.take k).map f++ [f (l.getD k d)]:=by
 rw[bu l k d h,List.map_append];rfl
theorem xl{β:Type}(f:Nat→β)(k:Nat):(List.range (k+1)).map f=(List.range k).map f++ [f k]:=by
 rw[List.range_succ,List.map_append];rfl
theorem tF{α:Type}(p:α→Bool)(l:List α)(k:Nat)(d:α)(h:k<l.length):(l.take (k+1)).all p=((l.take k).all p&&p (l.getD k d)):=by
 rw[bu l k d h,List.all_append];simp
theorem SU{α:Type}(p:α→Bool)(l:List α)(k:Nat)(d:α)(h:k<l.length):(l.take (k+1)).any p=((l.take k).any p||p (l.getD k d)):=by
 rw[bu l k d h,List.any_append];simp
theorem yO{α:Type}(l:List α)(p:α→Bool)(d:α)(k:Nat)(h:k<l.length)(h2:p (l.getD k d)=true):l.any p=true:=by
 rw[List.any_eq_true];refine⟨l.getD k d,?_,h2⟩;rw[List.getD_eq_getElem?_getD,List.getElem?_eq_getElem h];simp
theorem Ea{α:Type}(l:List α)(p:α→Bool)(d:α)(k:Nat)(h:k<l.length)(h2:p (l.getD k d)=false):l.all p=false:=by
 rw[List.all_eq_false];refine⟨l.getD k d,?_,by rw[h2];decide⟩;rw[List.getD_eq_getElem?_getD,List.getElem?_eq_getElem h];simp
theorem xm{α:Type}(l:List α)(k:Nat)(d:α)(h:k<l.length):l[k]? =some (l.getD k d):=by
 rw[List.getD_eq_getElem?_getD,List.getElem?_eq_getElem h];rfl
theorem bC{α:Type}(l:List α)(k:Nat):(l.take k).length≤k:=by rw[List.length_take];omega
def inr(x lo hi:Int):Bool:=if decide (x≥lo)then decide (x≤hi)else false
theorem b7{x lo hi:Int}:(inr x lo hi=true)=(lo≤x∧x≤hi):=by simp[inr]
theorem Yi{x lo hi:Int}:(inr x lo hi=false)= ¬(lo≤x∧x≤hi):=by rw[←b7];simp
theorem Qe{α:Type}{l:List α}:(l.isEmpty=true)=(l= []):=by simp
theorem aQ:((∀(p:Prop) [Decidable p],(decide p=true)=p)∧(∀(p:Prop) [Decidable p],(decide p=false)= ¬p)∧(∀b:Bool,((!b)=true)=(b=false))∧(∀b:Bool,((!b)=false)=(b=true))∧(∀(α:Type) [BEq α] [LawfulBEq α] (a b:α),((a==b)=true)=(a=b))∧(∀(α:Type) [BEq α] [LawfulBEq α] (a b:α),((a !=b)=true)=(¬a=b))∧(∀(α:Type) [BEq α] [LawfulBEq α] (a b:α),((a==b)=false)=(¬a=b))∧(∀(α:Type) [BEq α] [LawfulBEq α] (a b:α),((a !=b)=false)=(a=b))∧(∀(α:Type) (a b:α),(a≠b)= ¬a=b)∧(∀a b:Int,(a>b)=(b<a))∧(∀a b:Int,(a≥b)=(b≤a))∧(∀a b:Nat,(a>b)=(b<a))∧(∀a b:Nat,(a≥b)=(b≤a))∧(∀a b:Int,(¬a<b)=(b≤a))∧(∀a b:Int,(¬a≤b)=(b<a))∧(∀(p:Prop) [Decidable p],(¬ ¬p)=p)∧(∀n:Nat,(n:Int).toNat=n)∧(∀m n:Nat,((m:Int)<n)=(m<n))∧(∀m n:Nat,((m:Int)≤n)=(m≤n))∧(∀a b:Nat,(¬a<b)=(b≤a))∧(∀a b:Nat,(¬a≤b)=(b<a))∧(∀(p:Prop) [Decidable p] (b:Bool),(if p then b else false)=(decide p&&b))∧(∀(p:Prop) [Decidable p] (b:Bool),(if p then true else b)=(decide p||b))∧(∀(p:Prop) [Decidable p] (b:Bool),(if p then false else b)=(!decide p&&b))∧(∀(p:Prop) [Decidable p] (b:Bool),(if p then b else true)=(!decide p||b))∧(∀a b:Bool,((a&&b)=true)=(a=true∧b=true))∧(∀a b:Bool,((a||b)=true)=(a=true∨b=true))∧(∀a b:Bool,((a&&b)=false)=(a=false∨b=false))∧(∀a b:Bool,((a||b)=false)=(a=false∧b=false))∧(∀(b:Bool),decide (b=true)=b))∧(∀x lo hi:Int,(inr x lo hi=true)=(lo≤x∧x≤hi))∧(∀x lo hi:Int,(inr x lo hi=false)= ¬(lo≤x∧x≤hi))∧(∀(α:Type) (l:List α),(l.isEmpty=true)=(l= [])):=⟨nb,fun _ _ _=>b7,fun _ _ _=>Yi,fun _ _=>Qe⟩
theorem J4(l:List Int)(k:Nat)(h:k<l.length):hsh (l.take (k+1))=(IntKind.i64.wrap (IntKind.i64.wrap (IntKind.i64.wrap (hsh (l.take k)*1000003)+(l.getD k (aG .int))% 2147483647)+13)).tmod 2147483647:=by
 rw[Zt (AS _).1 (AS _).2];exact qF hs1 11 l k _ h
def Fz(l:List UInt8):List Int:=(l.length:Int)::l.map fun c=>(c.toNat:Int)
theorem J5(l:List UInt8)(k:Nat)(h:k<l.length):(l.length:Int)::(l.take (k+1)).map (fun c=>(c.toNat:Int))=((l.length:Int)::(l.take k).map (fun c=>(c.toNat:Int)))++ [IntKind.i64.wrap ((l.getD k (aG .u8)).toNat:Int)]:=by
 have:=(l.getD k (aG .u8)).toNat_lt;rw[bO (by omega),lH (fun c:UInt8=>(c.toNat:Int)) l k (aG .u8) h];rfl
def stream(s:Int)(n:Nat):List UInt8:=(List.range n).map fun i:Nat=>b8 (cs s (100+(i:Int))/256)
theorem eU(s:Int)(n:Nat):(stream s n).length=n:=by simp[stream]
theorem B4(s:Int)(k:Nat)(h:k≤1000):stream s (k+1)=stream s k++ [UInt8.ofNat (IntKind.u8.wrap (IntKind.i64.wrap ((cs s (IntKind.i64.wrap (100+(k:Int)))).tdiv 256))).toNat]:=by
 have h1:=tD s (100+(k:Int));rw[bO (a:=100+(k:Int)) (by omega),mR h1.1,bO (by omega)];exact xl (fun i:Nat=>b8 (cs s (100+(i:Int))/256)) k
theorem B5{α:Type}(l:List (List α))(d:List α)(k:Nat)(h:k<l.length):((l.take (k+1)).map List.length).sum=((l.take k).map List.length).sum+(l.getD k d).length:=SR List.length l d k h
theorem yP{α:Type}(l:List (List α))(d:List α)(k:Nat)(h:k<l.length):(l.take (k+1)).flatten=(l.take k).flatten++l.getD k d:=by
 rw[bu l k d h,List.flatten_append];simp
theorem nW{α:Type}(l:List (List α))(k:Nat):(l.take k).flatten.length≤(l.map List.length).sum:=by
 rw[List.length_flatten];exact fX l List.length k
end
section
theorem qG{α:Type}(f l:List α)(k:Nat)(d y:α)(h:k<l.length)(hf:f.length=l.length)(hy:f.getD k d=y):f.take (k+1)++l.drop (k+1)=(f.take k++l.drop k).set k y:=(tE f l k d y h (by omega) hy).symm
theorem B6{α:Type}(f:List α)(k:Nat)(d y:α)(h:k<f.length)(hy:f.getD k d=y):f.take (k+1)=f.take k++ [y]:=by rw[bu f k d h,hy]
theorem mA{α:Type}(f l:List α)(k:Nat)(hf:f.length=l.length)(h:l.length≤k):f.take k++l.drop k=f:=by
 rw[List.take_of_length_le (by omega),List.drop_eq_nil_of_le h,List.append_nil]
theorem eI{β:Type}(n:Nat)(g:Nat→β)(k:Nat)(d:β)(h:k<n):((List.range n).map g).getD k d=g k:=by
 rw[List.getD_eq_getElem?_getD,List.getElem?_map,List.getElem?_range h];rfl
def lX(s:Int)(l:List UInt8):List UInt8:=(List.range l.length).map fun i:Nat=>b8 ((l.getD i (aG .u8)).toNat+kh s [(i:Int)]% 256)
theorem iP(s:Int)(l:List UInt8):(lX s l).length=l.length:=by simp[lX]
theorem Ka(s:Int)(l:List UInt8)(k:Nat)(h:k<l.length):(lX s l).getD k (aG .u8)=b8 ((l.getD k (aG .u8)).toNat+kh s [(k:Int)]% 256):=eI _ _ k _ h
theorem Qf(s:Int)(l:List UInt8)(k:Nat)(h:k<l.length):(lX s l).take (k+1)++l.drop (k+1)=((lX s l).take k++l.drop k).set k (UInt8.ofNat (IntKind.u8.wrap ((((lX s l).take k++l.drop k).getD k (aG .u8)).toNat+IntKind.u8.wrap ((kh s [(k:Int)]).tmod 256))).toNat):=by
 refine qG _ _ k (aG .u8) _ h (iP s l) ?_;rw[Ka s l k h,jV _ _ _ _ (by rw[iP];omega)];refine yN ?_;have:=dz s [(k:Int)];rw[AR ((kh s [(k:Int)]).tmod 256),ew this.1];omega
theorem Qg(s:Int)(l:List UInt8)(k:Nat)(h:k<l.length):(lX s l).take (k+1)=(lX s l).take k++ [UInt8.ofNat (IntKind.u8.wrap ((IntKind.i64.wrap (IntKind.i64.wrap ((l.getD k (aG .u8)).toNat:Int)+(kh s [(k:Int)]).tmod 256)).tmod 256)).toNat]:=by
 refine B6 _ k (aG .u8) _ (by rw[iP];exact h) ?_;rw[Ka s l k h];refine yN ?_;have:=dz s [(k:Int)];have hx:=(l.getD k (aG .u8)).toNat_lt;rw[ew this.1,bO (a:=((l.getD k (aG .u8)).toNat:Int)) (by omega),bO (by omega),ew (by omega)];omega
def decr(s:Int)(l:List UInt8):List UInt8:=(List.range l.length).map fun i:Nat=>b8 ((l.getD i (aG .u8)).toNat-kh s [(i:Int)]% 256)
theorem mU(s:Int)(l:List UInt8):(decr s l).length=l.length:=by simp[decr]
theorem Kb(s:Int)(l:List UInt8)(k:Nat)(h:k<l.length):(decr s l).getD k (aG .u8)=b8 ((l.getD k (aG .u8)).toNat-kh s [(k:Int)]% 256):=eI _ _ k _ h
theorem Qh(s:Int)(l:List UInt8)(k:Nat)(h:k<l.length):(decr s l).take (k+1)++l.drop (k+1)=((decr s l).take k++l.drop k).set k (UInt8.ofNat (IntKind.u8.wrap ((((decr s l).take k++l.drop k).getD k (aG .u8)).toNat-IntKind.u8.wrap ((kh s [(k:Int)]).tmod 256))).toNat):=by
 refine qG _ _ k (aG .u8) _ h (mU s l) ?_;rw[Kb s l k h,jV _ _ _ _ (by rw[mU];omega)];refine yN ?_;have:=dz s [(k:Int)];rw[AR ((kh s [(k:Int)]).tmod 256),ew this.1];omega
theorem Qi(s:Int)(l:List UInt8)(k:Nat)(h:k<l.length):(decr s l).take (k+1)=(decr s l).take k++ [UInt8.ofNat (IntKind.u8.wrap ((IntKind.i64.wrap (IntKind.i64.wrap ((l.getD k (aG .u8)).toNat:Int)-(kh s [(k:Int)]).tmod 256))% 256)).toNat]:=by
 refine B6 _ k (aG .u8) _ (by rw[mU];exact h) ?_;rw[Kb s l k h];refine yN ?_;have:=dz s [(k:Int)];have hx:=(l.getD k (aG .u8)).toNat_lt;rw[ew this.1,bO (a:=((l.getD k (aG .u8)).toNat:Int)) (by omega),bO (by omega)];omega
theorem SY(a b:List UInt8)(k:Nat)(h:k<max a.length b.length):(ef a b).getD k (aG .u8)=a.getD k 0^^^b.getD k 0:=by
 have h1:=o8 a b k h;have h2:=bu (ef a b) k (aG .u8) (by rw[dG];exact h);rw[h1]at h2;have:=List.append_inj_right h2 rfl;simp only[List.cons.injEq,and_true]at this;rw[←this];rfl
theorem Kc(p q:List UInt8)(k:Nat)(h:k<q.length)(hl:q.length≤p.length):(ef p q).take (k+1)++p.drop (k+1)=((ef p q).take k++p.drop k).set k (UInt8.ofNat (IntKind.u8.wrap ((BitVec.ofInt IntKind.u8.bits ((((ef p q).take k++p.drop k).getD k (aG .u8)).toNat:Int)^^^BitVec.ofInt IntKind.u8.bits ((q.getD k (aG .u8)).toNat:Int)).toNat:Int)).toNat):=by
 refine qG _ _ k (aG .u8) _ (by omega) (by rw[dG];omega) ?_;rw[SY p q k (by omega),jV _ _ _ _ (by rw[dG];omega),SS];rfl
theorem Ke(p q:List UInt8)(k:Nat)(h:q.length≤k)(hl:q.length≤p.length)(hk:k≤q.length):(ef p q).take k++p.drop k=ef p q:=by
 have hk:k=q.length:=by omega
 subst hk;have key: ∀p q:List UInt8,q.length≤p.length→(ef p q).take q.length++p.drop q.length=ef p q:=by
  intro p;induction p with
  |nil=>intro q h;cases q with|nil=>rfl|cons _ _=>simp at h
  |cons x p ih=>intro q h;cases q with
   |nil=>rw[jU];rfl
   |cons y q=>simp only[ef,List.length_cons,List.take_succ_cons,List.drop_succ_cons,List.cons_append];rw[ih q (by simpa using h)]
 exact key p q hl
theorem Zw(a b:List UInt8)(k:Nat)(ha:k<a.length)(hb:k<b.length):(ef a b).take (k+1)=(ef a b).take k++ [UInt8.ofNat (IntKind.u8.wrap ((BitVec.ofInt IntKind.u8.bits ((a.getD k (aG .u8)).toNat:Int)^^^BitVec.ofInt IntKind.u8.bits ((b.getD k (aG .u8)).toNat:Int)).toNat:Int)).toNat]:=by
 rw[o8 a b k (by omega),SS];rfl
theorem Kf{α:Type}(l:List α)(k:Nat)(d:α)(h:l.length≤k):l.getD k d=d:=by
 rw[List.getD_eq_getElem?_getD,List.getElem?_eq_none h];rfl
theorem abO(a b:List UInt8)(k:Nat)(ha:k<a.length)(hb:b.length≤k):(ef a b).take (k+1)=(ef a b).take k++ [UInt8.ofNat (((a.getD k (aG .u8)).toNat:Int)).toNat]:=by
 rw[o8 a b k (by omega),WB];have:WC b k=0:=Kf b k 0 hb;rw[this];simp;rfl
theorem abP(a b:List UInt8)(k:Nat)(ha:a.length≤k)(hb:k<b.length):(ef a b).take (k+1)=(ef a b).take k++ [UInt8.ofNat (IntKind.u8.wrap ((BitVec.ofInt IntKind.u8.bits (0:Int)^^^BitVec.ofInt IntKind.u8.bits ((b.getD k (aG .u8)).toNat:Int)).toNat:Int)).toNat]:=by
 rw[o8 a b k (by omega)];have:WC a k=0:=Kf a k 0 ha;rw[this];have:=SS 0 (b.getD k (aG .u8));rw[show((0:UInt8).toNat:Int)=0 from rfl]at this;rw[this];rfl
theorem HZ{l:List (List UInt8)}(h:cE List.length l≤1048576)(k:Nat)(hk:k<l.length):(l.getD k (aG (.sl .u8))).length≤1048576:=ig h (xm l k _ hk)
def fu(key round dir rows:Int):Int:=if(1≤rows∧rows≤64)∧0≤round∧round≤1000000000000 then cs (kh key [79,round,dir]) 0 % rows else-1
def Cy(seed round rows:Int):Int:=if 1≤rows∧rows≤64 then cs (kh seed [157,round]) 0 % rows else-1
def mV(key counter:Int)(data:List UInt8):Int:=kh key ([71,counter]++data.map fun c=>(c.toNat:Int))
theorem Ob(l:List UInt8)(counter:Int)(k:Nat)(h:k<l.length): [71,counter]++(l.take (k+1)).map (fun c=>(c.toNat:Int))=([71,counter]++(l.take k).map (fun c=>(c.toNat:Int)))++ [IntKind.i64.wrap ((l.getD k (aG .u8)).toNat:Int)]:=by
 have:=(l.getD k (aG .u8)).toNat_lt;rw[bO (by omega),lH (fun c:UInt8=>(c.toNat:Int)) l k (aG .u8) h,List.append_assoc]
def four(n:Int):List UInt8:= [b8 n,b8 (n/256),b8 (n/65536),b8 (n/16777216)]
theorem Oc(n:Int): [UInt8.ofNat (IntKind.u8.wrap n).toNat,UInt8.ofNat (IntKind.u8.wrap (n.fdiv (2^(min (Int.toNat 8) IntKind.i64.bits)))).toNat,UInt8.ofNat (IntKind.u8.wrap (n.fdiv (2^(min (Int.toNat 16) IntKind.i64.bits)))).toNat,UInt8.ofNat (IntKind.u8.wrap (n.fdiv (2^(min (Int.toNat 24) IntKind.i64.bits)))).toNat]=four n:=by
 have e1:(2:Int)^(min (Int.toNat 8) IntKind.i64.bits)=256:=by decide
 have e2:(2:Int)^(min (Int.toNat 16) IntKind.i64.bits)=65536:=by decide
 have e3:(2:Int)^(min (Int.toNat 24) IntKind.i64.bits)=16777216:=by decide
 rw[e1,e2,e3,Int.fdiv_eq_ediv_of_nonneg _ (by decide),Int.fdiv_eq_ediv_of_nonneg _ (by decide),Int.fdiv_eq_ediv_of_nonneg _ (by decide)];rfl
def iX(p:Plain):Bool:=(inr p.kind 0 3)&&decide ((p.body.length:Int)≤14)
def eM(k:Int):Bool:=inr k 1 2147483646
def jr(key counter:Int)(p:Plain):Bool:=eM key&&(inr counter 0 1000000000000)&&iX p
def fI(key counter:Int)(p:Plain):List UInt8:= [b8 p.kind,b8 p.body.length]++p.body++(stream (kh key [61,counter]) 18).drop p.body.length
def mW(key counter:Int):Int:=As (kh key [67,counter])
def tI(key counter:Int)(p:Plain):List UInt8:=if jr key counter p then lX (mW key counter) (fI key counter p)++four (mV key counter (lX (mW key counter) (fI key counter p)))else []
def qH(key dir:Int):Int:=As (kh key [83,dir])
def cover(seed:Int):List UInt8:=stream (kh seed [73]) 24
end
section
theorem Zx(b c:Bool):(if b=true then true else c)=(b||c):=by cases b<;>rfl
theorem tK(b c:Bool):(if b=true then c else false)=(b&&c):=by cases b<;>rfl
theorem WD(a b:Int):(!decide (a<b))=decide (b≤a):=by rw[←decide_not];congr 1;exact propext Int.not_lt
theorem WE(a b:Int):(!decide (a≤b))=decide (b<a):=by rw[←decide_not];congr 1;exact propext Int.not_le
theorem bne_not(a b:Int):(a !=b)= !(a==b):=rfl
theorem deq(a b:Int):decide (a=b)=(a==b):=rfl
theorem aO:(∀b c:Bool,(if b=true then true else c)=(b||c))∧(∀b c:Bool,(if b=true then c else false)=(b&&c))∧(∀a b:Int,a>b↔b<a)∧(∀a b:Nat,a>b↔b<a)∧(∀a b:Int,a≥b↔b≤a)∧(∀a b:Nat,a≥b↔b≤a)∧(∀a b:Int,(!decide (a<b))=decide (b≤a))∧(∀a b:Int,(!decide (a≤b))=decide (b<a))∧(∀a b:Int,(a !=b)= !(a==b))∧(∀a b:Int,decide (a=b)=(a==b))∧(∀(p:Prop) [Decidable p] [Decidable (¬p)],decide (¬p)= !decide p)∧(∀(α:Type) (a b:α),(a≠b)= ¬a=b)∧(∀a b:Bool,(!(a&&b))=(!a|| !b))∧(∀a b:Bool,(!(a||b))=(!a&& !b))∧(∀b:Bool,(!!b)=b)∧(∀b:Bool,(b&&true)=b)∧(∀b:Bool,(true&&b)=b)∧(∀b:Bool,(b||false)=b)∧(∀b:Bool,(false||b)=b)∧(∀n:Nat,(n:Int).toNat=n):=⟨Zx,tK,fun _ _=>Iff.rfl,fun _ _=>Iff.rfl,fun _ _=>Iff.rfl,fun _ _=>Iff.rfl,WD,WE,bne_not,deq,fun _=>decide_not,fun _ _ _=>rfl,Bool.not_and,Bool.not_or,Bool.not_not,Bool.and_true,Bool.true_and,Bool.or_false,Bool.false_or,Int.toNat_natCast⟩
theorem abQ{E R S:Bool}(h:E=true)(he:E= !R):(R&&S)=false:=by
 rw[h]at he;cases R with
 |false=>rfl
 |true=>exact absurd he (by decide)
theorem bH{E R:Bool}(h:E=true)(he:E= !R):R=false:=by
 rw[h]at he;cases R with
 |false=>rfl
 |true=>exact absurd he (by decide)
theorem bF{E R:Bool}(h:E=false)(he:E= !R):R=true:=by
 rw[h]at he;cases R with
 |true=>rfl
 |false=>exact absurd he (by decide)
def cL(d:DB):Bool:=decide ((d.rows.length:Int)≤64)&&d.rows.all fun r=>decide ((r.length:Int)=24)
def mX(rows:Int)(l:List aT)(i:Nat):Bool:=inr (l.getD i (aG .aT)).client 0 7&& !(decide ((0:Int)<i)&&decide ((l.getD i (aG .aT)).client≤(l.getD (i-1) (aG .aT)).client))&&cL (l.getD i (aG .aT)).share&&(((l.getD i (aG .aT)).share.rows.length:Int)==rows)
def tL(s:bp):Bool:=inr s.id 0 3&&inr s.rows 1 64&&inr s.behavior 0 3&&inr s.round 0 100000&&decide ((s.received.length:Int)≤8)
def cj(s:bp):Bool:=tL s&&(List.range s.received.length).all (mX s.rows s.received)
def oM(rows:Int)(l:List aJ)(i:Nat):Bool:=inr (l.getD i (aG .aJ)).round 0 100000&& !(decide ((0:Int)<i)&&decide ((l.getD i (aG .aJ)).round≤(l.getD (i-1) (aG .aJ)).round))&&cL (l.getD i (aG .aJ)).db&&(((l.getD i (aG .aJ)).db.rows.length:Int)==rows)
def Eg(a:gZ):Bool:=inr a.rows 1 64&&decide ((a.rounds.length:Int)≤8)
def eV(a:gZ):Bool:=Eg a&&(List.range a.rounds.length).all (oM a.rows a.rounds)
def dr(a:gZ):Int:=if a.rounds.length=0 then-1 else(a.rounds.getD (a.rounds.length-1) (aG .aJ)).round
def long(b:List UInt8):Bool:=decide ((14:Int)<b.length)
def c8(c:dF):Bool:=inr c.id 0 7&&inr c.cU 0 7&& !(c.id==c.cU)&&eM c.key&&decide ((c.aM.length:Int)≤16)&&decide ((c.inbox.length:Int)≤16)&& !c.aM.any long&& !c.inbox.any long&&inr c.sent 0 c.aM.length&&inr c.next 0 100000
def jY(a b:dF):Bool:=(a.id==b.id)&&(a.cU==b.cU)&&(a.key==b.key)&&(a.seed==b.seed)&&(a.aM==b.aM)
def vU(a b:List (List UInt8)):Bool:=decide ((a.length:Int)≤b.length)&&(a==b.take a.length)
def cP(d:aZ):Bool:=c8 d.live&&c8 d.saved&&jY d.live d.saved&&decide (d.saved.sent≤d.live.sent)&&decide (d.saved.next≤d.live.next)&&vU d.saved.inbox d.live.inbox
def bT(n:Int):Bool:=inr n 2 4
def FG(x:aW)(i:Nat):Bool:=cj (x.az.getD i (aG .bp))&&((x.az.getD i (aG .bp)).id==(i:Int))&&((x.az.getD i (aG .bp)).rows==x.rows)&&((x.az.getD i (aG .bp)).round==x.round)&&decide (((x.az.getD i (aG .bp)).received.length:Int)≤0)
def okD(x:aW)(i:Nat):Bool:=cP (x.af.getD i (aG .aZ))&&((x.af.getD i (aG .aZ)).live.id==(i:Int))&&((x.af.getD i (aG .aZ)).live.cU==((i^^^1:Nat):Int))&&((x.af.getD i (aG .aZ)).live.key==(x.af.getD (i^^^1) (aG .aZ)).live.key)&&decide ((x.af.getD i (aG .aZ)).live.next≤x.round)
def Kg(x:aW):Bool:=inr x.rows 1 64&&bT x.az.length&&inr x.af.length 2 8&&((x.af.length:Int).tmod 2==0)&&eV x.aB&&(x.aB.rows==x.rows)&&decide (dr x.aB<x.round)&&eM x.bn&&inr x.round 0 100000&&decide (0≤x.cancelled)
def okW(x:aW):Bool:=Kg x&&(List.range x.az.length).all (FG x)&&(List.range x.af.length).all (okD x)
theorem gx{p:Nat→Bool}{k:Nat}(h:(List.range k).all p=true)(hk:p k=true):(List.range (k+1)).all p=true:=by
 rw[List.range_succ,List.all_append,h];simp[hk]
theorem iQ{p:Nat→Bool}{k n:Nat}(h:k<n)(hk:p k=false):(List.range n).all p=false:=by
 rw[List.all_eq_false];exact⟨k,List.mem_range.2 h,by rw[hk];decide⟩
def fidx{α:Type}(p:α→Bool)(l:List α):Int:=if l.any p then(l.findIdx p:Int)else-1
theorem tM{α:Type}{p:α→Bool}{l:List α}{k:Nat}(d:α)(h:k<l.length)(h1:(l.take k).any p=false)(h2:p (l.getD k d)=true):fidx p l=k:=by
 have ha:l.any p=true:=yO l p d k h h2;have e:l=l.take k++l.getD k d::l.drop (k+1):=by rw[←getD_drop l k d h,List.take_append_drop]
 unfold fidx;rw[if_pos ha];have hf:l.findIdx p=k:=by
  rw[List.findIdx_eq h];refine⟨?_,fun j hj=> ?_⟩
  ·rw[List.getD_eq_getElem?_getD,List.getElem?_eq_getElem h]at h2;exact h2
  ·rw[List.any_eq_false]at h1;have:=h1 l[j] (by rw[List.mem_take_iff_getElem];exact⟨j,by omega,rfl⟩);simpa using this
 rw[hf]
theorem AX{α:Type}{p:α→Bool}{l:List α}(h:l.any p=false):fidx p l= -1:=by unfold fidx;rw[if_neg (by rw[h];decide)]
theorem H6{α:Type}(p:α→Bool)(l:List α):decide (fidx p l≥0)=l.any p:=by
 unfold fidx;cases h:l.any p
 ·rw[if_neg (by decide)];rfl
 ·rw[if_pos rfl];simp
theorem qI{α:Type}{p:α→Bool}{l:List α}{k:Nat}(d:α)(h:k<l.length)(h1:(l.take k).any p=false)(h2:p (l.getD k d)=false):(l.take (k+1)).any p=false:=by
 rw[SU p l k d h,h1,h2];rfl
theorem tN{α:Type}(l:List α)(p:α→Bool):l.all p= !(l.any fun b=> !p b):=by
 induction l with
 |nil=>rfl
 |cons a r ih=>simp[ih]
end
section
theorem tO(k n:Nat)(h:k<n)(he:n % 2=0):k^^^1<n:=by
 have h1:(k^^^1)/2=k/2:=by
  have:=Nat.xor_div_two (a:=k) (b:=1);simpa using this
 have h2:k^^^1<2*(k/2)+2:=by
  have:=Nat.div_add_mod (k^^^1) 2;have:=Nat.mod_lt (k^^^1) (show 0<2 by decide);omega
 omega
theorem CB(k:Nat)(h:k<2^62):IntKind.i64.wrap (BitVec.ofInt IntKind.i64.bits (k:Int)^^^BitVec.ofInt IntKind.i64.bits 1).toNat=((k^^^1:Nat):Int):=by
 have h2:(BitVec.ofInt IntKind.i64.bits (k:Int)^^^BitVec.ofInt IntKind.i64.bits 1).toNat=k^^^1:=by
  rw[BitVec.toNat_xor];have h1:(BitVec.ofInt IntKind.i64.bits 1).toNat=1:=by decide
  have h2:(BitVec.ofInt IntKind.i64.bits (k:Int)).toNat=k % 2^64:=by rw[BitVec.ofInt_natCast,BitVec.toNat_ofNat];rfl
  rw[h1,h2,Nat.mod_eq_of_lt (by omega)]
 have hx:=Nat.xor_lt_two_pow (n:=62) h (show 1<2^62 by decide);rw[h2,bO (by omega)]
theorem qK{x:aW}(h:Kg x=true):x.af.length % 2=0∧x.af.length≤8∧2≤x.af.length:=by
 simp only[Kg,b7,Bool.and_eq_true,beq_iff_eq]at h;have h1:=h.1.1.1.1.1.1.2;have h2:=h.1.1.1.1.1.1.1.2;rw[ew (by omega)]at h1;omega
theorem l5{x:aW}(h:okW x=true):Kg x=true:=by simp only[okW,Bool.and_eq_true]at h;exact h.1.1
theorem dV{x:aW}(h:okW x=true):x.az.length≤4∧2≤x.az.length:=by
 have:=l5 h;simp only[Kg,bT,b7,Bool.and_eq_true,beq_iff_eq]at this;have h1:=this.1.1.1.1.1.1.1.1.2;omega
def svW(x:aW):Bool:=(List.range x.az.length).all (FG x)&&bT x.az.length
def Yj(x:aW):Bool:=((x.af.length:Int).tmod 2==0)&&inr x.af.length 2 8&&(List.range x.af.length).all (okD x)
def fT(x:aW)(c:Int):Bool:=inr c 0 (x.af.length-1)
def dX(x:aW)(c:Int):Bool:=fT x c&&decide (((c.toNat^^^1:Nat):Int)<x.af.length)
def cC(c:dF):Int:=if c.id<c.cU then 0 else 1
def kE(c:dF)(at':Int):List UInt8:=tI (qH c.key (cC c)) at' ⟨1,c.aM.getD at'.toNat (aG (.sl .u8))⟩
def nP(c:dF)(r n:Int):Bool:=c8 c&&inr r 0 100000&&inr n 1 64
def mZ(c:dF)(r n:Int):Int:=if nP c r n=true then(if c.sent<c.aM.length then fu c.key r (cC c) n else Cy c.seed r n)else 0
def gz(c:dF)(r n:Int):List UInt8:=if nP c r n=true then(if c.sent<c.aM.length then kE c c.sent else cover (kh c.seed [r]))else []
theorem AZ{c:dF}{r n:Int}(h:nP c r n=true):0≤c.sent∧c.sent≤c.aM.length:=by
 simp only[nP,c8,b7,Bool.and_eq_true]at h;exact h.1.1.1.2
theorem nY{k c:Int}{p:Plain}(h:jr k c p=true):p.body.length≤14:=by
 simp only[jr,iX,Bool.and_eq_true,decide_eq_true_eq]at h;omega
def rE(d:DB)(i:Int):Bool:=inr i 0 (d.rows.length-1)
def rowAt(d:DB)(i:Int):List UInt8:=if rE d i=true then d.rows.getD i.toNat (aG (.sl .u8))else []
def pE(x:aW)(c f:dF)(n:Nat)(r:aJ):Nat:=
 if r.round<f.next∨c.aM.length≤n then n else
 if(rE r.db (fu c.key r.round (cC c) x.rows)&&(rowAt r.db (fu c.key r.round (cC c) x.rows)==kE c n))=true then n+1 else n
def eJ(x:aW)(c f:dF)(l:List aJ):Nat:=l.foldl (pE x c f) f.inbox.length
theorem B8(x:aW)(c f:dF): ∀(l:List aJ) (n:Nat),c.aM.length≤n→l.foldl (pE x c f) n=n
 | [],_,_=>rfl
 |r::l,n,h=>by
  rw[List.foldl_cons,show pE x c f n r=n from if_pos (Or.inr h)];exact B8 x c f l n h
theorem Gt(x:aW)(c f:dF)(l:List aJ)(k:Nat):eJ x c f (l.take k)≤f.inbox.length+k:=by
 have g: ∀(l:List aJ) (n:Nat),l.foldl (pE x c f) n≤n+l.length:=by
  intro l;induction l with
  |nil=>intro n;exact Nat.le_refl _
  |cons r l ih=>
   intro n;have h1:pE x c f n r≤n+1:=by unfold pE;split;omega;split<;>omega
   have:=ih (pE x c f n r);rw[List.foldl_cons,List.length_cons];omega
 have:=g (l.take k) f.inbox.length;have:=bC l k;unfold eJ;omega
theorem B9(x:aW)(c f:dF)(l:List aJ)(k:Nat)(h:k<l.length):eJ x c f (l.take (k+1))=pE x c f (eJ x c f (l.take k)) (l.getD k (aG .aJ)):=qF _ _ l k _ h
theorem Kh(x:aW)(c f:dF)(l:List aJ)(k:Nat)(h:c.aM.length≤eJ x c f (l.take k)):eJ x c f l=eJ x c f (l.take k):=by
 have e:l=l.take k++l.drop k:=(List.take_append_drop k l).symm
 conv=>lhs;rw[e]
 unfold eJ at h ⊢;rw[List.foldl_append,B8 x c f _ _ h]
def j0(x:aW)(i:Int):Bool:=if dX x i=true then decide ((x.af.getD i.toNat (aG .aZ)).live.sent≤(eJ x (x.af.getD i.toNat (aG .aZ)).live (x.af.getD (i.toNat^^^1) (aG .aZ)).live x.aB.rounds:Int))else false
theorem Qj{x:aW}{c:Int}(hd:x.af.length≤1048576):(fT x c&&fT x (IntKind.i64.wrap (BitVec.ofInt IntKind.i64.bits c^^^BitVec.ofInt IntKind.i64.bits 1).toNat))=dX x c:=by
 by_cases hc:fT x c=true
 ·have hc2:0≤c∧c<x.af.length:=by simp only[fT,b7]at hc;omega
  obtain⟨n,rfl⟩:=Int.eq_ofNat_of_zero_le hc2.1;rw[CB n (by omega),dX,hc];simp only[Bool.true_and,fT,Int.toNat_natCast];rw[Bool.eq_iff_iff,b7,decide_eq_true_eq];omega
 ·rw[Bool.not_eq_true]at hc;rw[dX,hc];rfl
theorem Qk{x:aW}{c:Int}(hd:x.af.length≤1048576):(inr c 0 (x.af.length-1)&&decide (IntKind.i64.wrap (BitVec.ofInt IntKind.i64.bits c^^^BitVec.ofInt IntKind.i64.bits 1).toNat<(x.af.length:Int)))=dX x c:=by
 by_cases hc:fT x c=true
 ·have hc2:0≤c∧c<x.af.length:=by simp only[fT,b7]at hc;omega
  obtain⟨n,rfl⟩:=Int.eq_ofNat_of_zero_le hc2.1;rw[CB n (by omega)];rfl
 ·rw[Bool.not_eq_true]at hc;rw[dX,hc,show inr c 0 (x.af.length-1)=false from hc];rfl
theorem H7{x:aW}{i:Int}(h:dX x i=true):0≤i∧i.toNat<x.af.length∧i.toNat^^^1<x.af.length∧i=(i.toNat:Int):=by
 simp only[dX,fT,b7,Bool.and_eq_true,decide_eq_true_eq]at h;omega
end
section
def Zy(s:Int)(i:Nat):Int:=rsb (kh s [(i:Int),41])
def cg(s rows:Int):List Int:=if 0≤rows∧rows≤64 then(List.range rows.toNat).map (Zy s)else []
theorem gU(s rows:Int):(cg s rows).length≤64:=by
 unfold cg;split
 ·simp;omega
 ·simp
theorem Ej(s rows:Int)(k:Nat)(h0:(k:Int)<rows)(h1:rows≤64):k<(cg s rows).length:=by
 rw[cg,if_pos (by omega)];simp;omega
theorem yT(s rows:Int)(k:Nat)(h0:(k:Int)<rows)(h1:rows≤64):(cg s rows).take (k+1)=(cg s rows).take k++ [IntKind.i64.wrap (BitVec.ofInt IntKind.i64.bits (((IntKind.i64.wrap (kh s [(k:Int),41]*kh s [(k:Int),41])).tmod 2147483647).fdiv (2^(min (Int.toNat 9) IntKind.i64.bits)))&&&BitVec.ofInt IntKind.i64.bits 1).toNat]:=by
 rw[Zu (dz _ _).1 (dz _ _).2,bu _ _ 0 (Ej s rows k h0 h1)];congr 2;rw[cg,if_pos (by omega),eI _ _ _ _ (by omega)];rfl
theorem Ca(s rows:Int)(k:Nat)(h:rows≤64→rows≤k):(cg s rows).take k=cg s rows:=by
 refine List.take_of_length_le ?_;unfold cg;split
 ·simp;omega
 ·simp
def fY(v:List Int)(rows:Int):Bool:=(decide ((v.length:Int)=rows)&&decide (rows≤64))&&v.all fun x=>inr x 0 1
theorem Mz(v:List Int)(rows:Int):fY v rows=((inr rows 0 64&&decide ((v.length:Int)=rows))&& !(v.any fun x=> !inr x 0 1)):=by
 have e:(v.all fun x=>inr x 0 1)= !(v.any fun x=> !inr x 0 1):=by rw[List.not_any_eq_all_not];simp
 rw[fY,e];by_cases h:(v.length:Int)=rows
 ·subst h;simp[inr]
 ·simp[h]
theorem Gu{v:List Int}{r:Int}(h:fY v r=true):(v.length:Int)=r∧r≤64:=by
 simp only[fY,Bool.and_eq_true,decide_eq_true_eq]at h;exact h.1
theorem Gv{v:List Int}{r:Int}(h:fY v r=true)(k:Nat)(hk:k<v.length):v.getD k (aG .int)=0∨v.getD k (aG .int)=1:=by
 simp only[fY,Bool.and_eq_true,List.all_eq_true,b7]at h;have:=h.2 (v.getD k (aG .int)) (by rw[List.getD_eq_getElem?_getD,List.getElem?_eq_getElem hk];exact List.getElem_mem _);omega
def xb(x y:Int):Int:=if x=y then 0 else 1
theorem abR{x y:Int}(hx:x=0∨x=1)(hy:y=0∨y=1):IntKind.i64.wrap (BitVec.ofInt IntKind.i64.bits x^^^BitVec.ofInt IntKind.i64.bits y).toNat=xb x y:=by
 rcases hx with rfl|rfl<;>rcases hy with rfl|rfl<;>decide
def kG(a b:List Int):Bool:=fY a a.length&&fY b a.length
def oO(a b:List Int):List Int:=if kG a b then List.zipWith xb a b else []
theorem mF{a b:List Int}(h:kG a b=true):b.length=a.length∧a.length≤64:=by
 simp only[kG,Bool.and_eq_true]at h;have h1:=Gu h.1;have h2:=Gu h.2;omega
theorem xu{a b:List Int}(h:kG a b=true):oO a b=List.zipWith xb a b:=by rw[oO,if_pos h]
theorem yU{a b:List Int}(h:kG a b=true):(List.zipWith xb a b).length=a.length:=by
 have:=mF h;rw[List.length_zipWith];omega
theorem MA(a b:List Int):(oO a b).length≤64:=by
 cases h:kG a b with
 |true=>rw[xu h,yU h];exact(mF h).2
 |false=>rw[oO,if_neg (by rw[h];decide)];simp
theorem Od{a b:List Int}(h:kG a b=true)(k:Nat)(hk:k<a.length):(List.zipWith xb a b).getD k (aG .int)=IntKind.i64.wrap (BitVec.ofInt IntKind.i64.bits (a.getD k (aG .int))^^^BitVec.ofInt IntKind.i64.bits (b.getD k (aG .int))).toNat:=by
 have hl:=mF h;have h':=h;simp only[kG,Bool.and_eq_true]at h';rw[abR (Gv h'.1 k hk) (Gv h'.2 k (by omega))];rw[List.getD_eq_getElem?_getD,List.getD_eq_getElem?_getD,List.getD_eq_getElem?_getD,List.getElem?_zipWith,List.getElem?_eq_getElem hk,List.getElem?_eq_getElem (show k<b.length by omega)];rfl
theorem Ki{a b:List Int}(h:kG a b=true)(k:Nat)(hk:k<b.length):(List.zipWith xb a b).take (k+1)++a.drop (k+1)=((List.zipWith xb a b).take k++a.drop k).set k (IntKind.i64.wrap (BitVec.ofInt IntKind.i64.bits (((List.zipWith xb a b).take k++a.drop k).getD k (aG .int))^^^BitVec.ofInt IntKind.i64.bits (b.getD k (aG .int))).toNat):=by
 have hl:=mF h;have hz:=yU h;rw[tE _ _ k (aG .int) _ (by omega) (by omega)];rw[jV _ _ _ _ (by omega),Od h k (by omega)]
theorem Kj{a b:List Int}(h:kG a b=true)(k:Nat)(hk:k<a.length):(List.zipWith xb a b).take (k+1)=(List.zipWith xb a b).take k++ [IntKind.i64.wrap (BitVec.ofInt IntKind.i64.bits (a.getD k (aG .int))^^^BitVec.ofInt IntKind.i64.bits (b.getD k (aG .int))).toNat]:=by
 rw[bu _ k (aG .int) (by rw[yU h];exact hk),Od h k hk]
def j6(rows i:Int):Bool:=inr rows 1 64&&inr i 0 (IntKind.i64.wrap (rows-1))
def yV(rows i:Int):List Int:=if j6 rows i then(List.replicate rows.toNat (aG .int)).set i.toNat 1 else []
theorem Ek{rows i:Int}(h:j6 rows i=true):1≤rows∧rows≤64∧0≤i∧i<rows:=by
 simp only[j6,Bool.and_eq_true,b7]at h;rw[bO (by omega)]at h;omega
theorem A2{rows i:Int}(h:j6 rows i=true):yV rows i=(List.replicate rows.toNat (aG .int)).set i.toNat 1:=by rw[yV,if_pos h]
theorem A3{rows i:Int}(h:j6 rows i=false):yV rows i= []:=by rw[yV,if_neg (by rw[h];decide)]
theorem A4(rows i:Int):(yV rows i).length≤64:=by
 cases h:j6 rows i with
 |true=>rw[A2 h];have:=Ek h;simp;omega
 |false=>rw[A3 h];simp
def Em(rows i:Int)(sd:List Int):Bool:= !decide (((yV rows i).length:Int)=0)&&bT (IntKind.i64.wrap ((sd.length:Int)+1))
def yW(rows i:Int)(sd:List Int):List Int:=sd.foldl (fun l s=>oO l (cg s rows)) (yV rows i)
def pF(rows i:Int)(sd:List Int):List (List Int):=if Em rows i sd then sd.map (fun s=>cg s rows)++ [yW rows i sd]else []
theorem En(rows i:Int)(sd:List Int)(k:Nat)(h:k<sd.length):yW rows i (sd.take (k+1))=oO (yW rows i (sd.take k)) (cg (sd.getD k (aG .int)) rows):=qF _ _ sd k _ h
theorem A5(rows i:Int)(sd:List Int):(yW rows i sd).length≤64:=by
 rcases List.eq_nil_or_concat sd with rfl| ⟨l,x,rfl⟩
 ·exact A4 _ _
 ·rw[List.concat_eq_append,yW,List.foldl_append];exact MA _ _
theorem Kk{rows i:Int}{sd:List Int}(h:Em rows i sd=true)(hl:sd.length≤1048576):sd.length≤3:=by
 simp only[Em,bT,Bool.and_eq_true,b7]at h;rw[bO (by omega)]at h;omega
def gA(n:Nat)(r row s:Int):List Int:=(List.range (n-1)).map fun i:Nat=>kh s [229,r,row,(i:Int)]
theorem ni(n:Nat)(r row s:Int):(gA n r row s).length=n-1:=by simp[gA]
theorem Cb(n:Nat)(r row s:Int)(k:Nat)(h:k<n-1):(gA n r row s).take (k+1)=(gA n r row s).take k++ [kh s [229,r,row,(k:Int)]]:=by
 rw[bu _ k (aG .int) (by rw[ni];exact h),gA,eI _ _ _ _ h]
theorem Oe(n:Nat)(h:n≤1048576):Hs 0 (IntKind.i64.wrap ((n:Int)-1))=((n-1:Nat):Int):=by
 rw[bO (by omega)];unfold Hs;split<;>omega
end
section
set_option maxRecDepth 100000
theorem getD_some{α:Type}(l:List α)(d:α)(k:Nat)(h:k<l.length):l[k]? =some (l.getD k d):=by
 rw[List.getD_eq_getElem?_getD,List.getElem?_eq_getElem h];rfl
def H9(x:DB):Nat:=(cE List.length) x.rows
def Cc(x:aT):Nat:=H9 x.share
def dL(x:bp):Nat:=(cE Cc) x.received
def bY(x:dF):Nat:=(cE List.length) x.aM+(cE List.length) x.inbox
def bt(x:aZ):Nat:=bY x.live+bY x.saved
def dM(x:aJ):Nat:=H9 x.db
def dA(x:gZ):Nat:=(cE dM) x.rounds
def dP(x:aW):Nat:=(cE dL) x.az+(cE bt) x.af+dA x.aB+List.length x.replaced
end
section
theorem Ia{x:aW}(h:dP x≤1048576):x.af.length≤1048576:=by
 have h2:cE bt x.af≤1048576:=by unfold dP at h;omega
 exact cA h2
theorem vB{x:aW}(h:dP x≤1048576):x.aB.rounds.length≤1048576:=by
 have h2:dA x.aB≤1048576:=by unfold dP at h;omega
 unfold dA at h2;exact cA h2
end
section
def Vm:List UInt8:=List.replicate 24 (aG .u8)
def dD(rows:Int):DB:=⟨if 0≤rows∧rows≤64 then List.replicate rows.toNat Vm else []⟩
theorem S2{α:Type}(n k:Nat)(x:α)(h:k<n):(List.replicate n x).take (k+1)=(List.replicate n x).take k++ [x]:=by
 rw[List.take_replicate,List.take_replicate,Nat.min_eq_left (by omega),Nat.min_eq_left (by omega),List.replicate_succ']
theorem pG(rows:Int):(dD rows).rows.length≤64:=by
 unfold dD;dsimp only;split
 ·simp;omega
 ·simp
theorem mH{rows:Int}(h:0≤rows∧rows≤64):(dD rows).rows=List.replicate rows.toNat Vm:=by unfold dD;dsimp only;rw[if_pos h]
theorem Es(rows:Int)(k:Nat)(h0:(k:Int)<rows)(h1:rows≤64):(dD rows).rows.take (k+1)=(dD rows).rows.take k++ [Vm]:=by
 rw[mH (by omega)];exact S2 _ _ _ (by omega)
theorem S3(rows:Int)(k:Nat)(h0:(k:Int)<rows)(h1:rows≤64):k<(dD rows).rows.length:=by
 rw[mH (by omega)];simp;omega
theorem Gx(rows:Int)(k:Nat)(h:rows≤64→rows≤k):(dD rows).rows.take k=(dD rows).rows:=by
 refine List.take_of_length_le ?_;unfold dD;dsimp only;split
 ·simp;omega
 ·simp
def kH(d:DB)(i:Int)(c:List UInt8):Bool:=inr i 0 (IntKind.i64.wrap ((d.rows.length:Int)-1))&&decide ((c.length:Int)=24)
def Cd(d:DB)(i:Int)(c:List UInt8):DB:=if kH d i c then⟨d.rows.set i.toNat c⟩else d
theorem Ib{d:DB}{i:Int}{c:List UInt8}(hl:d.rows.length≤1048576)(h:kH d i c=true):0≤i∧i<d.rows.length∧c.length=24:=by
 simp only[kH,Bool.and_eq_true,b7,decide_eq_true_eq]at h;rw[bO (by omega)]at h;omega
theorem vC{d:DB}{i:Int}{c:List UInt8}(h:kH d i c=true):Cd d i c=⟨d.rows.set i.toNat c⟩:=by rw[Cd,if_pos h]
theorem Gy{d:DB}{i:Int}{c:List UInt8}(h:kH d i c=false):Cd d i c=d:=by rw[Cd,if_neg (by rw[h];decide)]
def iz(a b:DB):Bool:=(cL a&&cL b)&&decide ((a.rows.length:Int)=b.rows.length)
def fJ(a b:DB):List (List UInt8):=List.zipWith ef a.rows b.rows
def gu(a b:DB):DB:=if iz a b then⟨fJ a b⟩else a
theorem Et{d:DB}(h:cL d=true):d.rows.length≤64:=by
 simp only[cL,Bool.and_eq_true,decide_eq_true_eq]at h;omega
theorem nZ{d:DB}(h:cL d=true)(k:Nat)(hk:k<d.rows.length):(d.rows.getD k (aG (.sl .u8))).length=24:=by
 simp only[cL,Bool.and_eq_true,List.all_eq_true,decide_eq_true_eq]at h;have:=h.2 (d.rows.getD k (aG (.sl .u8))) (by rw[List.getD_eq_getElem?_getD,List.getElem?_eq_getElem hk];exact List.getElem_mem _);omega
theorem tV{a b:DB}(h:iz a b=true):cL a=true∧cL b=true∧a.rows.length=b.rows.length∧a.rows.length≤64:=by
 simp only[iz,Bool.and_eq_true,decide_eq_true_eq]at h;have:=Et h.1.1;exact⟨h.1.1,h.1.2,by omega,this⟩
theorem jx{a b:DB}(h:iz a b=true):(fJ a b).length=a.rows.length:=by
 have:=tV h;rw[fJ,List.length_zipWith];omega
theorem xw{a b:DB}(h:iz a b=true)(k:Nat)(hk:k<a.rows.length):(fJ a b).getD k (aG (.sl .u8))=ef (a.rows.getD k (aG (.sl .u8))) (b.rows.getD k (aG (.sl .u8))):=by
 have hb:=tV h;rw[fJ,List.getD_eq_getElem?_getD,List.getD_eq_getElem?_getD,List.getD_eq_getElem?_getD,List.getElem?_zipWith,List.getElem?_eq_getElem hk,List.getElem?_eq_getElem (show k<b.rows.length by omega)];rfl
theorem Km{a b:DB}(h:iz a b=true)(k:Nat)(hk:k<a.rows.length):(fJ a b).take (k+1)=(fJ a b).take k++ [ef (a.rows.getD k (aG (.sl .u8))) (b.rows.getD k (aG (.sl .u8)))]:=by
 rw[bu _ k (aG (.sl .u8)) (by rw[jx h];exact hk),xw h k hk]
theorem Kn{a b:DB}(h:iz a b=true)(k:Nat)(hk:k<b.rows.length):(fJ a b).take (k+1)++a.rows.drop (k+1)=((fJ a b).take k++a.rows.drop k).set k (ef (((fJ a b).take k++a.rows.drop k).getD k (aG (.sl .u8))) (b.rows.getD k (aG (.sl .u8)))):=by
 have hb:=tV h;have hl:=jx h;rw[tE _ _ k (aG (.sl .u8)) _ (by omega) (by omega)];rw[jV _ _ _ _ (by omega),xw h k (by omega)]
theorem WI{a b:DB}(h:iz a b=true)(k:Nat)(hk:k<b.rows.length):((fJ a b).take k++a.rows.drop k).getD k (aG (.sl .u8))=a.rows.getD k (aG (.sl .u8)):=by
 have hb:=tV h;have hl:=jx h;rw[jV _ _ _ _ (by omega)]
theorem vD{a b:DB}(h:iz a b=true):gu a b=⟨fJ a b⟩:=by rw[gu,if_pos h]
theorem pH{a b:DB}(h:iz a b=false):gu a b=a:=by rw[gu,if_neg (by rw[h];decide)]
def gV(x:aW)(c:Int):List Int:=(List.range (x.az.length-1)).map fun i:Nat=>kh x.seed [223,x.round,c,(i:Int)]
theorem jy(x:aW)(c:Int):(gV x c).length=x.az.length-1:=by simp[gV]
theorem Ce(x:aW)(c:Int)(k:Nat)(h:k<x.az.length-1):(gV x c).take (k+1)=(gV x c).take k++ [kh x.seed [223,x.round,c,(k:Int)]]:=by
 rw[bu _ k (aG .int) (by rw[jy];exact h),gV,eI _ _ _ _ h]
def pJ(rows i:Int)(c:List UInt8):Bool:=inr rows 1 64&&kH (dD rows) i c
def S4(rows i:Int)(c:List UInt8):DB:=if inr rows 1 64 then Cd (dD rows) i c else⟨[]⟩
theorem qL:Vm.length=24:=by simp[Vm]
theorem Gz(rows:Int):cE List.length (dD rows).rows≤1048576:=by
 have h:=pG rows;have h2:((dD rows).rows.map List.length).sum≤24*(dD rows).rows.length:=by
  unfold dD;dsimp only;split
  ·simp[qL];omega
  ·simp
 unfold cE;omega
end
section
theorem iS{d:DB}:cL d=true↔d.rows.length≤64∧ ∀r,r∈d.rows→r.length=24:=by
 simp only[cL,Bool.and_eq_true,decide_eq_true_eq,List.all_eq_true];constructor
 ·rintro⟨h1,h2⟩;exact⟨by omega,fun r hr=>by have:=h2 r hr;omega⟩
 ·rintro⟨h1,h2⟩;exact⟨by omega,fun r hr=>by have:=h2 r hr;omega⟩
theorem dQ{d:DB}(h:cL d=true):cE List.length d.rows≤1048576:=by
 obtain⟨h1,h2⟩:=iS.1 h;have h3: ∀l:List (List UInt8),(∀r,r∈l→r.length=24)→(l.map List.length).sum=24*l.length:=by
  intro l;induction l with
  |nil=>intro _;rfl
  |cons x r ih=>intro hl;rw[List.map_cons,List.sum_cons,ih fun y hy=>hl y (by simp[hy]),hl x (by simp),List.length_cons];omega
 have:=h3 _ h2;unfold cE;omega
theorem Kw{a b:DB}(ha:cL a=true)(hb:cL b=true):cL (gu a b)=true:=by
 cases h:iz a b with
 |false=>rw[pH h];exact ha
 |true=>
  rw[vD h,iS];have hl:=jx h;refine⟨by have:=Et ha;show(fJ a b).length≤64;omega,fun r hr=> ?_⟩;obtain⟨k,hk⟩:=List.getElem?_of_mem hr;have hk2:k<(fJ a b).length:=(List.getElem?_eq_some_iff.1 hk).1;have hg:=xw h k (by omega);rw[List.getD_eq_getElem?_getD,hk]at hg;have hx:=tV h;rw[show r=_ from hg,dG,nZ ha k (by omega),nZ hb k (by omega)];rfl
def gf(s rows:Int):List (List UInt8):=(List.range rows.toNat).map fun r:Nat=>stream (IntKind.i64.wrap (s+IntKind.i64.wrap (1000*(r:Int)))) (24:Int).toNat
def QX(s rows:Int):DB:=⟨gf s rows⟩
theorem lK(s rows:Int):(gf s rows).length=rows.toNat:=by simp[gf]
theorem zf(s rows:Int)(k:Nat)(h:k<rows.toNat):(gf s rows).take (k+1)=(gf s rows).take k++ [stream (IntKind.i64.wrap (s+IntKind.i64.wrap (1000*(k:Int)))) (24:Int).toNat]:=by
 rw[bu _ k (aG (.sl .u8)) (by rw[lK];exact h),gf,eI _ _ _ _ h]
theorem Ih(s rows:Int)(h:rows≤64):cL (QX s rows)=true:=by
 rw[iS];refine⟨by show(gf s rows).length≤64;rw[lK];omega,fun r hr=> ?_⟩;obtain⟨k,_,rfl⟩:=List.mem_map.1 (show r∈gf s rows from hr);exact eU _ _
def rS(rows i:Int)(c:List UInt8)(sd:List Int):Bool:=pJ rows i c&&bT (IntKind.i64.wrap ((sd.length:Int)+1))
def wP(rows i:Int)(c:List UInt8)(sd:List Int):DB:=sd.foldl (fun d s=>gu d (QX s rows)) (S4 rows i c)
def pM(rows i:Int)(c:List UInt8)(sd:List Int):List DB:=if rS rows i c sd then sd.map (fun s=>QX s rows)++ [wP rows i c sd]else []
theorem Ii{rows i:Int}{c:List UInt8}(h:pJ rows i c=true):cL (S4 rows i c)=true∧1≤rows∧rows≤64:=by
 simp only[pJ,Bool.and_eq_true]at h;obtain⟨h1,h2⟩:=h;have hr:1≤rows∧rows≤64:=by rw[b7]at h1;exact h1
 have hb:=Ib (Nat.le_trans (pG rows) (by decide)) h2;refine⟨?_,hr⟩;rw[S4,if_pos h1,vC h2,iS,mH (by omega)];refine⟨by simp;omega,fun r hr=> ?_⟩;rcases List.mem_or_eq_of_mem_set hr with h|rfl
 ·rw[(List.mem_replicate.1 h).2,qL]
 ·exact hb.2.2
theorem Ez(rows i:Int)(c:List UInt8)(sd:List Int)(k:Nat)(h:k<sd.length):wP rows i c (sd.take (k+1))=gu (wP rows i c (sd.take k)) (QX (sd.getD k (aG .int)) rows):=qF _ _ sd k _ h
theorem EA{rows i:Int}{c:List UInt8}(h:pJ rows i c=true)(sd:List Int):cL (wP rows i c sd)=true:=by
 have hu:=Ii h;have g: ∀(l:List Int) (d:DB),cL d=true→cL (l.foldl (fun d s=>gu d (QX s rows)) d)=true:=by
  intro l;induction l with
  |nil=>intro d hd;exact hd
  |cons x r ih=>intro d hd;exact ih _ (Kw hd (Ih x rows hu.2.2))
 exact g sd _ hu.1
theorem Kx{rows i:Int}{c:List UInt8}{sd:List Int}(h:rS rows i c sd=true)(hl:sd.length≤1048576):pJ rows i c=true∧sd.length≤3:=by
 simp only[rS,bT,Bool.and_eq_true,b7]at h;rw[bO (by omega)]at h;exact⟨h.1,by omega⟩
theorem Ky(rows i:Int)(c:List UInt8):pJ rows i c=(inr rows 1 64&&inr i 0 (IntKind.i64.wrap (rows-1))&&decide ((c.length:Int)=24)):=by
 unfold pJ;cases h:inr rows 1 64 with
 |false=>rfl
 |true=>
  rw[b7]at h;have:((dD rows).rows.length:Int)=rows:=by rw[mH (by omega)];simp;omega
  rw[kH,this];simp
theorem WO{rows i:Int}{c:List UInt8}{sd:List Int}(h:rS rows i c sd=true):Cd (dD rows) i c=S4 rows i c:=by
 simp only[rS,pJ,Bool.and_eq_true]at h;rw[S4,if_pos h.1.1]
end
section
theorem Qn(k c:Int)(p:Plain):(tI k c p).length≤100:=by
 unfold tI;split
 ·rename_i h;have hb:=nY h;have hp:(fI k c p).length≤40:=by
   unfold fI;simp only[List.length_append,List.length_drop,List.length_cons,List.length_nil,eU];omega
  rw[List.length_append,iP];simp only[four,List.length_cons,List.length_nil];omega
 ·exact Nat.zero_le _
theorem EB(c:dF)(r n:Int):(gz c r n).length≤1048576:=by
 unfold gz;split
 ·split
  ·exact Nat.le_trans (Qn _ _ _) (by decide)
  ·unfold cover;rw[eU];decide
 ·exact Nat.zero_le _
def Kz(x:aW)(c:Int):dF:=(x.af.getD c.toNat (aG .aZ)).live
def dw(x:aW)(c:Int):List DB:=pM x.rows (mZ (Kz x c) x.round x.rows) (gz (Kz x c) x.round x.rows) (gV x c)
theorem KA{x:aW}{c:Int}(h:nP (Kz x c) x.round x.rows=false):dw x c= []:=by
 have hc:gz (Kz x c) x.round x.rows= []:=by rw[gz,if_neg (by rw[h];decide)]
 unfold dw pM;rw[hc];rw[if_neg];simp[rS,pJ,kH]
def KB(x:aW)(c:Int):Bool:=okW x&&fT x c
def j9(x:aW)(c:Int):List DB:=if KB x c then dw x c else []
theorem ZJ{x:aW}{c:Int}(h:KB x c=true):0≤c∧c<x.af.length:=by
 simp only[KB,fT,b7,Bool.and_eq_true]at h;omega
end
section
theorem iA{E R:Bool}(h:E=true)(he:E=R):R=true:=by rw[←he];exact h
theorem kX{E R:Bool}(h:E=false)(he:E=R):R=false:=by rw[←he];exact h
theorem qM{x:aW}(h:okW x=true){i:Nat}(hi:i<x.af.length):okD x i=true:=by
 simp only[okW,Bool.and_eq_true,List.all_eq_true]at h;exact h.2 i (List.mem_range.2 hi)
theorem EC{x:aW}(h:okW x=true){i:Nat}(hi:i<x.az.length):FG x i=true:=by
 simp only[okW,Bool.and_eq_true,List.all_eq_true]at h;exact h.1.2 i (List.mem_range.2 hi)
theorem S8{x:aW}{i:Nat}(h:okD x i=true):c8 (x.af.getD i (aG .aZ)).live=true:=by
 simp only[okD,cP,Bool.and_eq_true]at h;exact h.1.1.1.1.1.1.1.1.1
theorem nq{x:aW}(h:okW x=true):(1≤x.rows∧x.rows≤64)∧0≤x.round∧x.round≤100000:=by
 have h:=l5 h;simp only[Kg,Bool.and_eq_true,b7]at h;omega
theorem ZK{x:aW}{c:Int}(h:okW x=true)(hc:0≤c∧c<x.af.length):c8 (Kz x c)=true:=S8 (qM h (by omega))
theorem ZL{x:aW}{c:Int}(h:okW x=true)(hc:0≤c∧c<x.af.length):nP (Kz x c) x.round x.rows=true:=by
 have:=nq h;simp only[nP,ZK h hc,Bool.and_eq_true,b7];exact⟨⟨trivial,this.2⟩,this.1⟩
theorem MK{key r d n:Int}(h:(1≤n∧n≤64)∧0≤r∧r≤1000000000000):0≤fu key r d n∧fu key r d n<n:=by
 unfold fu;rw[if_pos h];exact⟨Int.emod_nonneg _ (by omega),Int.emod_lt_of_pos _ (by omega)⟩
theorem ML{s r n:Int}(h:1≤n∧n≤64):0≤Cy s r n∧Cy s r n<n:=by
 unfold Cy;rw[if_pos h];exact⟨Int.emod_nonneg _ (by omega),Int.emod_lt_of_pos _ (by omega)⟩
theorem KC{c:dF}{r n:Int}(h:nP c r n=true):0≤mZ c r n∧mZ c r n<n:=by
 have hb:(0≤r∧r≤100000)∧1≤n∧n≤64:=by
  simp only[nP,Bool.and_eq_true,b7]at h;exact⟨h.1.2,h.2⟩
 rw[mZ,if_pos h];split
 ·exact MK (by omega)
 ·exact ML (by omega)
theorem WQ(k d:Int):eM (qH k d)=true:=by
 have:=o7 (dz k [83,d]);simp only[eM,b7];unfold qH;omega
theorem pN{c:dF}(h:c8 c=true):c.aM.length≤16∧c.inbox.length≤16∧(∀b,b∈c.aM→b.length≤14)∧(∀b,b∈c.inbox→b.length≤14)∧0≤c.sent∧c.sent≤c.aM.length∧0≤c.next∧c.next≤100000:=by
 simp only[c8,Bool.and_eq_true,Bool.not_eq_true',List.any_eq_false,b7,decide_eq_true_eq]at h;obtain⟨⟨⟨⟨⟨⟨_,h1⟩,h2⟩,h3⟩,h4⟩,h5⟩,h6⟩:=h;refine⟨by omega,by omega,fun b hb=> ?_,fun b hb=> ?_,h5.1,h5.2,h6.1,h6.2⟩
 ·have:=h3 b hb;simp only[long,decide_eq_true_eq]at this;omega
 ·have:=h4 b hb;simp only[long,decide_eq_true_eq]at this;omega
theorem getD_in{α:Type}{l:List α}{k:Nat}(d:α)(h:k<l.length):l.getD k d∈l:=by
 rw[List.getD_eq_getElem?_getD,List.getElem?_eq_getElem h];exact List.getElem_mem h
theorem KD{k c:Int}{p:Plain}(h:jr k c p=true):(tI k c p).length=24:=by
 have hb:=nY h;rw[tI,if_pos h,List.length_append,iP];simp only[fI,four,List.length_append,List.length_drop,List.length_cons,List.length_nil,eU];omega
theorem Qo{c:dF}(h:c8 c=true){a:Int}(h0:0≤a)(h1:a<c.aM.length):(kE c a).length=24:=by
 obtain⟨q1,_,q2,_⟩:=pN h;apply KD;simp only[jr,WQ,iX,Bool.and_eq_true,b7,decide_eq_true_eq];have:=q2 _ (getD_in (aG (.sl .u8)) (show a.toNat<c.aM.length by omega));refine⟨⟨trivial,by omega⟩,by omega,by omega⟩
theorem Ij{c:dF}{r n:Int}(h:nP c r n=true):(gz c r n).length=24:=by
 rw[gz,if_pos h];split
 ·rename_i hs;have hc:c8 c=true:=by simp only[nP,Bool.and_eq_true]at h;exact h.1.1
  exact Qo hc (AZ h).1 hs
 ·rw[cover,eU]
theorem Qp{x:aW}{c:Int}(h:okW x=true)(hc:0≤c∧c<x.af.length):rS x.rows (mZ (Kz x c) x.round x.rows) (gz (Kz x c) x.round x.rows) (gV x c)=true:=by
 have hw:=ZL h hc;have hr:=nq h;have hs:=dV h;have hrow:=KC hw;have hcell:=Ij hw;simp only[rS,Ky,bT,Bool.and_eq_true,b7,decide_eq_true_eq,jy];rw[bO (by omega),bO (by omega)];omega
theorem jI{x:aW}{c:Int}(h:okW x=true)(hc:0≤c∧c<x.af.length):(dw x c).length=x.az.length:=by
 have hs:=dV h;rw[dw,pM,if_pos (Qp h hc),List.length_append,List.length_map,jy];simp;omega
theorem ED{x:aW}{c:Int}(h:okW x=true)(hc:0≤c∧c<x.af.length):j9 x c=dw x c:=by
 rw[j9,if_pos];simp only[KB,h,fT,Bool.true_and,b7];omega
end
section
theorem S9{rows i:Int}{c:List UInt8}{sd:List Int}(hr:rows≤64): ∀d,d∈pM rows i c sd→cL d=true:=by
 intro d hd;unfold pM at hd;split at hd
 ·rename_i hm;have hu:pJ rows i c=true:=by simp only[rS,Bool.and_eq_true]at hm;exact hm.1
  rcases List.mem_append.1 hd with h|h
  ·obtain⟨s,_,rfl⟩:=List.mem_map.1 h;exact Ih s rows hr
  ·rw[List.mem_singleton.1 h];exact EA hu _
 ·cases hd
def ZM(d:DB):Nat:=(d.rows.map List.length).sum
theorem WR{d:DB}(h:cL d=true):ZM d≤1536:=by
 obtain⟨h1,h2⟩:=iS.1 h;have h3: ∀l:List (List UInt8),(∀r,r∈l→r.length=24)→(l.map List.length).sum=24*l.length:=by
  intro l;induction l with
  |nil=>intro _;rfl
  |cons x r ih=>intro hl;rw[List.map_cons,List.sum_cons,ih fun y hy=>hl y (by simp[hy]),hl x (by simp),List.length_cons];omega
 have:=h3 _ h2;unfold ZM;omega
theorem Yp{α:Type}(f:α→Nat)(C:Nat): ∀(l:List α),(∀x,x∈l→f x≤C)→(l.map f).sum≤C*l.length
 | [],_=>by simp
 |x::r,h=>by
  have:=Yp f C r fun y hy=>h y (by simp[hy]);have:=h x (by simp);rw[List.map_cons,List.sum_cons,List.length_cons,Nat.mul_add];omega
end
section
def nr(s:bp):Prop:=s.received.length≤1048576∧ ∀r,r∈s.received→cE List.length r.share.rows≤1048576
theorem GD{l:List bp}(h:cE dL l≤1048576){i:Nat}{s:bp}(hs:l[i]? =some s):nr s:=by
 have h1:cE Cc s.received≤1048576:=ig h hs;refine⟨cA h1,fun r hr=> ?_⟩;obtain⟨j,hj⟩:=List.mem_iff_getElem?.1 hr;exact ig h1 hj
def wB(x:aW):Prop:=cE dL x.az≤1048576∧cE bt x.af≤1048576∧dA x.aB≤1048576∧x.replaced.length≤4194304
theorem rF{x:aW}(h:wB x):x.az.length≤1048576:=cA h.1
theorem zg{x:aW}(h:wB x):x.af.length≤1048576:=cA h.2.1
def ke(s:bp)(c:Int)(d:DB):bp:=⟨s.id,s.rows,s.round,s.received++ [⟨c,d⟩],s.behavior⟩
def kf(s:bp)(c:Int)(d:DB):Bool:=cj s&&cj (ke s c d)
def MM(s:bp)(c:Int)(d:DB):bp:=if kf s c d then ke s c d else s
def below(s:bp)(c:Int):Prop:= ∀r,r∈s.received→r.client<c
theorem Qq{s:bp}{c e:Int}{d:DB}(h:below s c)(hc:c<e):below (MM s c d) e:=by
 intro r hr;unfold MM at hr;split at hr
 ·rcases List.mem_append.1 hr with h1|h1
  ·have:=h r h1;omega
  ·rw[List.mem_singleton.1 h1];exact hc
 ·have:=h r hr;omega
theorem Qr{s:bp}{c:Int}{d:DB}(h:nr s)(hd:cL d=true):nr (MM s c d):=by
 unfold MM;split
 ·rename_i hk;have h1:(ke s c d).received.length≤8:=by
   simp only[kf,cj,tL,Bool.and_eq_true,decide_eq_true_eq]at hk;omega
  refine⟨by omega,fun r hr=> ?_⟩;rcases List.mem_append.1 hr with h2|h2
  ·exact h.2 r h2
  ·rw[List.mem_singleton.1 h2];exact dQ hd
 ·exact h
def Vo(c:Int)(r:aT):Bool:=r.client==c
def lM(l:List aT)(c:Int):Bool:=l.any (Vo c)
def Bi(l:List aT)(c:Int):DB:=if lM l c then(l.getD (fidx (Vo c) l).toNat (aG .aT)).share else⟨[]⟩
theorem Ta{l:List aT}{c:Int}{k:Nat}(h:k<l.length)(h1:(l.take k).any (Vo c)=false)(h2:Vo c (l.getD k (aG .aT))=true):lM l c=true∧Bi l c=(l.getD k (aG .aT)).share:=by
 have ha:lM l c=true:=yO l (Vo c) (aG .aT) k h h2;exact⟨ha,by rw[Bi,if_pos ha,tM (aG .aT) h h1 h2];rfl⟩
theorem C9{l:List aT}{c:Int}(h:l.any (Vo c)=false):lM l c=false∧Bi l c=⟨[]⟩:=⟨h,by rw[Bi,lM,h];rfl⟩
theorem Tb{s:bp}{c:Int}(h:below s c):lM s.received c=false:=by
 unfold lM;rw[List.any_eq_false];intro r hr;have:=h r hr;simp only[Vo,beq_iff_eq];omega
theorem EE{l:List aT}{c:Int}(h: ∀r,r∈l→cE List.length r.share.rows≤1048576):cE List.length (Bi l c).rows≤1048576:=by
 unfold Bi;split
 ·rw[List.getD_eq_getElem?_getD];cases hq:l[(fidx (Vo c) l).toNat]? with
  |none=>exact by decide
  |some r=>exact h r (List.mem_of_getElem? hq)
 ·exact by decide
theorem MN{s:bp}{c:Int}{d:DB}(h:kf s c d=false):MM s c d=s:=by rw[MM,h];rfl
theorem Ik{s:bp}{c:Int}{d:DB}(h:kf s c d=true):MM s c d=ke s c d:=by rw[MM,h];rfl
theorem WS{s:bp}{c:Int}{k:Nat}(hb: ∀r,r∈s.received→r.client<c)(hk:k≤s.received.length)(h:(if decide ((k:Int)<(s.received.length:Int))=true then decide ((s.received.getD k (aG .aT)).client<c)else false)=false):k=s.received.length:=by
 by_cases h1:k<s.received.length
 ·rw[if_pos (by simpa using h1)]at h;have:=hb _ (getD_in (aG .aT) h1);simp only[decide_eq_false_iff_not]at h;omega
 ·omega
theorem ins_eq(l:List aT)(y:aT): []++List.drop (Int.toNat 0) (List.take ((l.length:Int)).toNat l)++ [y]++ []=l++ [y]:=by simp
theorem ab8{s:bp}{c:Int}{d:DB}(h:(if !cj s then true else !cj (ke s c d))=true):kf s c d=false:=by
 unfold kf;cases h1:cj s<;>cases h2:cj (ke s c d)<;>simp_all
theorem ab9{s:bp}{c:Int}{d:DB}(h:(if !cj s then true else !cj (ke s c d))=false):kf s c d=true:=by
 unfold kf;cases h1:cj s<;>cases h2:cj (ke s c d)<;>simp_all
def Il(d:DB):Int:=hsh ((d.rows.length:Int)::d.rows.flatMap Fz)
theorem qN(l:List UInt8):(Fz l).length=l.length+1:=by simp[Fz]
theorem Tc(l:List (List UInt8)): ∀k,((l.take k).flatMap Fz).length≤cE List.length l:=by
 have key: ∀m:List (List UInt8),(m.flatMap Fz).length=cE List.length m:=by
  intro m;induction m with
  |nil=>rfl
  |cons x r ih=>rw[List.flatMap_cons,List.length_append,ih,qN];unfold cE;simp only[List.length_cons,List.map_cons,List.sum_cons];omega
 intro k;rw[key];have h1:=fX l List.length k;unfold cE;have:(l.take k).length≤l.length:=List.length_take_le' _ _;omega
theorem Om(l:List (List UInt8))(k:Nat)(h:k<l.length):(l.take (k+1)).flatMap Fz=(l.take k).flatMap Fz++Fz (l.getD k (aG (.sl .u8))):=by
 rw[bu l k (aG (.sl .u8)) h,List.flatMap_append];simp
def iT(m s:Int):Int:=As (kh m [173,s])
theorem Td{m s:Int}:(if kh m [173,s]>1 then kh m [173,s]else 1)=iT m s:=by
 have:=dz m [173,s];unfold iT As;split<;>split<;>omega
def EF(c r:Int)(d:DB):Int:=hsh [179,c,r,Il d]
def Qs(key s c r g:Int):Int:=kh key [181,s,c,r,g]
def mkR(key s c r:Int)(d:DB):dY:=⟨s,c,r,EF c r d,Qs key s c r (EF c r d)⟩
def On(l:List bp)(c:Int)(ds:List DB):List bp:=List.zipWith (fun s d=>MM s c d) l ds
def vV(x:aW):Nat→List bp
 |0=>x.az
 |k+1=>On (vV x k) (k:Int) (dw x (k:Int))
def acd(x:aW)(c:Nat)(i:Nat):List dY:= [mkR (iT x.bn (i:Int)) (i:Int) (c:Int) x.round ((dw x (c:Int)).getD i (aG .DB))]
def FJ(x:aW)(c:Nat)(n:Nat):List dY:=(List.range n).flatMap (acd x c)
def FK(x:aW)(n:Nat):List dY:=(List.range n).flatMap fun c=>FJ x c x.az.length
theorem Bj(x:aW)(c n:Nat):FJ x c (n+1)=FJ x c n++ [mkR (iT x.bn (n:Int)) (n:Int) (c:Int) x.round ((dw x (c:Int)).getD n (aG .DB))]:=by
 unfold FJ;rw[List.range_succ,List.flatMap_append];simp[acd]
theorem Bk(x:aW)(n:Nat):FK x (n+1)=FK x n++FJ x n x.az.length:=by
 unfold FK;rw[List.range_succ,List.flatMap_append];simp
theorem zh(x:aW)(c:Nat): ∀n,(FJ x c n).length=n
 |0=>rfl
 |n+1=>by rw[Bj,List.length_append,zh x c n];rfl
theorem EG(x:aW): ∀n,(FK x n).length=n*x.az.length
 |0=>by simp[FK]
 |n+1=>by rw[Bk,List.length_append,EG x n,zh,Nat.add_mul];omega
structure Col(x:aW)(k:Nat):Prop where
 len:(vV x k).length=x.az.length
 bel: ∀s,s∈vV x k→below s (k:Int)
 sml: ∀s,s∈vV x k→nr s
theorem vH{x:aW}(h:okW x=true): ∀s,s∈x.az→s.received= []:=by
 intro s hs;obtain⟨i,hi,rfl⟩:=List.mem_iff_getElem.1 hs;have h1:=EC h hi;have e:x.az.getD i (aG .bp)=x.az[i]:=by rw[List.getD_eq_getElem?_getD,List.getElem?_eq_getElem hi];rfl
 simp only[FG,e,Bool.and_eq_true,decide_eq_true_eq]at h1;have h2:x.az[i].received.length=0:=by omega
 exact List.length_eq_zero_iff.1 h2
theorem xA{x:aW}{c:Int}(h:okW x=true): ∀d,d∈dw x c→cL d=true:=by
 have:=nq h;exact S9 (by omega)
theorem KE{l:List bp}{c:Int}{ds:List DB}{s:bp}(h:s∈On l c ds): ∃t d,t∈l∧d∈ds∧s=MM t c d:=by
 induction l generalizing ds with
 |nil=>cases h
 |cons t l ih=>
  cases ds with
  |nil=>cases h
  |cons d ds=>
   rcases List.mem_cons.1 h with h1|h1
   ·exact⟨t,d,List.mem_cons_self ..,List.mem_cons_self ..,h1⟩
   ·obtain⟨t',d',q1,q2,q3⟩:=ih h1;exact⟨t',d',List.mem_cons_of_mem _ q1,List.mem_cons_of_mem _ q2,q3⟩
theorem col{x:aW}(h:okW x=true): ∀k,k≤x.af.length→Col x k
 |0,_=>by
  have he:=vH h;refine⟨rfl,fun s hs=> ?_,fun s hs=> ?_⟩
  ·intro r hr;rw[he s hs]at hr;cases hr
  ·refine⟨by rw[he s hs];decide,fun r hr=> ?_⟩;rw[he s hs]at hr;cases hr
 |k+1,hk=>by
  have ih:=col h k (by omega);have hl:(dw x (k:Int)).length=x.az.length:=jI h (by omega);refine⟨?_,fun s hs=> ?_,fun s hs=> ?_⟩
  ·show(List.zipWith _ _ _).length=_
   rw[List.length_zipWith,ih.len,hl];omega
  ·obtain⟨t,d,h1,h2,rfl⟩:=KE hs;exact Qq (ih.bel t h1) (by omega)
  ·obtain⟨t,d,h1,h2,rfl⟩:=KE hs;exact Qr (ih.sml t h1) (xA h d h2)
theorem kg{x:aW}(h:okW x=true){k:Nat}(hk:k≤x.af.length):(vV x k).length=x.az.length:=(col h k hk).len
theorem KF{x:aW}(h:okW x=true){k i:Nat}(hk:k<x.af.length)(hi:i<x.az.length):(vV x (k+1)).getD i (aG .bp)=MM ((vV x k).getD i (aG .bp)) (k:Int) ((dw x (k:Int)).getD i (aG .DB)):=by
 have hl:(dw x (k:Int)).length=x.az.length:=jI h (by omega);have h2:=kg h (k:=k) (by omega);show(List.zipWith _ _ _).getD i _=_
 rw[List.getD_eq_getElem?_getD,List.getD_eq_getElem?_getD,List.getD_eq_getElem?_getD,List.getElem?_zipWith,List.getElem?_eq_getElem (show i<(vV x k).length by omega),List.getElem?_eq_getElem (show i<(dw x (k:Int)).length by omega)];rfl
def vW(x:aW)(k i:Nat):List bp:=(vV x (k+1)).take i++(vV x k).drop i
theorem KG{x:aW}(h:okW x=true){k i:Nat}(hk:k<x.af.length)(hi:i≤x.az.length):(vW x k i).length=x.az.length:=by
 have h1:=kg h (k:=k) (by omega);have h2:=kg h (k:=k+1) (by omega);unfold vW;rw[jW _ _ _ (by omega) (by omega),h1]
theorem KH{x:aW}(h:okW x=true){k i:Nat}(hk:k<x.af.length)(hi:i<x.az.length):(vW x k i).getD i (aG .bp)=(vV x k).getD i (aG .bp):=by
 have h2:=kg h (k:=k+1) (by omega);exact jV _ _ _ _ (by omega)
theorem GF{x:aW}(h:okW x=true){k i:Nat}(hk:k<x.af.length)(hi:i<x.az.length):(vW x k i).set i (MM ((vW x k i).getD i (aG .bp)) (k:Int) ((dw x (k:Int)).getD i (aG .DB)))=vW x k (i+1):=by
 have h1:=kg h (k:=k) (by omega);have h2:=kg h (k:=k+1) (by omega);rw[KH h hk hi];exact tE _ _ _ (aG .bp) _ (by omega) (by omega) (KF h hk hi)
theorem KI{x:aW}(h:okW x=true){k i:Nat}(hk:k<x.af.length)(hi:x.az.length≤i):vW x k i=vV x (k+1):=by
 have h1:=kg h (k:=k) (by omega);have h2:=kg h (k:=k+1) (by omega);unfold vW;rw[List.take_of_length_le (by omega),List.drop_of_length_le (by omega),List.append_nil]
theorem KJ{x:aW}(h:okW x=true){k i:Nat}(hk:k<x.af.length)(hi:i<x.az.length):below ((vW x k i).getD i (aG .bp)) (k:Int)∧nr ((vW x k i).getD i (aG .bp))∧cE List.length ((dw x (k:Int)).getD i (aG .DB)).rows≤1048576:=by
 rw[KH h hk hi];have c:=col h k (by omega);have hl:(dw x (k:Int)).length=x.az.length:=jI h (by omega);exact⟨c.bel _ (getD_in _ (by rw[c.len];exact hi)),c.sml _ (getD_in _ (by rw[c.len];exact hi)),dQ (xA h _ (getD_in _ (by omega)))⟩
def bP(x:aW):List bp:=if okW x then vV x x.af.length else []
def iK(x:aW):List dY:=if okW x then FK x x.af.length else []
end
section
theorem Th{x:aW}(h:dP x≤1048576)(k:Nat)(hk:k<x.aB.rounds.length):cE List.length (x.aB.rounds.getD k (aG .aJ)).db.rows≤1048576:=by
 have h2:dA x.aB≤1048576:=by unfold dP at h;omega
 unfold dA at h2;have h3:=ig h2 (xm _ k (aG .aJ) hk);unfold dM H9 at h3;exact h3
theorem zi{x:aW}(h:dP x≤1048576){k:Nat}(hk:k<x.af.length):bt (x.af.getD k (aG .aZ))≤1048576:=by
 have h2:cE bt x.af≤1048576:=by unfold dP at h;omega
 exact ig h2 (xm _ k (aG .aZ) hk)
theorem zj{d:aZ}(h:bt d≤1048576):cE List.length d.live.aM≤1048576∧cE List.length d.live.inbox≤1048576∧cE List.length d.saved.aM≤1048576∧cE List.length d.saved.inbox≤1048576:=by
 unfold bt bY at h;omega
theorem KL{x:aW}(h:dP x≤1048576){k:Nat}(hk:k<x.af.length):(x.af.getD k (aG .aZ)).live.inbox.length≤1048576:=cA (zj (zi h hk)).2.1
theorem EJ{x:aW}{c f:dF}{n:Nat}{r:aJ}(h:r.round<f.next∨c.aM.length≤n):pE x c f n r=n:=if_pos h
theorem GH{x:aW}{c f:dF}{n:Nat}{r:aJ}(h: ¬(r.round<f.next∨c.aM.length≤n))(h2:(rE r.db (fu c.key r.round (cC c) x.rows)&&(rowAt r.db (fu c.key r.round (cC c) x.rows)==kE c n))=true):pE x c f n r=n+1:=by
 unfold pE;rw[if_neg h,if_pos h2]
theorem EK{x:aW}{c f:dF}{n:Nat}{r:aJ}(h: ¬(r.round<f.next∨c.aM.length≤n))(h2:(rE r.db (fu c.key r.round (cC c) x.rows)&&(rowAt r.db (fu c.key r.round (cC c) x.rows)==kE c n))=false):pE x c f n r=n:=by
 unfold pE;rw[if_neg h,if_neg (by rw[h2];decide)]
end
section
def gh(l:List aJ)(f:Int):List Int:=(l.filter fun r=>decide (f≤r.round)).map aJ.round
theorem EL(l:List aJ)(f:Int)(k:Nat)(h:k<l.length)(h2:f≤(l.getD k (aG .aJ)).round):gh (l.take (k+1)) f=gh (l.take k) f++ [(l.getD k (aG .aJ)).round]:=by
 unfold gh;rw[bu l k (aG .aJ) h,List.filter_append,List.map_append];generalize l.getD k (aG .aJ)=r at h2 ⊢;simp[List.filter_cons,h2]
theorem Cg(l:List aJ)(f:Int)(k:Nat)(h:k<l.length)(h2: ¬f≤(l.getD k (aG .aJ)).round):gh (l.take (k+1)) f=gh (l.take k) f:=by
 unfold gh;rw[bu l k (aG .aJ) h,List.filter_append,List.map_append];generalize l.getD k (aG .aJ)=r at h2 ⊢;simp[List.filter_cons,h2]
theorem xD(l:List aJ)(f:Int):(gh l f).length≤l.length:=by
 unfold gh;rw[List.length_map];exact List.length_filter_le _ _
theorem Ch(l:List aJ)(f:Int)(k:Nat):(gh (l.take k) f).length≤k:=by
 have h1:=xD (l.take k) f;rw[List.length_take]at h1;omega
def nA(x:aW)(d:aZ):Bool:= !(decide ((5:Int)<(gh x.aB.rounds d.saved.next).length)|| (decide ((8:Int)≤x.aB.rounds.length)&&decide (d.saved.next<(x.aB.rounds.getD 0 (aG .aJ)).round)))
def nB(x:aW):Bool:=x.af.all (nA x)
def Ci(x:aW)(i:Int):Bool:=dX x i&&vU (x.af.getD i.toNat (aG .aZ)).live.inbox (x.af.getD (i.toNat^^^1) (aG .aZ)).live.aM
theorem Ip{x:aW}{i:Int}(hd:x.af.length≤1048576)(h:dX x i=true):(0≤i∧i<(x.af.length:Int))∧(0≤IntKind.i64.wrap (BitVec.ofInt IntKind.i64.bits i^^^BitVec.ofInt IntKind.i64.bits 1).toNat∧IntKind.i64.wrap (BitVec.ofInt IntKind.i64.bits i^^^BitVec.ofInt IntKind.i64.bits 1).toNat<(x.af.length:Int))∧
  (IntKind.i64.wrap (BitVec.ofInt IntKind.i64.bits i^^^BitVec.ofInt IntKind.i64.bits 1).toNat).toNat=i.toNat^^^1:=by
 obtain⟨h0,h1,h2,h3⟩:=H7 h;have hx:=CB i.toNat (by omega);rw[←h3]at hx;rw[hx];exact⟨by omega,by omega,by simp⟩
theorem KM{x:aW}{i:Int}(hd:x.af.length≤1048576):(dX x i&&vU (x.af.getD i.toNat (aG .aZ)).live.inbox (x.af.getD (IntKind.i64.wrap (BitVec.ofInt IntKind.i64.bits i^^^BitVec.ofInt IntKind.i64.bits 1).toNat).toNat (aG .aZ)).live.aM)=Ci x i:=by
 unfold Ci;cases h:dX x i with
 |false=>rfl
 |true=>rw[(Ip hd h).2.2]
def Ti(x:aW)(k:Nat):Bool:=Ci x (k:Int)&&j0 x (k:Int)
def mj(x:aW):Bool:=okW x&&nB x&&(List.range x.af.length).all (Ti x)
end
section
def GI(key c:Int)(cell:List UInt8):List UInt8:=decr (mW key c) (cell.take 20)
def LP(key c:Int)(cell:List UInt8):Bool:=eM key&&inr c 0 1000000000000&&decide ((cell.length:Int)=24)&&(cell.drop 20==four (mV key c (cell.take 20)))
def Yq(key c:Int)(cell:List UInt8):Bool:=inr ((GI key c cell).getD 0 (aG .u8)).toNat 0 3&&decide ((((GI key c cell).getD 1 (aG .u8)).toNat:Int)≤14)
def nQ(key c:Int)(cell:List UInt8):Bool:=LP key c cell&&Yq key c cell
def QY(key c:Int)(cell:List UInt8):Plain:=if nQ key c cell then⟨((GI key c cell).getD 0 (aG .u8)).toNat,((GI key c cell).take (2+((GI key c cell).getD 1 (aG .u8)).toNat)).drop 2⟩else⟨0,[]⟩
theorem Iq{key c:Int}{cell:List UInt8}(h:LP key c cell=true):(GI key c cell).length=20∧cell.length=24:=by
 simp only[LP,Bool.and_eq_true,decide_eq_true_eq]at h;have:cell.length=24:=by omega
 refine⟨?_,this⟩;unfold GI;rw[mU,List.length_take];omega
theorem l6{key c:Int}{cell:List UInt8}(h:nQ key c cell=false):QY key c cell=⟨0,[]⟩:=by rw[QY,h];rfl
theorem Tj(key c:Int)(cell:List UInt8):(QY key c cell).body.length≤14:=by
 unfold QY;split
 ·rename_i h;simp only[nQ,Yq,Bool.and_eq_true,decide_eq_true_eq]at h;simp only[List.length_drop,List.length_take];omega
 ·exact Nat.zero_le _
theorem Tk(a b c d:UInt8)(n:Int)(h0:0≤n)(h1:n<4294967296):([a,b,c,d]==four n)=decide ((a.toNat:Int)+256*b.toNat+65536*c.toNat+16777216*d.toNat=n):=by
 have ha:=a.toNat_lt;have hb:=b.toNat_lt;have hc:=c.toNat_lt;have hd:=d.toNat_lt;rw[Bool.eq_iff_iff,beq_iff_eq,decide_eq_true_eq];have key: ∀(x:UInt8) (m:Int),x=b8 m↔(x.toNat:Int)=m % 256:=by
  intro x m;constructor
  ·rintro rfl;exact yM m
  ·intro h;apply Mx;rw[yM];exact h
 unfold four;simp only[List.cons.injEq,and_true,key];constructor
 ·rintro⟨q1,q2,q3,q4⟩;omega
 ·intro h;omega
def Tl(r:Int)(a:aJ):Bool:=a.round==r
def jJ(l:List aJ)(r:Int):Bool:=l.any (Tl r)
def gO(l:List aJ)(r:Int):DB:=if jJ l r then(l.getD (fidx (Tl r) l).toNat (aG .aJ)).db else⟨[]⟩
theorem Tm{l:List aJ}{r:Int}{k:Nat}(h:k<l.length)(h1:(l.take k).any (Tl r)=false)(h2:Tl r (l.getD k (aG .aJ))=true):jJ l r=true∧gO l r=(l.getD k (aG .aJ)).db:=by
 have ha:jJ l r=true:=yO l (Tl r) (aG .aJ) k h h2;exact⟨ha,by rw[gO,if_pos ha,tM (aG .aJ) h h1 h2];rfl⟩
theorem Da{l:List aJ}{r:Int}(h:l.any (Tl r)=false):jJ l r=false∧gO l r=⟨[]⟩:=⟨h,by rw[gO,jJ,h];rfl⟩
def WT(rows:List (List UInt8))(v:List Int)(o:List UInt8)(k:Nat):List UInt8:=if decide ((k:Int)<v.length)&&(v.getD k (aG .int)==1)then ef o (rows.getD k (aG (.sl .u8)))else o
def qR(rows:List (List UInt8))(v:List Int)(k:Nat):List UInt8:=(List.range k).foldl (WT rows v) []
def zm(rows:List (List UInt8))(v:List Int):List UInt8:=qR rows v rows.length
theorem GJ(rows:List (List UInt8))(v:List Int)(k:Nat):qR rows v (k+1)=WT rows v (qR rows v k) k:=by
 unfold qR;rw[List.range_succ,List.foldl_append];rfl
theorem zn{rows:List (List UInt8)}{v:List Int}{k:Nat}(h:k<v.length)(h1:v.getD k (aG .int)=1):qR rows v (k+1)=ef (qR rows v k) (rows.getD k (aG (.sl .u8))):=by
 rw[GJ,WT,if_pos];simp only[Bool.and_eq_true,decide_eq_true_eq,beq_iff_eq];exact⟨by omega,h1⟩
theorem pO{rows:List (List UInt8)}{v:List Int}{k:Nat}(h: ¬(k<v.length∧v.getD k (aG .int)=1)):qR rows v (k+1)=qR rows v k:=by
 rw[GJ,WT,if_neg];simp only[Bool.and_eq_true,decide_eq_true_eq,beq_iff_eq];intro h2;exact h ⟨by omega,h2.2⟩
theorem GK(rows:List (List UInt8))(v:List Int)(k:Nat)(h:v.length≤k): ∀n,qR rows v (k+n)=qR rows v k
 |0=>rfl
 |n+1=>by rw[←Nat.add_assoc,pO (by omega)];exact GK rows v k h n
theorem KN{rows:List (List UInt8)}{v:List Int}{k:Nat}(hk:k≤rows.length)(h:rows.length≤k∨v.length≤k):qR rows v k=zm rows v:=by
 unfold zm;rcases h with h|h
 ·rw[show k=rows.length by omega]
 ·have:=GK rows v k h (rows.length-k);rw[show k+(rows.length-k)=rows.length by omega]at this;exact this.symm
theorem uf{rows:List (List UInt8)}(v:List Int)(h: ∀r,r∈rows→r.length≤1048576): ∀k,k≤rows.length→(qR rows v k).length≤1048576
 |0,_=>Nat.zero_le _
 |k+1,hk=>by
  have ih:=uf v h k (by omega);by_cases hh:k<v.length∧v.getD k (aG .int)=1
  ·rw[zn hh.1 hh.2,dG];have:=h _ (getD_in (aG (.sl .u8)) (show k<rows.length by omega));omega
  ·rw[pO hh];exact ih
def fU(d:DB)(v:List Int):List UInt8:=if cL d&&fY v d.rows.length then ef Vm (zm d.rows v)else []
theorem ug(d:DB)(v:List Int):(fU d v).length=24∨fU d v= []:=by
 unfold fU;split
 ·left;rename_i h;simp only[Bool.and_eq_true]at h;have key: ∀k,k≤d.rows.length→(qR d.rows v k).length≤24:=by
   intro k;induction k with
   |zero=>intro _;exact Nat.zero_le _
   |succ k ih=>
    intro hk;by_cases hh:k<v.length∧v.getD k (aG .int)=1
    ·rw[zn hh.1 hh.2,dG,nZ h.1 k (by omega)];have:=ih (by omega);omega
    ·rw[pO hh];exact ih (by omega)
  have:=key d.rows.length (Nat.le_refl _);unfold zm;rw[dG,qL];omega
 ·right;rfl
def EM(key sv r:Int)(v:List Int)(b:List UInt8):Int:=kh key ([191,sv,r,(v.length:Int)]++v++Fz b)
def mkA(key sv r:Int)(v:List Int)(b:List UInt8):cM:=⟨sv,r,v,b,EM key sv r v b⟩
def ko(d:DB)(v:List Int):Bool:= !((fU d v).length==0)
def noA:cM:=⟨0,0,[],[],0⟩
def nM(key sv r:Int)(d:DB)(v:List Int):cM:=if ko d v then mkA key sv r v (fU d v)else noA
def LQ(b:List UInt8):List UInt8:=b.set 0 (b.getD 0 (aG .u8)^^^128)
def MP(s:bp)(key r:Int)(d:DB)(v:List Int):cM:=if ko d v then(if s.behavior=3 then mkA key s.id r v (LQ (fU d v))else mkA key s.id r v (fU d v))else noA
theorem Tn(s:bp)(key r:Int)(d:DB)(v:List Int):(MP s key r d v).data.length=24∨(ko d v=false∧(MP s key r d v).data= []):=by
 unfold MP;cases h:ko d v with
 |false=>right;exact⟨rfl,rfl⟩
 |true=>
  left;have h1:=ug d v;have h2:(fU d v).length=24:=by
   rcases h1 with h1|h1
   ·exact h1
   ·rw[ko,h1]at h;cases h
  simp only[if_true];split
  ·show(LQ (fU d v)).length=24
   unfold LQ;rw[List.length_set];exact h2
  ·exact h2
def gL(l:List (List UInt8)):Bool:=bT l.length&&l.all fun a=>decide ((a.length:Int)=24)
def vX(l:List (List UInt8)):List UInt8:=l.foldl ef []
def Vp(l:List (List UInt8)):List UInt8:=if gL l then vX l else []
theorem Bm(l:List (List UInt8))(k:Nat)(h:k<l.length):vX (l.take (k+1))=ef (vX (l.take k)) (l.getD k (aG (.sl .u8))):=by
 unfold vX;rw[bu l k (aG (.sl .u8)) h,List.foldl_append];rfl
theorem EN{l:List (List UInt8)}(h: ∀a,a∈l→a.length≤1048576): ∀k,(vX (l.take k)).length≤1048576:=by
 intro k;induction k with
 |zero=>exact Nat.zero_le _
 |succ k ih=>
  by_cases hk:k<l.length
  ·rw[Bm l k hk,dG];have:=h _ (getD_in (aG (.sl .u8)) hk);omega
  ·rw[List.take_of_length_le (by omega)]at ih ⊢;exact ih
def To(x:aW)(r:Int)(d:DB)(q:List (List Int))(i:Nat):cM:=MP (x.az.getD i (aG .bp)) (iT x.bn (i:Int)) r d (q.getD i (aG (.sl .int)))
def uh(x:aW)(r:Int)(d:DB)(q:List (List Int))(n:Nat):List cM:=(List.range n).map (To x r d q)
theorem EO(x:aW)(r:Int)(d:DB)(q:List (List Int))(n:Nat):uh x r d q (n+1)=uh x r d q n++ [To x r d q n]:=by
 unfold uh;rw[List.range_succ,List.map_append];rfl
theorem GL(x:aW)(r:Int)(d:DB)(q:List (List Int))(n:Nat):(uh x r d q n).length=n:=by simp[uh]
def query'(x:aW)(r row s:Int):List (List Int):=pF x.rows row (gA x.az.length r row s)
def wQ(x:aW)(r row s:Int):List (List UInt8):=(uh x r (gO x.aB.rounds r) (query' x r row s) (query' x r row s).length).map cM.data
def uj(x:aW)(r row s:Int):Bool:=jJ x.aB.rounds r&&gL (wQ x r row s)
def zo(x:aW)(r row s:Int):List UInt8:=if jJ x.aB.rounds r then Vp (wQ x r row s)else []
theorem Tp{x:aW}{r row s:Int}{k:Nat}(hk:k<(query' x r row s).length)(h:ko (gO x.aB.rounds r) ((query' x r row s).getD k (aG (.sl .int)))=false):gL (wQ x r row s)=false:=by
 unfold gL;have h1:(To x r (gO x.aB.rounds r) (query' x r row s) k).data∈wQ x r row s:=by
  unfold wQ uh;rw[List.map_map];exact List.mem_map.2 ⟨k,List.mem_range.2 hk,rfl⟩
 have h2:(To x r (gO x.aB.rounds r) (query' x r row s) k).data= []:=by
  rcases Tn (x.az.getD k (aG .bp)) (iT x.bn (k:Int)) r (gO x.aB.rounds r) ((query' x r row s).getD k (aG (.sl .int)))with h3|h3
  ·unfold To;unfold MP;rw[h];rfl
  ·exact h3.2
 have h3:((wQ x r row s).all fun a=>decide ((a.length:Int)=24))=false:=by
  rw[List.all_eq_false];exact⟨_,h1,by rw[h2];decide⟩
 rw[h3,Bool.and_false]
def rY(c:dF)(r:Int):Bool:=c8 c&&inr r c.next 99999
def rG(c:dF)(own:List UInt8):Bool:=decide (c.sent<(c.aM.length:Int))&&(own==kE c c.sent)
def EP(c:dF):Int:=qH c.key (1-cC c)
def jK(c:dF)(other:List UInt8):Bool:=(nQ (EP c) (c.inbox.length:Int) other&&((QY (EP c) (c.inbox.length:Int) other).kind==1))&&decide ((c.inbox.length:Int)<16)
def fK(c:dF)(r:Int)(own other:List UInt8):dF:=if rY c r then⟨c.id,c.cU,c.key,c.seed,c.aM,if rG c own then c.sent+1 else c.sent,if jK c other then c.inbox++ [(QY (EP c) (c.inbox.length:Int) other).body]else c.inbox,r+1⟩else c
def wS(d:aZ):Bool:=cP d&&decide (4≤IntKind.i64.wrap (d.live.next-d.saved.next))
def vY(d:aZ)(r:Int):Bool:=rY d.live r&&cP d
def lN(d:aZ)(r:Int)(own other:List UInt8):aZ:=⟨fK d.live r own other,d.saved⟩
def rdev(d:aZ)(r:Int)(own other:List UInt8):aZ:=if vY d r then(if wS (lN d r own other)then⟨fK d.live r own other,fK d.live r own other⟩else lN d r own other)else d
def rH(a b:dF):Prop:=a.id=b.id∧a.cU=b.cU∧a.key=b.key∧a.seed=b.seed
theorem xE(c:dF)(r:Int)(own other:List UInt8):rH (fK c r own other) c:=by
 unfold fK;split
 ·exact⟨rfl,rfl,rfl,rfl⟩
 ·exact⟨rfl,rfl,rfl,rfl⟩
theorem Qu(d:aZ)(r:Int)(own other:List UInt8):rH (rdev d r own other).live d.live:=by
 unfold rdev;split
 ·split
  ·exact xE _ _ _ _
  ·exact xE _ _ _ _
 ·exact⟨rfl,rfl,rfl,rfl⟩
theorem MQ{a b:dF}(h:rH a b):cC a=cC b:=by unfold cC;rw[h.1,h.2.1]
def MR(x:aW)(d0 d:aZ)(r:Int):aZ:=rdev d r (zo x r (fu d0.live.key r (cC d0.live) x.rows) d0.live.seed) (zo x r (fu d0.live.key r (1-cC d0.live) x.rows) d0.live.seed)
def KO(x:aW)(d0:aZ)(l:List Int):aZ:=l.foldl (MR x d0) d0
theorem Qv(x:aW)(d0:aZ)(l:List Int)(k:Nat)(h:k<l.length):KO x d0 (l.take (k+1))=MR x d0 (KO x d0 (l.take k)) (l.getD k (aG .int)):=by
 unfold KO;rw[bu l k (aG .int) h,List.foldl_append];rfl
theorem Bn(x:aW)(d0:aZ): ∀(l:List Int) (d:aZ),rH d.live d0.live→rH (l.foldl (MR x d0) d).live d0.live
 | [],_,h=>h
 |r::l,d,h=>by
  refine Bn x d0 l _ ?_;have:=Qu d r (zo x r (fu d0.live.key r (cC d0.live) x.rows) d0.live.seed) (zo x r (fu d0.live.key r (1-cC d0.live) x.rows) d0.live.seed);exact⟨this.1.trans h.1,this.2.1.trans h.2.1,this.2.2.1.trans h.2.2.1,this.2.2.2.trans h.2.2.2⟩
def pP(x:aW)(d:aZ):List Int:=gh x.aB.rounds d.live.next
def nE(x:aW)(d:aZ):aZ:=KO x d (pP x d)
def qg(x:aW)(k i:Nat):List aZ:=(x.af.map (nE x)).take k++(KO x (x.af.getD k (aG .aZ)) ((pP x (x.af.getD k (aG .aZ))).take i)::x.af.drop (k+1))
def QZ(x:aW)(k:Nat):List aZ:=(x.af.map (nE x)).take k++x.af.drop k
theorem Tq(x:aW)(k:Nat)(h:k<x.af.length):qg x k 0=QZ x k:=by
 unfold qg QZ;rw[List.take_zero,List.drop_eq_getElem_cons h,show x.af[k]=x.af.getD k (aG .aZ)by rw[List.getD_eq_getElem?_getD,List.getElem?_eq_getElem h];rfl];rfl
theorem zq(x:aW)(k:Nat)(h:k<x.af.length):((x.af.map (nE x)).take k).length=k:=by
 rw[List.length_take,List.length_map];omega
theorem Oq(x:aW)(k i:Nat)(h:k<x.af.length):(qg x k i).length=x.af.length:=by
 unfold qg;rw[List.length_append,zq x k h,List.length_cons,List.length_drop];omega
theorem Db(x:aW)(k i:Nat)(h:k<x.af.length):(qg x k i).getD k (aG .aZ)=KO x (x.af.getD k (aG .aZ)) ((pP x (x.af.getD k (aG .aZ))).take i):=by
 unfold qg;rw[List.getD_eq_getElem?_getD,List.getElem?_append_right (by rw[zq x k h];omega),zq x k h,Nat.sub_self];rfl
theorem KP(x:aW)(k i:Nat)(h:k<x.af.length)(hi:i<(pP x (x.af.getD k (aG .aZ))).length):(qg x k i).set k (MR x (x.af.getD k (aG .aZ)) ((qg x k i).getD k (aG .aZ)) ((pP x (x.af.getD k (aG .aZ))).getD i (aG .int)))=qg x k (i+1):=by
 rw[Db x k i h, ←Qv x _ _ i hi];unfold qg;rw[List.set_append_right _ _ (by rw[zq x k h];omega),zq x k h,Nat.sub_self];rfl
theorem Ot(x:aW)(k i:Nat)(h:k<x.af.length)(hi:(pP x (x.af.getD k (aG .aZ))).length≤i):qg x k i=QZ x (k+1):=by
 unfold qg QZ;rw[List.take_of_length_le hi,bu (x.af.map (nE x)) k (aG .aZ) (by rw[List.length_map];exact h),List.append_assoc];congr 1;rw[show(x.af.map (nE x)).getD k (aG .aZ)=nE x (x.af.getD k (aG .aZ))by
  rw[List.getD_eq_getElem?_getD,List.getD_eq_getElem?_getD,List.getElem?_map,List.getElem?_eq_getElem h];rfl]
 rfl
theorem Ou(x:aW)(k:Nat)(h:k<x.af.length):(QZ x k).getD k (aG .aZ)=x.af.getD k (aG .aZ):=by rw[←Tq x k h,Db x k 0 h];rfl
theorem Ov(x:aW)(k:Nat)(h:k≤x.af.length):(QZ x k).length=x.af.length:=by
 unfold QZ;rw[jW _ _ _ (by rw[List.length_map]) h]
def ES(x:aW):aW:=if okW x then⟨x.rows,x.az,x.af.map (nE x),x.aB,x.bn,x.seed,x.round,x.replaced,x.cancelled⟩else x
theorem Ox(x:aW)(k:Nat)(hk:k≤x.af.length)(h:x.af.length≤k):QZ x k=x.af.map (nE x):=by
 unfold QZ;rw[List.take_of_length_le (by rw[List.length_map];exact h),List.drop_of_length_le h,List.append_nil]
end
section
theorem Qw(x:UInt8):IntKind.i64.wrap (x.toNat:Int)=x.toNat:=bO (by have:=x.toNat_lt;omega)
def Vq(key c:Int)(cell:List UInt8):Int:=((GI key c cell).getD 0 (aG .u8)).toNat
def FA(key c:Int)(cell:List UInt8):Nat:=((GI key c cell).getD 1 (aG .u8)).toNat
def Yr(key c:Int)(cell:List UInt8):List UInt8:=((GI key c cell).take (2+FA key c cell)).drop 2
theorem ZP(key c:Int)(cell:List UInt8):FA key c cell<256:=((GI key c cell).getD 1 (aG .u8)).toNat_lt
theorem Tr(key c:Int)(cell:List UInt8):decr (mW key c) ((cell.take (20:Int).toNat).drop (0:Int).toNat)=GI key c cell:=by unfold GI;simp
theorem MS(key c:Int)(cell:List UInt8):((GI key c cell).take (IntKind.i64.wrap (2+IntKind.i64.wrap (((GI key c cell).getD (Int.toNat 1) (aG .u8)).toNat:Int))).toNat).drop (Int.toNat 2)=Yr key c cell:=by
 have h:=ZP key c cell;rw[Qw,bO (by show _∧2+(FA key c cell:Int)≤_;show _≤2+(FA key c cell:Int)∧_;omega)];show((GI key c cell).take (2+(FA key c cell:Int)).toNat).drop 2=_
 rw[show(2+(FA key c cell:Int)).toNat=2+FA key c cell by omega];rfl
theorem Ys{key c:Int}{cell:List UInt8}(h:14<FA key c cell):nQ key c cell=false:=by
 have:Yq key c cell=false:=by
  simp only[Yq,Bool.and_eq_false_iff,decide_eq_false_iff_not];right;show¬((FA key c cell:Int)≤14)
  omega
 rw[nQ,this,Bool.and_false]
theorem MT{key c:Int}{cell:List UInt8}(h:LP key c cell=false):nQ key c cell=false:=by rw[nQ,h];rfl
theorem Ir{key c:Int}{cell:List UInt8}(hA:LP key c cell=true)(h:FA key c cell≤14):(Yr key c cell).length=FA key c cell:=by
 have:=(Iq hA).1;unfold Yr;rw[List.length_drop,List.length_take];omega
theorem ach{key c:Int}{cell:List UInt8}(hA:LP key c cell=true)(h:FA key c cell≤14):iX ⟨Vq key c cell,Yr key c cell⟩=nQ key c cell:=by
 have hl:=Ir hA h;rw[nQ,hA,Bool.true_and,iX,Yq];show(inr (Vq key c cell) 0 3&&decide (((Yr key c cell).length:Int)≤14))=(inr (Vq key c cell) 0 3&&decide ((FA key c cell:Int)≤14))
 rw[hl]
theorem Dc{key c:Int}{cell:List UInt8}(h:nQ key c cell=true):QY key c cell=⟨Vq key c cell,Yr key c cell⟩:=by rw[QY,if_pos h];rfl
theorem aci{key c:Int}{cell:List UInt8}(hA:LP key c cell=true)(h:FA key c cell≤14)(hk:Vq key c cell≤3):nQ key c cell=true:=by
 rw[nQ,hA,Bool.true_and,Yq];simp only[Bool.and_eq_true,b7,decide_eq_true_eq];exact⟨⟨by omega,hk⟩,by show(FA key c cell:Int)≤14;omega⟩
theorem ZQ{key c:Int}{cell:List UInt8}(h:3<Vq key c cell):nQ key c cell=false:=by
 have:Yq key c cell=false:=by
  simp only[Yq,Bool.and_eq_false_iff];left;rw[Yi];show¬(0≤Vq key c cell∧Vq key c cell≤3)
  omega
 rw[nQ,this,Bool.and_false]
theorem ZR(a b k:Nat)(h:a<2^k):a||| (b*2^k)=a+b*2^k:=by
 have:=Nat.two_pow_add_eq_or_of_lt h b;rw[Nat.mul_comm b,Nat.or_comm, ←this,Nat.add_comm]
theorem ZS{a:Nat}{b k:Nat}(ha:a<2^k)(hb:b<256)(hk:k=8∨k=16∨k=24):IntKind.i64.wrap (BitVec.ofInt IntKind.i64.bits (a:Int)|||BitVec.ofInt IntKind.i64.bits (IntKind.i64.wrap ((b:Int)*2^k))).toNat=((a+b*2^k:Nat):Int):=by
 have hp:b*2^k<2^32:=by
  rcases hk with rfl|rfl|rfl<;>omega
 have ha2:a<2^24:=by
  rcases hk with rfl|rfl|rfl<;>omega
 have e:((b:Int)*2^k)=((b*2^k:Nat):Int):=by push_cast;rfl
 rw[e,bO (a:=((b*2^k:Nat):Int)) (by omega),BitVec.ofInt_natCast,BitVec.ofInt_natCast,BitVec.toNat_or,BitVec.toNat_ofNat,BitVec.toNat_ofNat];show IntKind.i64.wrap (((a % 2^64|||b*2^k % 2^64:Nat)):Int)=_
 rw[Nat.mod_eq_of_lt (by omega),Nat.mod_eq_of_lt (by omega),ZR a b k ha,bO (by omega)]
def ZT(cell:List UInt8):Int:=((cell.getD 20 (aG .u8)).toNat:Int)+256*(cell.getD 21 (aG .u8)).toNat+65536*(cell.getD 22 (aG .u8)).toNat+16777216*(cell.getD 23 (aG .u8)).toNat
theorem WU(cell:List UInt8):IntKind.i64.wrap (BitVec.ofInt IntKind.i64.bits (IntKind.i64.wrap (BitVec.ofInt IntKind.i64.bits (IntKind.i64.wrap (BitVec.ofInt IntKind.i64.bits (IntKind.i64.wrap ((cell.getD (Int.toNat 20) (aG .u8)).toNat:Int))|||BitVec.ofInt IntKind.i64.bits (IntKind.i64.wrap (IntKind.i64.wrap ((cell.getD (Int.toNat 21) (aG .u8)).toNat:Int)*2^(min (Int.toNat 8) IntKind.i64.bits)))).toNat)|||BitVec.ofInt IntKind.i64.bits (IntKind.i64.wrap (IntKind.i64.wrap ((cell.getD (Int.toNat 22) (aG .u8)).toNat:Int)*2^(min (Int.toNat 16) IntKind.i64.bits)))).toNat)|||BitVec.ofInt IntKind.i64.bits (IntKind.i64.wrap (IntKind.i64.wrap ((cell.getD (Int.toNat 23) (aG .u8)).toNat:Int)*2^(min (Int.toNat 24) IntKind.i64.bits)))).toNat=ZT cell:=by
 have h0:=(cell.getD 20 (aG .u8)).toNat_lt;have h1:=(cell.getD 21 (aG .u8)).toNat_lt;have h2:=(cell.getD 22 (aG .u8)).toNat_lt;have h3:=(cell.getD 23 (aG .u8)).toNat_lt;rw[Qw,Qw,Qw,Qw];show IntKind.i64.wrap (BitVec.ofInt IntKind.i64.bits (IntKind.i64.wrap (BitVec.ofInt IntKind.i64.bits (IntKind.i64.wrap (BitVec.ofInt IntKind.i64.bits (((cell.getD 20 (aG .u8)).toNat:Nat):Int)|||BitVec.ofInt IntKind.i64.bits (IntKind.i64.wrap ((((cell.getD 21 (aG .u8)).toNat:Nat):Int)*2^8))).toNat)|||BitVec.ofInt IntKind.i64.bits (IntKind.i64.wrap ((((cell.getD 22 (aG .u8)).toNat:Nat):Int)*2^16))).toNat)|||BitVec.ofInt IntKind.i64.bits (IntKind.i64.wrap ((((cell.getD 23 (aG .u8)).toNat:Nat):Int)*2^24))).toNat=_
 rw[ZS (k:=8) h0 h1 (by omega),ZS (k:=16) (by omega) h2 (by omega),ZS (k:=24) (by omega) h3 (by omega)];unfold ZT;omega
theorem ZU{cell:List UInt8}(h:cell.length=24):cell.drop 20= [cell.getD 20 (aG .u8),cell.getD 21 (aG .u8),cell.getD 22 (aG .u8),cell.getD 23 (aG .u8)]:=by
 rw[getD_drop cell 20 (aG .u8) (by omega),getD_drop cell 21 (aG .u8) (by omega),getD_drop cell 22 (aG .u8) (by omega),getD_drop cell 23 (aG .u8) (by omega),List.drop_of_length_le (by omega)]
theorem WV{key c:Int}{cell:List UInt8}(h1:eM key=true)(h2:inr c 0 1000000000000=true)(h3:cell.length=24):LP key c cell=decide (ZT cell=mV key c (cell.take 20)):=by
 have hr:=dz key (71::c::(cell.take 20).map (fun x=>(x.toNat:Int)));have hr2:0≤mV key c (cell.take 20)∧mV key c (cell.take 20)<2147483647:=hr;rw[LP,h1,h2,show decide ((cell.length:Int)=24)=true by rw[decide_eq_true_eq];omega,Bool.true_and,Bool.true_and,Bool.true_and,ZU h3,Tk _ _ _ _ _ hr2.1 (by omega)];rfl
def Yt(key c:Int)(cell:List UInt8):Bool:=eM key&&inr c 0 1000000000000&&decide ((cell.length:Int)=24)
theorem ZV{key c:Int}{cell:List UInt8}(h:Yt key c cell=false):nQ key c cell=false:=by
 apply MT;unfold Yt at h;rw[LP,h];rfl
theorem acj{key c:Int}{cell:List UInt8}(h:Yt key c cell=true):eM key=true∧inr c 0 1000000000000=true∧cell.length=24:=by
 simp only[Yt,Bool.and_eq_true,decide_eq_true_eq]at h;exact⟨h.1.1,h.1.2,by omega⟩
theorem Tt(l:List UInt8):l.set (Int.toNat 0) (UInt8.ofNat (IntKind.u8.wrap ((BitVec.ofInt IntKind.u8.bits (((l.getD (Int.toNat 0) (aG .u8)).toNat:Nat):Int)^^^BitVec.ofInt IntKind.u8.bits 128).toNat:Int)).toNat)=LQ l:=by
 have:=SS (l.getD (Int.toNat 0) (aG .u8)) 128;rw[show(((128:UInt8).toNat:Nat):Int)=128 from rfl]at this;rw[this];rfl
theorem Oy{d:DB}{v:List Int}(h:(fU d v).length=0):ko d v=false:=by rw[ko,h];rfl
theorem ET{d:DB}{v:List Int}(h: ¬(fU d v).length=0):ko d v=true:=by
 rw[ko,Bool.not_eq_true'];exact beq_eq_false_iff_ne.2 h
theorem Tu{key sv r:Int}{d:DB}{v:List Int}(h:ko d v=false):nM key sv r d v=noA:=by rw[nM,h];rfl
theorem Dd{key sv r:Int}{d:DB}{v:List Int}(h:ko d v=true):nM key sv r d v=mkA key sv r v (fU d v):=by rw[nM,if_pos h]
theorem De{d:DB}{v:List Int}(h:ko d v=true):(fU d v).length=24:=by
 rcases ug d v with h1|h1
 ·exact h1
 ·rw[ko,h1]at h;cases h
theorem Tv{s:bp}{key r:Int}{d:DB}{v:List Int}(h:(ko d v&&(s.behavior==3))=false):MP s key r d v=nM key s.id r d v:=by
 unfold MP nM;cases hk:ko d v with
 |false=>rfl
 |true=>
  rw[hk,Bool.true_and,beq_eq_false_iff_ne]at h;rw[if_pos rfl,if_pos rfl,if_neg h]
theorem Oz{s:bp}{key r:Int}{d:DB}{v:List Int}(h:(ko d v&&(s.behavior==3))=true):ko d v=true∧MP s key r d v=mkA key s.id r v (LQ (fU d v)):=by
 rw[Bool.and_eq_true,beq_iff_eq]at h;exact⟨h.1,by rw[MP,if_pos h.1,if_pos h.2]⟩
theorem Is(b:List UInt8):(LQ b).length=b.length:=by unfold LQ;rw[List.length_set]
theorem Yu(s:bp)(key r:Int)(d:DB){v:List Int}(hv:v.length≤262144):(MP s key r d v).selection.length≤262144∧(MP s key r d v).data.length≤262144:=by
 have h:=ug d v;have h2:(fU d v).length≤262144:=by
  rcases h with h|h
  ·omega
  ·rw[h];exact Nat.zero_le _
 unfold MP;split
 ·split
  ·exact⟨hv,by show(LQ (fU d v)).length≤_;rw[Is];exact h2⟩
  ·exact⟨hv,h2⟩
 ·exact⟨Nat.zero_le _,Nat.zero_le _⟩
theorem It{l:List (List UInt8)}(h:gL l=true):Vp l=vX l:=by rw[Vp,if_pos h]
theorem zu{l:List (List UInt8)}(h:gL l=false):Vp l= []:=by rw[Vp,h];rfl
theorem EU{l:List (List UInt8)}(h:gL l=true): ∀a,a∈l→a.length≤1048576:=by
 intro a ha;simp only[gL,Bool.and_eq_true,List.all_eq_true,decide_eq_true_eq]at h;have:=h.2 a ha;omega
theorem WW{l:List (List UInt8)}{k:Nat}(hk:k<l.length)(h: ¬(l.getD k (aG (.sl .u8))).length=24):gL l=false:=by
 have h2:(l.all fun a=>decide ((a.length:Int)=24))=false:=Ea _ _ (aG (.sl .u8)) k hk (by rw[decide_eq_false_iff_not];omega);rw[gL,h2,Bool.and_false]
theorem Tw(rows i:Int)(sd:List Int): ∀v,v∈pF rows i sd→v.length≤64:=by
 intro v hv;unfold pF at hv;split at hv
 ·rcases List.mem_append.1 hv with h|h
  ·obtain⟨s,_,rfl⟩:=List.mem_map.1 h;exact gU _ _
  ·rw[List.mem_singleton.1 h];exact A5 rows i sd
 ·cases hv
theorem Tx(rows i:Int)(sd:List Int):(pF rows i sd).length≤sd.length+1:=by
 unfold pF;split
 ·rw[List.length_append,List.length_map];simp
 ·exact Nat.zero_le _
theorem OA{x:aW}(r row s:Int)(h:okW x=true):(query' x r row s).length≤x.az.length:=by
 have h1:=Tx x.rows row (gA x.az.length r row s);have h2:=ni x.az.length r row s;have h3:=(dV h).2;unfold query';omega
theorem Ty(x:aW)(r row s:Int)(k:Nat):((query' x r row s).getD k (aG (.sl .int))).length≤64:=by
 rw[List.getD_eq_getElem?_getD];cases hq:(query' x r row s)[k]? with
 |none=>exact Nat.zero_le _
 |some v=>exact Tw _ _ _ v (List.mem_of_getElem? hq)
theorem EV{x:aW}{r row s:Int}(h:jJ x.aB.rounds r=false):zo x r row s= []∧uj x r row s=false:=⟨by rw[zo,h];rfl,by rw[uj,h];rfl⟩
theorem Iu{x:aW}{r row s:Int}(h:jJ x.aB.rounds r=true):zo x r row s=Vp (wQ x r row s)∧uj x r row s=gL (wQ x r row s):=⟨by rw[zo,if_pos h],by rw[uj,h,Bool.true_and]⟩
theorem Iv{x:aW}(h:okW x=true):x.aB.rounds.length≤8∧ ∀y,y∈x.aB.rounds→cE List.length y.db.rows≤1048576:=by
 have ha:=l5 h;simp only[Kg,Bool.and_eq_true]at ha;have ha:eV x.aB=true:=ha.1.1.1.1.1.2;simp only[eV,Eg,Bool.and_eq_true,List.all_eq_true,List.mem_range,decide_eq_true_eq]at ha;refine⟨by omega,fun y hy=> ?_⟩;obtain⟨i,hi,rfl⟩:=List.mem_iff_getElem.1 hy;have h2:=ha.2 i hi;have e:x.aB.rounds.getD i (aG .aJ)=x.aB.rounds[i]:=by rw[List.getD_eq_getElem?_getD,List.getElem?_eq_getElem hi];rfl
 simp only[oM,e,Bool.and_eq_true]at h2;exact dQ h2.1.2
end
section
def gj(rows:Int)(l:List aT):DB:=l.foldl (fun d r=>gu d r.share) (dD rows)
theorem GM(rows:Int)(l:List aT)(k:Nat)(h:k<l.length):gj rows (l.take (k+1))=gu (gj rows (l.take k)) (l.getD k (aG .aT)).share:=by
 unfold gj;rw[bu l k (aG .aT) h,List.foldl_append];rfl
theorem TD(rows:Int):cL (dD rows)=true:=by
 rw[iS];refine⟨pG rows,fun r hr=> ?_⟩;unfold dD at hr;dsimp only at hr;split at hr
 ·rw[(List.mem_replicate.1 hr).2];exact qL
 ·cases hr
theorem xF(a b:DB):(gu a b).rows.length=a.rows.length:=by
 cases h:iz a b with
 |true=>rw[vD h];exact jx h
 |false=>rw[pH h]
theorem vJ{a b:DB}(ha:cL a=true):cL (gu a b)=true:=by
 cases h:iz a b with
 |true=>exact Kw ha (tV h).2.1
 |false=>rw[pH h];exact ha
theorem OC(rows:Int): ∀(l:List aT) (d:DB),cL d=true→cL (l.foldl (fun d r=>gu d r.share) d)=true∧(l.foldl (fun d r=>gu d r.share) d).rows.length=d.rows.length
 | [],d,h=>⟨h,rfl⟩
 |r::l,d,h=>by
  have ih:=OC rows l (gu d r.share) (vJ h);rw[xF]at ih;exact ih
theorem Bq(rows:Int)(l:List aT):cL (gj rows l)=true∧(gj rows l).rows.length=(dD rows).rows.length:=OC rows l _ (TD rows)
theorem OD(rows:Int)(l:List aT):cE List.length (gj rows l).rows≤1048576:=dQ (Bq rows l).1
theorem OE{s:bp}(h:cj s=true):(1≤s.rows∧s.rows≤64)∧s.received.length≤8:=by
 simp only[cj,tL,Bool.and_eq_true,b7,decide_eq_true_eq]at h;omega
theorem zx{s:bp}(h:cj s=true): ∀r,r∈s.received→cE List.length r.share.rows≤1048576:=by
 intro r hr;obtain⟨i,hi,rfl⟩:=List.mem_iff_getElem.1 hr;simp only[cj,Bool.and_eq_true,List.all_eq_true,List.mem_range]at h;have h2:=h.2 i hi;have e:s.received.getD i (aG .aT)=s.received[i]:=by rw[List.getD_eq_getElem?_getD,List.getElem?_eq_getElem hi];rfl
 simp only[mX,e,Bool.and_eq_true]at h2;exact dQ h2.1.2
theorem Qz(rows:Int)(l:List aT)(f k:Nat)(h:k<l.length)(hf:f≤k):gj rows ((l.drop f).take (k+1-f))=gu (gj rows ((l.drop f).take (k-f))) (l.getD k (aG .aT)).share:=by
 rw[show k+1-f=(k-f)+1 by omega,GM _ _ _ (by rw[List.length_drop];omega)];congr 2;rw[List.getD_eq_getElem?_getD,List.getElem?_drop,show f+(k-f)=k by omega];rfl
theorem TF(rows:Int)(l:List aT)(f k:Nat)(h:l.length≤k):gj rows ((l.drop f).take (k-f))=gj rows (l.drop f):=by
 rw[List.take_of_length_le (by rw[List.length_drop];omega)]
def so(s:bp):DB:=if cj s then gj s.rows s.received else⟨[]⟩
def alt(d:DB):DB:=⟨d.rows.set 0 ((d.rows.getD 0 (aG (.sl .u8))).set 0 ((d.rows.getD 0 (aG (.sl .u8))).getD 0 (aG .u8)^^^1))⟩
def rcvd(s:bp):List aT:=if s.behavior=1 then s.received.drop 1 else s.received
def qT(s:bp):DB:=if cj s then(if s.behavior=2 then alt (gj s.rows (rcvd s))else gj s.rows (rcvd s))else⟨[]⟩
theorem alt_eq(d:DB):d.rows.set (Int.toNat 0) ((d.rows.getD (Int.toNat 0) (aG (.sl .u8))).set (Int.toNat 0) (UInt8.ofNat (IntKind.u8.wrap ((BitVec.ofInt IntKind.u8.bits ((((d.rows.getD (Int.toNat 0) (aG (.sl .u8))).getD (Int.toNat 0) (aG .u8)).toNat:Nat):Int)^^^BitVec.ofInt IntKind.u8.bits 1).toNat:Int)).toNat))=(alt d).rows:=by
 have:=SS ((d.rows.getD (Int.toNat 0) (aG (.sl .u8))).getD (Int.toNat 0) (aG .u8)) 1;rw[show(((1:UInt8).toNat:Nat):Int)=1 from rfl]at this;rw[this];rfl
theorem TG(a b:Int):fP a b≤a∧fP a b≤b∧(fP a b=a∨fP a b=b):=by unfold fP;split<;>omega
theorem TH(l:List aT):l.drop (fP 1 (l.length:Int)).toNat=l.drop 1:=by
 have:=TG 1 (l.length:Int);cases l with
 |nil=>simp
 |cons x r=>
  have h1:fP 1 (((x::r).length:Nat):Int)=1:=by rw[List.length_cons]at this ⊢;omega
  rw[h1];rfl
theorem TI{s:bp}(h:cj s=true):0<(gj s.rows (rcvd s)).rows.length∧0<((gj s.rows (rcvd s)).rows.getD 0 (aG (.sl .u8))).length:=by
 have h1:=OE h;have h2:=Bq s.rows (rcvd s);have h3:(dD s.rows).rows.length=s.rows.toNat:=by rw[mH (by omega)];simp
 have h4:0<(gj s.rows (rcvd s)).rows.length:=by omega
 exact⟨h4,by rw[nZ h2.1 0 h4];decide⟩
theorem GN(s:bp):s.behavior=1→rcvd s=s.received.drop 1:=fun h=>if_pos h
theorem KR(s:bp): ¬s.behavior=1→rcvd s=s.received:=fun h=>if_neg h
theorem TJ{d:DB}(h:cL d=true):cL (alt d)=true:=by
 rw[iS]at h ⊢;refine⟨by unfold alt;dsimp only;rw[List.length_set];exact h.1,fun r hr=> ?_⟩;unfold alt at hr;dsimp only at hr;rcases List.mem_or_eq_of_mem_set hr with h1|h1
 ·exact h.2 r h1
 ·subst h1;rw[List.length_set];cases hd:d.rows with
  |nil=>rw[hd]at hr;cases hr
  |cons b l=>exact h.2 b (by rw[hd];exact List.mem_cons_self ..)
theorem W0(s:bp):cE List.length (qT s).rows≤1048576:=by
 unfold qT;split
 ·split
  ·exact dQ (TJ (Bq _ _).1)
  ·exact dQ (Bq _ _).1
 ·exact by decide
theorem TL(s:bp): ∀r,r∈rcvd s→r∈s.received:=by
 intro r hr;unfold rcvd at hr;split at hr
 ·exact List.mem_of_mem_drop hr
 ·exact hr
def MV(key:Int)(r:dY):Bool:=r.LK==Qs key r.server r.client r.round r.mJ
def pU(key:Int)(s:bp)(r:dY):Bool:=(r.server !=s.id||r.round !=s.round)|| !MV key r
def MW(r:dY)(d:DB):Bool:=r.mJ==EF r.client r.round d
def iE(key:Int)(s:bp)(r:dY):Int:=if pU key s r then 0 else if lM s.received r.client then(if MW r (Bi s.received r.client)then 0 else 2)else 1
def CE(key:Int)(s:bp)(p:DB):List dY→Int
 | []=>if cj s&&(p.rows==(so s).rows)then 0 else 3
 |r::l=>if iE key s r=0 then CE key s p l else iE key s r
theorem Br(key:Int)(s:bp)(p:DB): ∀(l:List dY) (k:Nat),(∀j,j<k→iE key s (l.getD j (aG .dY))=0)→CE key s p (l.drop k)=CE key s p l
 |l,0,_=>by rw[List.drop_zero]
 | [],k+1,_=>by simp
 |r::l,k+1,h=>by
  have h0:=h 0 (by omega);rw[List.drop_succ_cons,Br key s p l k fun j hj=>by simpa using h (j+1) (by omega)];show CE key s p l=if iE key s r=0 then CE key s p l else iE key s r
  rw[if_pos (by simpa using h0)]
theorem zy{key:Int}{s:bp}{p:DB}{l:List dY}{k:Nat}(h: ∀j,j<k→iE key s (l.getD j (aG .dY))=0)(hk:k<l.length)(hn:iE key s (l.getD k (aG .dY))≠0):CE key s p l=iE key s (l.getD k (aG .dY)):=by
 rw[←Br key s p l k h,List.drop_eq_getElem_cons hk,show l[k]=l.getD k (aG .dY)by rw[List.getD_eq_getElem?_getD,List.getElem?_eq_getElem hk];rfl];exact if_neg hn
theorem zz{key:Int}{s:bp}{p:DB}{l:List dY}{k:Nat}(h: ∀j,j<k→iE key s (l.getD j (aG .dY))=0)(hk:l.length≤k):CE key s p l=if cj s&&(p.rows==(so s).rows)then 0 else 3:=by
 rw[←Br key s p l k h,List.drop_of_length_le hk];rfl
theorem qU{key:Int}{s:bp}{l:List dY}{k:Nat}(h: ∀j,j<k→iE key s (l.getD j (aG .dY))=0)(hk:iE key s (l.getD k (aG .dY))=0): ∀j,j<k+1→iE key s (l.getD j (aG .dY))=0:=by
 intro j hj;by_cases hjk:j=k
 ·subst hjk;exact hk
 ·exact h j (by omega)
def CF(m:Int)(sv:List bp)(pb:List DB)(rc:List dY)(i:Nat):Bool:=decide ((pb.length:Int)≤(i:Int))|| !(CE (iT m (sv.getD i (aG .bp)).id) (sv.getD i (aG .bp)) (pb.getD i (aG .DB)) rc==0)
def ZW(m:Int)(sv:List bp)(pb:List DB)(rc:List dY)(i:Nat):List Int:=if CF m sv pb rc i then [(sv.getD i (aG .bp)).id]else []
def jA(m:Int)(sv:List bp)(pb:List DB)(rc:List dY)(n:Nat):List Int:=(List.range n).flatMap (ZW m sv pb rc)
theorem EW{m:Int}{sv:List bp}{pb:List DB}{rc:List dY}{n:Nat}(h:CF m sv pb rc n=true):jA m sv pb rc (n+1)=jA m sv pb rc n++ [(sv.getD n (aG .bp)).id]:=by
 unfold jA;rw[List.range_succ,List.flatMap_append];simp[ZW,h]
theorem Bs{m:Int}{sv:List bp}{pb:List DB}{rc:List dY}{n:Nat}(h:CF m sv pb rc n=false):jA m sv pb rc (n+1)=jA m sv pb rc n:=by
 unfold jA;rw[List.range_succ,List.flatMap_append];simp[ZW,h]
theorem nI(m:Int)(sv:List bp)(pb:List DB)(rc:List dY): ∀n,(jA m sv pb rc n).length≤n
 |0=>Nat.le_refl _
 |n+1=>by
  have ih:=nI m sv pb rc n;cases h:CF m sv pb rc n with
  |true=>rw[EW h,List.length_append];simp;omega
  |false=>rw[Bs h];omega
def cZ(sv:List bp):List DB:=sv.map qT
theorem GO(sv:List bp)(k:Nat)(h:k<sv.length):(cZ sv).take (k+1)=(cZ sv).take k++ [qT (sv.getD k (aG .bp))]:=by
 rw[bu (cZ sv) k (aG .DB) (by unfold cZ;rw[List.length_map];exact h)];congr 2;unfold cZ;rw[List.getD_eq_getElem?_getD,List.getD_eq_getElem?_getD,List.getElem?_map,List.getElem?_eq_getElem h];rfl
theorem OF(sv:List bp): ∀d,d∈cZ sv→cE List.length d.rows≤1048576:=by
 intro d hd;obtain⟨s,_,rfl⟩:=List.mem_map.1 hd;exact W0 s
theorem KS{pb:List DB}(h: ∀d,d∈pb→cE List.length d.rows≤1048576)(k:Nat):cE List.length (pb.getD k (aG .DB)).rows≤1048576:=by
 rw[List.getD_eq_getElem?_getD];cases hq:pb[k]? with
 |none=>exact by decide
 |some d=>exact h d (List.mem_of_getElem? hq)
theorem EX{x:aW}(h:okW x=true): ∀s,s∈bP x→nr s:=by
 rw[bP,if_pos h];exact(col h _ (Nat.le_refl _)).sml
theorem lO{x:aW}(h:okW x=true):(bP x).length=x.az.length:=by
 rw[bP,if_pos h];exact kg h (Nat.le_refl _)
theorem acm{key:Int}{s:bp}{r:dY}(h:pU key s r=false)(h1:lM s.received r.client=false):iE key s r=1:=by rw[iE,h,h1];rfl
theorem acn{key:Int}{s:bp}{r:dY}(h:pU key s r=false)(h1:lM s.received r.client=true)(h2:MW r (Bi s.received r.client)=false):iE key s r=2:=by rw[iE,h,h1,h2];rfl
theorem aco{key:Int}{s:bp}{r:dY}(h:pU key s r=false)(h1:lM s.received r.client=true)(h2:MW r (Bi s.received r.client)=true):iE key s r=0:=by rw[iE,h,h1,h2];rfl
theorem acp{key:Int}{s:bp}{r:dY}(h:pU key s r=true):iE key s r=0:=by rw[iE,h];rfl
end
section
def LS:DB→List DB→Option DB
 |a,[]=>some a
 |a,s::r=>if iz a s then LS (gu a s) r else none
def OG(l:List DB):Option DB:=if bT l.length then LS (l.getD 0 (aG .DB)) (l.drop 1)else none
def CG(l:List DB):Bool:=(OG l).isSome
def jw(l:List DB):DB:=(OG l).getD ⟨[]⟩
def CH(l:List DB)(k:Nat):DB:=((l.drop 1).take k).foldl gu (l.getD 0 (aG .DB))
theorem zA(l:List DB)(k:Nat)(h:k<(l.drop 1).length):CH l (k+1)=gu (CH l k) ((l.drop 1).getD k (aG .DB)):=by
 unfold CH;rw[bu (l.drop 1) k (aG .DB) h,List.foldl_append];rfl
theorem KT{α:Type}(l:List α)(k:Nat)(d:α)(h:k<l.length):l.drop k=l.getD k d::l.drop (k+1):=by
 rw[List.drop_eq_getElem_cons h,show l[k]=l.getD k d by rw[List.getD_eq_getElem?_getD,List.getElem?_eq_getElem h];rfl]
theorem KU(l:List DB)(k:Nat)(h:k<(l.drop 1).length)(hx:iz (CH l k) ((l.drop 1).getD k (aG .DB))=true):LS (CH l k) ((l.drop 1).drop k)=LS (CH l (k+1)) ((l.drop 1).drop (k+1)):=by
 rw[KT _ k (aG .DB) h,LS,if_pos hx,zA l k h]
theorem TM(l:List DB)(k:Nat)(h:k<(l.drop 1).length)(hx:iz (CH l k) ((l.drop 1).getD k (aG .DB))=false):LS (CH l k) ((l.drop 1).drop k)=none:=by
 rw[KT _ k (aG .DB) h,LS,hx];rfl
theorem OH(l:List DB)(k:Nat)(h:(l.drop 1).length≤k):LS (CH l k) ((l.drop 1).drop k)=some (CH l k):=by
 rw[List.drop_of_length_le h];rfl
def uo(l:List DB):Prop:= ∀d,d∈l→cL d=true
theorem k7{l:List DB}(h:uo l)(k:Nat):cL (l.getD k (aG .DB))=true:=by
 rw[List.getD_eq_getElem?_getD];cases hq:l[k]? with
 |none=>exact by decide
 |some d=>exact h d (List.mem_of_getElem? hq)
theorem TN{l:List DB}(h:uo l): ∀k,cL (CH l k)=true:=by
 intro k;induction k with
 |zero=>exact k7 h 0
 |succ k ih=>
  by_cases hk:k<(l.drop 1).length
  ·rw[zA l k hk];exact vJ ih
  ·have e:CH l (k+1)=CH l k:=by unfold CH;rw[List.take_of_length_le (by omega),List.take_of_length_le (by omega)]
   rw[e];exact ih
theorem MX{l:List DB}(h:uo l):uo (l.drop 1):=fun d hd=>h d (List.mem_of_mem_drop hd)
theorem EY{l:List DB}(h:OG l=none):jw l=⟨[]⟩∧CG l=false:=by unfold jw CG;rw[h];exact⟨rfl,rfl⟩
theorem Iw{l:List DB}{d:DB}(h:OG l=some d):jw l=d∧CG l=true:=by unfold jw CG;rw[h];exact⟨rfl,rfl⟩
theorem OI{l:List DB}(h:bT l.length=false):OG l=none:=by rw[OG,h];rfl
theorem OJ{l:List DB}(h:bT l.length=true):OG l=LS (CH l 0) ((l.drop 1).drop 0):=by rw[OG,if_pos h];rfl
theorem EZ{l:List DB}(h:bT l.length=true):2≤l.length∧l.length≤4:=by simp only[bT,b7]at h;omega
theorem W1(s:bp):cL (qT s)=true:=by
 unfold qT;split
 ·split
  ·exact TJ (Bq _ _).1
  ·exact(Bq _ _).1
 ·exact by decide
theorem oq(sv:List bp):uo (cZ sv):=by
 intro d hd;obtain⟨s,_,rfl⟩:=List.mem_map.1 hd;exact W1 s
theorem GP(l:List DB)(h:uo l):cL (jw l)=true:=by
 cases hq:OG l with
 |none=>rw[(EY hq).1];decide
 |some d=>
  rw[(Iw hq).1];have key: ∀(r:List DB) (a:DB),cL a=true→LS a r=some d→cL d=true:=by
   intro r;induction r with
   |nil=>intro a ha hj;simp only[LS,oI]at hj;exact hj▸ha
   |cons s r ih=>
    intro a ha hj;simp only[LS]at hj;split at hj
    ·exact ih _ (vJ ha) hj
    ·cases hj
  unfold OG at hq;split at hq
  ·exact key _ _ (k7 h 0) hq
  ·cases hq
def sr(a:gZ)(r:Int)(d:DB):Bool:=(((eV a&&inr r 0 100000)&& !decide (r≤dr a))&&cL d)&&decide ((d.rows.length:Int)=a.rows)
def uq(a:gZ)(r:Int)(d:DB):List aJ:=a.rounds++ [⟨r,d⟩]
def GQ(a:gZ)(r:Int)(d:DB):List aJ:=if sr a r d then(if(8:Int)<(uq a r d).length then(uq a r d).drop 1 else uq a r d)else a.rounds
def E0(id rows b:Int):Bool:=inr id 0 3&&inr rows 1 64&&inr b 0 3
def newS(id rows b:Int):bp:=if E0 id rows b then⟨id,rows,0,[],b⟩else⟨0,0,0,[],0⟩
def E1(s:bp):Bool:=cj s&& !(s.round==100000)
def jB(s:bp):bp:=if E1 s then⟨s.id,s.rows,IntKind.i64.wrap (s.round+1),[],s.behavior⟩else s
def xG(l:List bp)(id:Int):Bool:=inr id 0 (IntKind.i64.wrap ((l.length:Int)-1))
def zB(rows rd:Int)(p:List bp×List Int)(id:Int):List bp×List Int:=if xG p.1 id then(p.1.set id.toNat ⟨id,rows,rd,[],0⟩,p.2++ [id])else p
def CI(rows rd:Int)(p:List bp×List Int)(g:List Int):List bp×List Int:=g.foldl (zB rows rd) p
theorem E2(rows rd:Int)(p:List bp×List Int)(g:List Int)(k:Nat)(h:k<g.length):CI rows rd p (g.take (k+1))=zB rows rd (CI rows rd p (g.take k)) (g.getD k (aG .int)):=by
 unfold CI;rw[bu g k (aG .int) h,List.foldl_append];rfl
theorem Ix(rows rd:Int)(p:List bp×List Int)(id:Int):(zB rows rd p id).1.length=p.1.length∧(zB rows rd p id).2.length≤p.2.length+1:=by
 unfold zB;split
 ·simp
 ·exact⟨rfl,Nat.le_succ _⟩
theorem Iy(rows rd:Int)(p:List bp×List Int)(g:List Int): ∀k,k≤g.length→(CI rows rd p (g.take k)).1.length=p.1.length∧(CI rows rd p (g.take k)).2.length≤p.2.length+k
 |0,_=>⟨rfl,Nat.le_refl _⟩
 |k+1,hk=>by
  have ih:=Iy rows rd p g k (by omega);rw[E2 _ _ _ _ k (by omega)];have:=Ix rows rd (CI rows rd p (g.take k)) (g.getD k (aG .int));omega
def E3(rd:Int)(l:List bp):Prop:= ∀s,s∈l→s.round=rd∧nr s
theorem acq{rows rd:Int}{p:List bp×List Int}{id:Int}(h:E3 rd p.1):E3 rd (zB rows rd p id).1:=by
 unfold zB;split
 ·intro s hs;rcases List.mem_or_eq_of_mem_set hs with h1|h1
  ·exact h s h1
  ·subst h1;exact⟨rfl,Nat.zero_le _,fun r hr=>by cases hr⟩
 ·exact h
theorem TO{rows rd:Int}{p:List bp×List Int}(g:List Int)(h:E3 rd p.1): ∀k,k≤g.length→E3 rd (CI rows rd p (g.take k)).1
 |0,_=>h
 |k+1,hk=>by
  rw[E2 _ _ _ _ k (by omega)];exact acq (TO g h k (by omega))
theorem TP(l:List bp)(k:Nat)(h:k<l.length):((l.map jB).take k++l.drop k).set k (jB (((l.map jB).take k++l.drop k).getD k (aG .bp)))=(l.map jB).take (k+1)++l.drop (k+1):=by
 rw[jV _ _ _ _ (by rw[List.length_map];omega)];refine tE _ _ _ (aG .bp) _ h (by rw[List.length_map];exact h) ?_;rw[List.getD_eq_getElem?_getD,List.getD_eq_getElem?_getD,List.getElem?_map,List.getElem?_eq_getElem h];rfl
def gX(x:aW):Bool:=okW x&& !decide (x.round≥99999)
def rM(x:aW)(g:List Int):List bp×List Int:=CI x.rows x.round (x.az,x.replaced) g
def cz(x:aW)(g:List Int)(d:DB):aW:=if gX x then⟨x.rows,(rM x g).1.map jB,x.af,⟨x.aB.rows,if g.length=0 then GQ x.aB x.round d else x.aB.rounds⟩,x.bn,x.seed,IntKind.i64.wrap (x.round+1),(rM x g).2,if g.length=0 then x.cancelled else IntKind.i64.wrap (x.cancelled+1)⟩else x
theorem Yv{x:aW}(h:okW x=true):E3 x.round x.az:=by
 intro s hs;obtain⟨i,hi,rfl⟩:=List.mem_iff_getElem.1 hs;have h1:=EC h hi;have e:x.az.getD i (aG .bp)=x.az[i]:=by rw[List.getD_eq_getElem?_getD,List.getElem?_eq_getElem hi];rfl
 have he:=vH h _ hs;simp only[FG,e,Bool.and_eq_true,beq_iff_eq]at h1;exact⟨h1.1.2,by rw[he];decide,fun r hr=>by rw[he]at hr;cases hr⟩
def TQ(key:Int)(a:cM):Bool:=a.LK==EM key a.server a.round a.selection a.data
def fls(key:Int)(d:DB)(a:cM):Bool:=TQ key a&& !(a.data==fU d a.selection)
def tsK(x:aW)(i:Nat):Int:=iT x.bn (i:Int)
def tsA(x:aW)(i:Nat):cM:=MP (x.az.getD i (aG .bp)) (tsK x i) (dr x.aB) (gO x.aB.rounds (dr x.aB)) (cg (kh x.seed [227,x.round,(i:Int)]) x.rows)
def Yw(x:aW)(i:Nat):Bool:=fls (tsK x i) (gO x.aB.rounds (dr x.aB)) (tsA x i)
def GR(x:aW)(n:Nat):List Int:=(List.range n).flatMap fun i=>if Yw x i then [(i:Int)]else []
theorem OK{x:aW}{n:Nat}(h:Yw x n=true):GR x (n+1)=GR x n++ [(n:Int)]:=by
 unfold GR;rw[List.range_succ,List.flatMap_append];simp[h]
theorem KW{x:aW}{n:Nat}(h:Yw x n=false):GR x (n+1)=GR x n:=by
 unfold GR;rw[List.range_succ,List.flatMap_append];simp[h]
def CJ(x:aW)(n:Nat):List bp×List Int:=CI x.rows x.round (x.az,x.replaced) (GR x n)
theorem OL{x:aW}{n:Nat}(h:Yw x n=true):CJ x (n+1)=zB x.rows x.round (CJ x n) (n:Int):=by
 unfold CJ CI;rw[OK h,List.foldl_append];rfl
theorem KX{x:aW}{n:Nat}(h:Yw x n=false):CJ x (n+1)=CJ x n:=by unfold CJ;rw[KW h]
def zC(x:aW):Bool:=okW x&&jJ x.aB.rounds (dr x.aB)
def testW(x:aW):aW:=if zC x then⟨x.rows,(CJ x x.az.length).1,x.af,x.aB,x.bn,x.seed,x.round,(CJ x x.az.length).2,x.cancelled⟩else x
def dn(x:aW):aW:=if gX x then ES (testW (cz x (jA x.bn (bP x) (cZ (bP x)) (iK x) (bP x).length) (jw (cZ (bP x)))))else x
def eo(x:aW):Nat→aW
 |0=>x
 |k+1=>dn (eo x k)
end
section
theorem xH{α:Type}(f:α→Nat)(C n:Nat)(l:List α)(h: ∀y,y∈l→f y≤C)(hl:l.length≤n):cE f l≤(C+1)*n:=by
 have h1:=Yp f C l h;have h2:(C+1)*l.length≤(C+1)*n:=Nat.mul_le_mul_left _ hl;unfold cE;rw[Nat.add_mul,Nat.one_mul]at h2;omega
theorem E4{d:DB}(h:cL d=true):cE List.length d.rows≤1600:=by
 have h1:=WR h;have h2:=Et h;unfold ZM at h1;unfold cE;omega
def Iz(c:dF):Prop:=c.aM.length≤16∧c.inbox.length≤16∧(∀b,b∈c.aM→b.length≤14)∧ ∀b,b∈c.inbox→b.length≤14
theorem zD{c:dF}(h:c8 c=true):Iz c:=by
 obtain⟨h1,h2,h3,h4,_⟩:=pN h;exact⟨h1,h2,h3,h4⟩
theorem GS{c:dF}(h:Iz c):bY c≤480:=by
 have h1:=xH List.length 14 16 c.aM h.2.2.1 h.1;have h2:=xH List.length 14 16 c.inbox h.2.2.2 h.2.1;unfold bY;omega
theorem zE{c:dF}(h:Iz c)(r:Int)(own other:List UInt8):Iz (fK c r own other):=by
 unfold fK;split
 ·refine⟨h.1,?_,h.2.2.1,?_⟩
  ·dsimp only;split
   ·rename_i hg;simp only[jK,Bool.and_eq_true,decide_eq_true_eq]at hg;rw[List.length_append,List.length_singleton];omega
   ·exact h.2.1
  ·dsimp only;split
   ·intro b hb;rcases List.mem_append.1 hb with h1|h1
    ·exact h.2.2.2 b h1
    ·rw[List.mem_singleton.1 h1];exact Tj _ _ _
   ·exact h.2.2.2
 ·exact h
def IA(d:aZ):Prop:=Iz d.live∧Iz d.saved
theorem ZX{d:aZ}(h:IA d)(r:Int)(own other:List UInt8):IA (rdev d r own other):=by
 unfold rdev;split
 ·split
  ·exact⟨zE h.1 _ _ _,zE h.1 _ _ _⟩
  ·exact⟨zE h.1 _ _ _,h.2⟩
 ·exact h
theorem MY(x:aW)(d0:aZ): ∀(l:List Int) (d:aZ),IA d→IA (l.foldl (MR x d0) d)
 | [],_,h=>h
 |r::l,_,h=>MY x d0 l _ (ZX h _ _ _)
theorem k8{d:aZ}(h:IA d):bt d≤960:=by
 have h1:=GS h.1;have h2:=GS h.2;unfold bt;omega
theorem acs{x:aW}{i:Nat}(h:okD x i=true):IA (x.af.getD i (aG .aZ)):=by
 simp only[okD,cP,Bool.and_eq_true]at h;exact⟨zD h.1.1.1.1.1.1.1.1.1,zD h.1.1.1.1.1.1.1.1.2⟩
theorem GU{x:aW}(h:okW x=true): ∀d,d∈x.af→IA d:=by
 intro d hd;obtain⟨i,hi,rfl⟩:=List.mem_iff_getElem.1 hd;have h1:=acs (qM h hi)
 rwa [List.getD_eq_getElem?_getD,List.getElem?_eq_getElem hi]at h1
def wC(x:aW)(n:Nat):Prop:=cE dL x.az≤1048576∧cE bt x.af≤1048576∧dA x.aB≤1048576∧x.replaced.length≤n
theorem TR{x:aW}{n:Nat}(h:wC x n)(hn:n≤4194304):wB x:=⟨h.1,h.2.1,h.2.2.1,Nat.le_trans h.2.2.2 hn⟩
theorem gM{x:aW}{n m:Nat}(h:wC x n)(hn:n≤m):wC x m:=⟨h.1,h.2.1,h.2.2.1,Nat.le_trans h.2.2.2 hn⟩
theorem acu{x:aW}{n:Nat}(h:wC x n):wC (ES x) n:=by
 unfold ES;split
 ·rename_i hk;refine⟨h.1,?_,h.2.2.1,h.2.2.2⟩;have h1:cE bt (x.af.map (nE x))≤(960+1)*8:=by
   refine xH bt 960 8 _ (fun d hd=> ?_) (by rw[List.length_map];exact(qK (l5 hk)).2.1);obtain⟨e,he,rfl⟩:=List.mem_map.1 hd;exact k8 (MY x e _ _ (GU hk e he))
  exact Nat.le_trans h1 (by decide)
 ·exact h
theorem aeD{s:bp}(h:s.received= []):dL s=0:=by unfold dL;rw[h];rfl
def Cj(l:List bp):Prop:=l.length≤4∧ ∀s,s∈l→s.received= []
theorem xI{l:List bp}(h:Cj l):cE dL l≤1048576:=
 Nat.le_trans (xH dL 0 4 l (fun s hs=>by rw[aeD (h.2 s hs)];exact Nat.le_refl 0) h.1) (by decide)
theorem acv{rows rd:Int}{p:List bp×List Int}{id:Int}(h:Cj p.1):Cj (zB rows rd p id).1:=by
 unfold zB;split
 ·refine⟨by rw[List.length_set];exact h.1,fun s hs=> ?_⟩;rcases List.mem_or_eq_of_mem_set hs with h1|h1
  ·exact h.2 s h1
  ·subst h1;rfl
 ·exact h
theorem TS{rows rd:Int}: ∀(g:List Int) {p:List bp×List Int},Cj p.1→Cj (CI rows rd p g).1∧(CI rows rd p g).2.length≤p.2.length+g.length
 | [],_,h=>⟨h,Nat.le_refl _⟩
 |i::g,p,h=>by
  have h1:=TS (rows:=rows) (rd:=rd) g (acv (rows:=rows) (rd:=rd) (id:=i) h);have h2:=(Ix rows rd p i).2;refine⟨h1.1,?_⟩;have h3:(CI rows rd p (i::g)).2.length≤(zB rows rd p i).2.length+g.length:=h1.2;rw[List.length_cons];omega
theorem TT{x:aW}(h:okW x=true):Cj x.az:=⟨(dV h).1,vH h⟩
theorem ZY{l:List bp}(h:Cj l):Cj (l.map jB):=by
 refine⟨by rw[List.length_map];exact h.1,fun s hs=> ?_⟩;obtain⟨t,ht,rfl⟩:=List.mem_map.1 hs;unfold jB;split
 ·rfl
 ·exact h.2 t ht
theorem acw{a:gZ}{r:Int}{d:DB}(ha:eV a=true)(hd:cL d=true):cE dM (GQ a r d)≤1048576:=by
 have h8:a.rounds.length≤8:=by simp only[eV,Eg,Bool.and_eq_true,decide_eq_true_eq]at ha;omega
 have hm: ∀y,y∈a.rounds→dM y≤1600:=by
  intro y hy;obtain⟨i,hi,rfl⟩:=List.mem_iff_getElem.1 hy;simp only[eV,Bool.and_eq_true,List.all_eq_true,List.mem_range]at ha;have h2:=ha.2 i hi;have e:a.rounds.getD i (aG .aJ)=a.rounds[i]:=by rw[List.getD_eq_getElem?_getD,List.getElem?_eq_getElem hi];rfl
  simp only[oM,e,Bool.and_eq_true]at h2;exact E4 h2.1.2
 have hL: ∀y,y∈uq a r d→dM y≤1600:=by
  intro y hy;rcases List.mem_append.1 hy with h1|h1
  ·exact hm y h1
  ·rw[List.mem_singleton.1 h1];exact E4 hd
 have hl:(uq a r d).length≤9:=by unfold uq;rw[List.length_append,List.length_singleton];omega
 have key:cE dM (GQ a r d)≤(1600+1)*9:=by
  unfold GQ;split
  ·split
   ·exact xH _ _ _ _ (fun y hy=>hL y (List.mem_of_mem_drop hy)) (by rw[List.length_drop];omega)
   ·exact xH _ _ _ _ hL hl
  ·exact xH _ _ _ _ hm (by omega)
 exact Nat.le_trans key (by decide)
theorem W2{x:aW}(h:okW x=true):eV x.aB=true:=by
 have h:=l5 h;simp only[Kg,Bool.and_eq_true]at h;exact h.1.1.1.1.1.2
theorem KY{x:aW}{g:List Int}{d:DB}{n:Nat}(h:wC x n)(hd:cL d=true):wC (cz x g d) (n+g.length):=by
 unfold cz;split
 ·rename_i hk;simp only[gX,Bool.and_eq_true]at hk;have h0:=TS (rows:=x.rows) (rd:=x.round) g (p:=(x.az,x.replaced)) (TT hk.1);refine⟨xI (ZY h0.1),h.2.1,?_,?_⟩
  ·show cE dM _≤_
   dsimp only;split
   ·exact acw (W2 hk.1) hd
   ·exact h.2.2.1
  ·have h1:=h0.2;have h2:=h.2.2.2;show(CI x.rows x.round (x.az,x.replaced) g).2.length≤_
   dsimp only at h1;omega
 ·exact gM h (Nat.le_add_right _ _)
theorem IB(x:aW): ∀n,(GR x n).length≤n
 |0=>Nat.le_refl _
 |n+1=>by
  have ih:=IB x n;cases h:Yw x n with
  |true=>rw[OK h,List.length_append];simp;omega
  |false=>rw[KW h];omega
theorem OM{x:aW}{n:Nat}(h:wC x n):wC (testW x) (n+4):=by
 unfold testW;split
 ·rename_i hk;simp only[zC,Bool.and_eq_true]at hk;have h0:=TS (rows:=x.rows) (rd:=x.round) (GR x x.az.length) (p:=(x.az,x.replaced)) (TT hk.1);have h4:=(dV hk.1).1;have h5:=IB x x.az.length;refine⟨xI h0.1,h.2.1,h.2.2.1,?_⟩;have h1:=h0.2;have h2:=h.2.2.2;show(CI x.rows x.round (x.az,x.replaced) (GR x x.az.length)).2.length≤_
  dsimp only at h1;omega
 ·exact gM h (Nat.le_add_right _ _)
theorem KZ{x:aW}{n:Nat}(h:wC x n):wC (dn x) (n+8):=by
 unfold dn;split
 ·rename_i hk;simp only[gX,Bool.and_eq_true]at hk;have h1:=nI x.bn (bP x) (cZ (bP x)) (iK x) (bP x).length;rw[lO hk.1]at h1;have h4:=(dV hk.1).1;have h2:=OM (KY (g:=jA x.bn (bP x) (cZ (bP x)) (iK x) (bP x).length) (d:=jw (cZ (bP x))) h (GP _ (oq _)));rw[lO hk.1]at h2 ⊢;exact gM (acu h2) (by omega)
 ·exact gM h (Nat.le_add_right _ _)
theorem TU{x:aW}{n:Nat}(h:wC x n): ∀k,wC (eo x k) (n+8*k)
 |0=>h
 |k+1=>gM (KZ (TU h k)) (by omega)
end
section
def MZ(c:dF)(b:List UInt8):dF:=⟨c.id,c.cU,c.key,c.seed,c.aM++ [b],c.sent,c.inbox,c.next⟩
def pV(c:dF)(b:List UInt8):Bool:=c8 c&&c8 (MZ c b)
def kq(c:dF)(b:List UInt8):dF:=if pV c b then MZ c b else c
def ur(d:aZ)(b:List UInt8):Bool:=(cP d&&pV d.live b)&&pV d.saved b
def CK(d:aZ)(b:List UInt8):aZ:=if ur d b then⟨kq d.live b,kq d.saved b⟩else d
def M0(d:aZ):aZ:=if cP d then⟨d.saved,d.saved⟩else d
def IC(d:aZ):aZ:=if cP d then⟨d.live,d.live⟩else d
def K0(x:aW)(i:Nat)(d:aZ):aW:=⟨x.rows,x.az,x.af.set i d,x.aB,x.bn,x.seed,x.round,x.replaced,x.cancelled⟩
def acy(x:aW)(i:Nat)(s:bp):aW:=⟨x.rows,x.az.set i s,x.af,x.aB,x.bn,x.seed,x.round,x.replaced,x.cancelled⟩
def cQ(x:aW)(c:Int):Bool:=okW x&&fT x c
def xJ(x:aW)(c:Int):aZ:=x.af.getD c.toNat (aG .aZ)
def K1(x:aW)(c:Int)(b:List UInt8):Bool:=cQ x c&&ur (xJ x c) b
def Jg(x:aW)(c:Int)(b:List UInt8):aW:=if cQ x c then K0 x c.toNat (CK (xJ x c) b)else x
def ID(x:aW)(c:Int):aW:=if cQ x c then K0 x c.toNat (M0 (xJ x c))else x
def xK(x:aW)(c:Int):aW:=if cQ x c then K0 x c.toNat (IC (xJ x c))else x
def beh(s:bp)(b:Int):bp:=⟨s.id,s.rows,s.round,s.received,b⟩
def oP(x:aW)(i b:Int):Bool:=(okW x&&inr i 0 (IntKind.i64.wrap ((x.az.length:Int)-1)))&&inr b 0 3
def K2(x:aW)(i b:Int):aW:=if oP x i b then acy x i.toNat (beh (x.az.getD i.toNat (aG .bp)) b)else x
def lP(x:aW)(e:Ev):Bool:=okW x&&(if e.kind=1 then decide (x.round<99999)else if e.kind=2 then K1 x e.node e.body else if e.kind=3 then cQ x e.node else if e.kind=4 then oP x e.node e.value else if e.kind=5 then cQ x e.node else false)
def yd(x:aW)(e:Ev):aW:=if e.kind=1 then dn x else if e.kind=2 then Jg x e.node e.body else if e.kind=3 then ID x e.node else if e.kind=4 then K2 x e.node e.value else if e.kind=5 then xK x e.node else x
theorem ZZ{x:aW}{e:Ev}(h:okW x=false):yd x e=x:=by
 have h1:gX x=false:=by unfold gX;rw[h];rfl
 have h2:cQ x e.node=false:=by unfold cQ;rw[h];rfl
 have h3:oP x e.node e.value=false:=by unfold oP;rw[h];rfl
 have n1: ¬gX x=true:=by rw[h1];decide
 have n2: ¬cQ x e.node=true:=by rw[h2];decide
 have n3: ¬oP x e.node e.value=true:=by rw[h3];decide
 unfold yd;rw[dn,if_neg n1,Jg,if_neg n2,ID,if_neg n2,K2,if_neg n3,xK,if_neg n2];simp
theorem W3{x:aW}{e:Ev}(h:okW x=false):lP x e=false:=by unfold lP;rw[h];rfl
theorem mC{x:aW}{c:Int}(h:cQ x c=true):okW x=true∧0≤c∧c<x.af.length:=by
 simp only[cQ,fT,Bool.and_eq_true,b7]at h;exact⟨h.1,by omega⟩
theorem Z0{x:aW}{c:Int}(h:cQ x c=true):IA (xJ x c):=by
 obtain⟨h1,h2⟩:=mC h;exact GU h1 _ (getD_in _ (by omega))
theorem M1{x:aW}{i b:Int}(h:oP x i b=true):okW x=true∧(0≤i∧i<x.az.length)∧0≤b∧b≤3:=by
 simp only[oP,Bool.and_eq_true,b7]at h;have:=dV h.1.1;rw[bO (a:=(x.az.length:Int)-1) (by omega)]at h;exact⟨h.1.1,by omega,h.2⟩
end
section
theorem zF(c:dF):qH c.key (IntKind.i64.wrap (1-cC c))=EP c:=by
 unfold EP;rw[bO (by unfold cC;split<;>omega)]
theorem K3{c:dF}{r:Int}{own other:List UInt8}(h:rY c r=false):fK c r own other=c:=by rw[fK,h];rfl
theorem TV{c:dF}{r:Int}(h:rY c r=true):c8 c=true∧c.next≤r∧r≤99999∧0≤c.next:=by
 simp only[rY,Bool.and_eq_true,b7]at h;have:=(pN h.1).2.2.2.2.2.2.1;exact⟨h.1,h.2.1,h.2.2,this⟩
theorem ON{d:aZ}{r:Int}{own other:List UInt8}(h:vY d r=false):rdev d r own other=d:=by rw[rdev,h];rfl
theorem OO{d:aZ}{r:Int}{own other:List UInt8}(h:vY d r=true)(hn:wS (lN d r own other)=true):rdev d r own other=IC (lN d r own other):=by
 have hk:cP (lN d r own other)=true:=by
  simp only[wS,Bool.and_eq_true]at hn;exact hn.1
 rw[rdev,if_pos h,if_pos hn,IC,if_pos hk];rfl
theorem OP{d:aZ}{r:Int}{own other:List UInt8}(h:vY d r=true)(hn:wS (lN d r own other)=false):rdev d r own other=lN d r own other:=by
 rw[rdev,if_pos h,hn];rfl
theorem K4{d:aZ}{r:Int}{own other:List UInt8}(h:vY d r=true):bt (lN d r own other)≤1048576:=by
 simp only[vY,Bool.and_eq_true]at h;have hd:=h.2;simp only[cP,Bool.and_eq_true]at hd;have hb:IA (lN d r own other):=⟨zE (zD hd.1.1.1.1.1) _ _ _,zD hd.1.1.1.1.2⟩;have:=k8 hb;omega
theorem Z1{x:aW}(h:okW x=true){k:Nat}(hk:k<x.af.length)(l:List Int):bt (KO x (x.af.getD k (aG .aZ)) l)≤1048576:=by
 have:=k8 (MY x (x.af.getD k (aG .aZ)) l _ (GU h _ (getD_in (aG .aZ) hk)));unfold KO;omega
theorem TW{x:aW}(h:okW x=true){k:Nat}(hk:k<x.af.length)(i:Nat):bt ((qg x k i).getD k (aG .aZ))≤1048576:=by
 rw[Db x k i hk];exact Z1 h hk _
theorem TX(x:aW)(k i:Nat)(hk:k<x.af.length):rH ((qg x k i).getD k (aG .aZ)).live (x.af.getD k (aG .aZ)).live:=by
 rw[Db x k i hk];exact Bn x _ _ _ ⟨rfl,rfl,rfl,rfl⟩
theorem TY(x:aW)(k i:Nat)(h:k<x.af.length)(hi:i<(pP x (x.af.getD k (aG .aZ))).length):
  (qg x k i).set k (rdev ((qg x k i).getD k (aG .aZ)) ((pP x (x.af.getD k (aG .aZ))).getD i (aG .int))
   (zo x ((pP x (x.af.getD k (aG .aZ))).getD i (aG .int)) (fu ((qg x k i).getD k (aG .aZ)).live.key ((pP x (x.af.getD k (aG .aZ))).getD i (aG .int)) (cC ((qg x k i).getD k (aG .aZ)).live) x.rows) ((qg x k i).getD k (aG .aZ)).live.seed)
   (zo x ((pP x (x.af.getD k (aG .aZ))).getD i (aG .int)) (fu ((qg x k i).getD k (aG .aZ)).live.key ((pP x (x.af.getD k (aG .aZ))).getD i (aG .int)) (1-cC ((qg x k i).getD k (aG .aZ)).live) x.rows) ((qg x k i).getD k (aG .aZ)).live.seed))=qg x k (i+1):=by
 have hs:=TX x k i h;rw[MQ hs,hs.2.2.1,hs.2.2.2];exact KP x k i h hi
theorem TZ{x:aW}(h:okW x=false):ES x=x:=by rw[ES,h];rfl
theorem OQ{x:aW}(h:okW x=true):ES x=⟨x.rows,x.az,x.af.map (nE x),x.aB,x.bn,x.seed,x.round,x.replaced,x.cancelled⟩:=by rw[ES,if_pos h]
theorem T0(c:dF):IntKind.i64.wrap (1-cC c)=1-cC c:=bO (by unfold cC;split<;>omega)
end
section
theorem acz(l:List DB):(l.take ((l.length:Int)).toNat).drop (Int.toNat 1)=l.drop 1:=by simp
theorem K7{α:Type}(l:List α)(k:Nat)(d:α):(l.drop 1).getD k d=l.getD (k+1) d:=by
 rw[List.getD_eq_getElem?_getD,List.getD_eq_getElem?_getD,List.getElem?_drop,Nat.add_comm]
theorem aeJ{l:List DB}(ha:uo l)(h:(if(!bT l.length)=true then true else !cL (l.getD (Int.toNat 0) (aG .DB)))=true):bT l.length=false:=by
 cases hs:bT l.length with
 |false=>rfl
 |true=>
  rw[hs]at h;have:=k7 ha 0;have h2:cL (l.getD (Int.toNat 0) (aG .DB))=true:=this;rw[h2]at h;cases h
theorem acA{l:List DB}(h:(if(!bT l.length)=true then true else !cL (l.getD (Int.toNat 0) (aG .DB)))=false):bT l.length=true:=by
 cases hs:bT l.length with
 |true=>rfl
 |false=>rw[hs]at h;cases h
theorem aeK{l:List DB}(h:(!bT (l.length:Int))=false):(0:Int)≤0∧(0:Int)<(l.length:Int):=by
 have h2:bT (l.length:Int)=true:=by simpa using h
 have:=EZ h2;omega
theorem OR{rows rd:Int}{p:List bp×List Int}{id:Int}(h:xG p.1 id=true):zB rows rd p id=(p.1.set id.toNat ⟨id,rows,rd,[],0⟩,p.2++ [id]):=by rw[zB,if_pos h]
theorem OS{rows rd:Int}{p:List bp×List Int}{id:Int}(h:xG p.1 id=false):zB rows rd p id=p:=by rw[zB,h];rfl
theorem T3{l:List bp}{id:Int}(hl:l.length≤4)(h:xG l id=true):0≤id∧id<l.length:=by
 simp only[xG,b7]at h;rw[bO (by omega)]at h;omega
theorem zP{id rows:Int}(h:0≤id∧id≤3)(hr:1≤rows∧rows≤64):newS id rows 0=⟨id,rows,0,[],0⟩:=by
 have:E0 id rows 0=true:=by simp only[E0,Bool.and_eq_true,b7];omega
 rw[newS,if_pos this]
def E6(x:aW)(g:List Int)(k:Nat):List bp×List Int:=CI x.rows x.round (x.az,x.replaced) (g.take k)
theorem K8{x:aW}{g:List Int}{k:Nat}(h:k<g.length):zB x.rows x.round (E6 x g k) (g.getD k (aG .int))=E6 x g (k+1):=(E2 _ _ _ _ k h).symm
theorem vK{x:aW}{g:List Int}{k:Nat}(h:g.length≤k):E6 x g k=rM x g:=by unfold E6 rM;rw[List.take_of_length_le h]
theorem zQ{x:aW}{g:List Int}{k:Nat}(h:k≤g.length):(E6 x g k).1.length=x.az.length∧(E6 x g k).2.length≤x.replaced.length+k:=Iy _ _ _ g k h
theorem K9{x:aW}{g:List Int}{k:Nat}(hk:okW x=true)(h:k≤g.length):E3 x.round (E6 x g k).1:=TO g (Yv hk) k h
theorem Yx{x:aW}(g:List Int)(hk:okW x=true):E3 x.round (rM x g).1:=by
 have:=K9 (g:=g) hk (Nat.le_refl _)
 rwa [vK (Nat.le_refl _)]at this
theorem OT(x:aW)(g:List Int):(rM x g).1.length=x.az.length∧(rM x g).2.length≤x.replaced.length+g.length:=by
 have:=zQ (x:=x) (g:=g) (Nat.le_refl _)
 rwa [vK (Nat.le_refl _)]at this
theorem pW{rd:Int}{l:List bp}(h:E3 rd l){k:Nat}(hk:k<l.length):(l.getD k (aG .bp)).round=rd∧nr (l.getD k (aG .bp)):=h _ (getD_in (aG .bp) hk)
def CL(l:List bp)(k:Nat):List bp:=(l.map jB).take k++l.drop k
theorem OU(l:List bp):CL l 0=l:=by unfold CL;simp
theorem zR{l:List bp}{k:Nat}(h:k<l.length):(CL l k).set k (jB ((CL l k).getD k (aG .bp)))=CL l (k+1):=TP l k h
theorem Df{l:List bp}{k:Nat}(h:k<l.length):(CL l k).getD k (aG .bp)=l.getD k (aG .bp):=jV _ _ _ _ (by rw[List.length_map];omega)
theorem Dg{l:List bp}{k:Nat}(h:k≤l.length):(CL l k).length=l.length:=jW _ _ _ (by rw[List.length_map]) h
theorem Dh{l:List bp}{k:Nat}(h:l.length≤k):CL l k=l.map jB:=by
 unfold CL;rw[List.take_of_length_le (by rw[List.length_map];exact h),List.drop_of_length_le h,List.append_nil]
theorem GV{x:aW}{g:List Int}{d:DB}(h:gX x=false):cz x g d=x:=by rw[cz,h];rfl
theorem La{x:aW}{g:List Int}{d:DB}(h:gX x=true)(hg:g.length=0):cz x g d=⟨x.rows,(rM x g).1.map jB,x.af,⟨x.aB.rows,GQ x.aB x.round d⟩,x.bn,x.seed,IntKind.i64.wrap (x.round+1),(rM x g).2,x.cancelled⟩:=by
 rw[cz,if_pos h,if_pos hg,if_pos hg]
theorem Lb{x:aW}{g:List Int}{d:DB}(h:gX x=true)(hg: ¬g.length=0):cz x g d=⟨x.rows,(rM x g).1.map jB,x.af,x.aB,x.bn,x.seed,IntKind.i64.wrap (x.round+1),(rM x g).2,IntKind.i64.wrap (x.cancelled+1)⟩:=by
 rw[cz,if_pos h,if_neg hg,if_neg hg]
theorem IE{x:aW}(h:gX x=true):okW x=true∧x.round<99999:=by
 simp only[gX,Bool.and_eq_true,Bool.not_eq_true',decide_eq_false_iff_not]at h;exact⟨h.1,by omega⟩
theorem T4{a:gZ}{r:Int}{d:DB}(h:sr a r d=false):GQ a r d=a.rounds:=by rw[GQ,h];rfl
theorem OV{a:gZ}{r:Int}{d:DB}(h:sr a r d=true):GQ a r d=if(8:Int)<(uq a r d).length then(uq a r d).drop 1 else uq a r d:=by rw[GQ,if_pos h]
theorem T6{a:gZ}{r:Int}{d:DB}(h:sr a r d=true):a.rounds.length≤8∧cL d=true:=by
 simp only[sr,eV,Eg,Bool.and_eq_true,decide_eq_true_eq]at h;exact⟨by omega,h.1.2⟩
theorem Lc{s rows:Int}(h:1≤rows∧rows≤64):fY (cg s rows) rows=true:=by
 have e:cg s rows=(List.range rows.toNat).map (Zy s):=by rw[cg,if_pos (by omega)]
 simp only[fY,Bool.and_eq_true,decide_eq_true_eq,List.all_eq_true,b7];refine⟨⟨by rw[e];simp;omega,h.2⟩,fun v hv=> ?_⟩;rw[e]at hv;obtain⟨i,_,rfl⟩:=List.mem_map.1 hv;have:=Qd (kh s [(i:Int),41]);unfold Zy;omega
theorem T7{x:aW}(h:okW x=true){r:Int}(hh:jJ x.aB.rounds r=true):cL (gO x.aB.rounds r)=true∧((gO x.aB.rounds r).rows.length:Int)=x.rows:=by
 have ha:=l5 h;simp only[Kg,Bool.and_eq_true,beq_iff_eq]at ha;have har:x.aB.rows=x.rows:=ha.1.1.1.1.2;have hok:eV x.aB=true:=ha.1.1.1.1.1.2;simp only[eV,Bool.and_eq_true,List.all_eq_true,List.mem_range]at hok;have hi:(x.aB.rounds.findIdx (Tl r))<x.aB.rounds.length:=by
  rw[List.findIdx_lt_length];obtain⟨y,h1,h2⟩:=List.any_eq_true.1 hh;exact⟨y,h1,h2⟩
 have hd:=hok.2 _ hi;simp only[oM,Bool.and_eq_true,beq_iff_eq]at hd;have e:gO x.aB.rounds r=(x.aB.rounds.getD (x.aB.rounds.findIdx (Tl r)) (aG .aJ)).db:=by
  rw[gO,if_pos hh];have hh2:x.aB.rounds.any (Tl r)=true:=hh;rw[fidx,if_pos hh2];rfl
 rw[e];exact⟨hd.1.2,by rw[←har];exact hd.2⟩
theorem Yy{x:aW}(h:okW x=true){r:Int}(hh:jJ x.aB.rounds r=true)(s:Int):ko (gO x.aB.rounds r) (cg s x.rows)=true:=by
 obtain⟨h1,h2⟩:=T7 h hh;apply ET;have hs:fY (cg s x.rows) ((gO x.aB.rounds r).rows.length:Int)=true:=by rw[h2];exact Lc (nq h).1
 rw[fU,h1,hs];simp only[Bool.and_self,if_true];rw[dG,qL];omega
theorem Yz{x:aW}(h:okW x=true)(k:Nat)(hk:k≤x.az.length):E3 x.round (CJ x k).1∧(CJ x k).1.length=x.az.length∧(CJ x k).2.length≤x.replaced.length+k:=by
 have h1:=TO (rows:=x.rows) (rd:=x.round) (p:=(x.az,x.replaced)) (GR x k) (Yv h) (GR x k).length (Nat.le_refl _);have h2:=Iy x.rows x.round (x.az,x.replaced) (GR x k) (GR x k).length (Nat.le_refl _);rw[List.take_length]at h1 h2;have h3:=IB x k;exact⟨h1,h2.1,by have h4:=h2.2;show(CI x.rows x.round (x.az,x.replaced) (GR x k)).2.length≤_;dsimp only at h4;omega⟩
theorem Ld{x:aW}(h:zC x=false):testW x=x:=by rw[testW,h];rfl
theorem GW{x:aW}(h:zC x=true):testW x=⟨x.rows,(CJ x x.az.length).1,x.af,x.aB,x.bn,x.seed,x.round,(CJ x x.az.length).2,x.cancelled⟩:=by rw[testW,if_pos h]
theorem GX{x:aW}(h:gX x=false):dn x=x:=by rw[dn,h];rfl
theorem E7{x:aW}(h:gX x=true):dn x=ES (testW (cz x (jA x.bn (bP x) (cZ (bP x)) (iK x) (bP x).length) (jw (cZ (bP x))))):=by rw[dn,if_pos h]
theorem YA{x:aW}(h:wB x):x.aB.rounds.length≤1048576∧ ∀y,y∈x.aB.rounds→cE List.length y.db.rows≤1048576:=by
 have h2:cE dM x.aB.rounds≤1048576:=h.2.2.1;refine⟨cA h2,fun y hy=> ?_⟩;obtain⟨i,hi⟩:=List.mem_iff_getElem?.1 hy;exact ig h2 hi
end
section
theorem OW{x:aW}(h:wB x)(hok:okW x=true)(hr:x.replaced.length≤4194000):wB (cz x (jA x.bn (bP x) (cZ (bP x)) (iK x) (bP x).length) (jw (cZ (bP x))))∧wB (testW (cz x (jA x.bn (bP x) (cZ (bP x)) (iK x) (bP x).length) (jw (cZ (bP x))))):=by
 have h1:=nI x.bn (bP x) (cZ (bP x)) (iK x) (bP x).length;have h4:=(dV hok).1;rw[lO hok]at h1;have hc:wC x 4194000:=⟨h.1,h.2.1,h.2.2.1,hr⟩;have h2:=KY (g:=jA x.bn (bP x) (cZ (bP x)) (iK x) (bP x).length) (d:=jw (cZ (bP x))) hc (GP _ (oq _));rw[lO hok]at h2 ⊢;exact⟨TR h2 (by omega),TR (OM h2) (by omega)⟩
def wR(x:aW):Prop:=wB x∧x.replaced.length≤4194000
theorem T8{x:aW}{n:Nat}(h:wC x n)(hn:n≤4194000):wR x:=⟨TR h (by omega),Nat.le_trans h.2.2.2 hn⟩
theorem Z5{x:aW}{n k:Nat}(h:wC x n)(hn:n+8*k≤4194000):wR (eo x k):=T8 (TU h k) hn
end
section
theorem IF(a:Int): -9223372036854775808≤IntKind.i64.wrap a∧IntKind.i64.wrap a≤9223372036854775807:=by
 rw[IntKind.wrap_i64];omega
theorem T9(a b c:Int):IntKind.i64.wrap (a+IntKind.i64.wrap (b-c))=IntKind.i64.wrap (IntKind.i64.wrap (a+b)-c):=by
 simp only[IntKind.wrap_i64];omega
def waiting(c:dF):Int:=IntKind.i64.wrap ((c.aM.length:Int)-c.sent)
def lR(l:List aZ):Nat→Int
 |0=>0
 |k+1=>IntKind.i64.wrap (lR l k+waiting (l.getD k (aG .aZ)).live)
theorem IG(l:List aZ)(k:Nat): -9223372036854775808≤lR l k∧lR l k≤9223372036854775807:=by
 cases k with
 |zero=>exact⟨show(-9223372036854775808:Int)≤0 by decide,show(0:Int)≤9223372036854775807 by decide⟩
 |succ k=>exact IF _
def wW(l:List aZ):Nat→Int
 |0=>0
 |k+1=>if(k^^^1)<l.length then IntKind.i64.wrap (IntKind.i64.wrap (wW l k+((l.getD k (aG .aZ)).live.aM.length:Int))-((l.getD (k^^^1) (aG .aZ)).live.inbox.length:Int))else wW l k
theorem M3(l:List aZ)(k:Nat): -9223372036854775808≤wW l k∧wW l k≤9223372036854775807:=by
 induction k with
 |zero=>exact⟨show(-9223372036854775808:Int)≤0 by decide,show(0:Int)≤9223372036854775807 by decide⟩
 |succ k ih=>
  unfold wW;split
  ·exact IF _
  ·exact ih
theorem OX{l:List aZ}{k:Nat}(h:(k^^^1)<l.length):wW l (k+1)=IntKind.i64.wrap (IntKind.i64.wrap (wW l k+((l.getD k (aG .aZ)).live.aM.length:Int))-((l.getD (k^^^1) (aG .aZ)).live.inbox.length:Int)):=if_pos h
theorem Le{l:List aZ}{k:Nat}(h: ¬(k^^^1)<l.length):wW l (k+1)=wW l k:=if_neg h
theorem E8{x:aW}{k:Nat}(h:k<x.af.length):dX x (k:Int)=decide ((k^^^1)<x.af.length):=by
 have:fT x (k:Int)=true:=by rw[fT,b7];omega
 rw[dX,this,Bool.true_and];simp only[Int.toNat_natCast,Int.ofNat_lt]
end
section
def qW(c:Int):Nat:=if 0≤c∧c≤400 then c.toNat else 0
theorem Ua(c:Int):qW c≤400:=by unfold qW;split<;>omega
theorem M4{c:Int}(h:0≤c∧c≤400):(qW c:Int)=c:=by unfold qW;rw[if_pos h];omega
theorem OY{c:Int}(h: ¬(0≤c∧c≤400)):qW c=0:=by unfold qW;rw[if_neg h]
theorem acE{c:Int}{k:Nat}(h:(if decide ((k:Int)<c)=true then decide (c≤400)else false)=true):k<qW c:=by
 by_cases h1:(k:Int)<c
 ·rw[if_pos (by simpa using h1),decide_eq_true_eq]at h;have:=M4 (c:=c) (by omega);omega
 ·rw[if_neg (by simpa using h1)]at h;cases h
theorem Z6{c:Int}{k:Nat}(hk:k≤qW c)(h:(if decide ((k:Int)<c)=true then decide (c≤400)else false)=false):k=qW c:=by
 by_cases hc:0≤c∧c≤400
 ·have h2:=M4 hc;by_cases h1:(k:Int)<c
  ·rw[if_pos (by simpa using h1),decide_eq_false_iff_not]at h;omega
  ·omega
 ·have:=OY hc;omega
def lf(x:aW):Bool:=(lR x.af x.af.length==0)&&(wW x.af x.af.length==0)
def sE(x:aW):Int:=fP 400 (IntKind.i64.wrap (20+IntKind.i64.wrap (8*Hs (Hs 0 (lR x.af x.af.length)) (wW x.af x.af.length))))
def mx(a b:Int):Int:=if b>a then b else a
theorem W6(a b:Int):mx 0 (mx a b)=Hs (Hs 0 a) b:=by
 unfold mx Hs
 (repeat' split)<;>omega
theorem Ub{x:aW}(h:wC x 4100000){k:Nat}(hk:k≤401):wR (eo x k)∧(eo x k).af.length≤1048576:=by
 have h1:=Z5 h (k:=k) (by omega);exact⟨h1,zg h1.1⟩
end
section
theorem OZ{c:dF}{b:List UInt8}(h:pV c b=false):kq c b=c:=by rw[kq,h];rfl
theorem zX{c:dF}{b:List UInt8}(h:pV c b=true):kq c b=MZ c b:=by rw[kq,if_pos h]
theorem II{d:aZ}{b:List UInt8}(h:ur d b=false):CK d b=d:=by rw[CK,h];rfl
theorem Lf{d:aZ}{b:List UInt8}(h:ur d b=true):CK d b=⟨kq d.live b,kq d.saved b⟩:=by rw[CK,if_pos h]
theorem Uc{α:Type}(l:List α)(i:Nat)(d:α)(h:i<l.length):l.set i (l.getD i d)=l:=by
 rw[List.getD_eq_getElem?_getD,List.getElem?_eq_getElem h];exact List.set_getElem_self h
theorem By{x:aW}{c:Int}(h:cQ x c=true):bt (x.af.getD c.toNat (aG .aZ))≤1048576:=by
 have:=k8 (Z0 h);unfold xJ at this;omega
theorem Ud{x:aW}{c:Int}{b:List UInt8}(h:cQ x c=false):Jg x c b=x∧K1 x c b=false:=⟨by rw[Jg,h];rfl,by rw[K1,h];rfl⟩
theorem IJ{x:aW}{c:Int}{b:List UInt8}(h:cQ x c=true):Jg x c b=K0 x c.toNat (CK (xJ x c) b)∧K1 x c b=ur (xJ x c) b:=⟨by rw[Jg,if_pos h],by rw[K1,h,Bool.true_and]⟩
theorem Ue{x:aW}{c:Int}{b:List UInt8}(h:cQ x c=true)(hs:ur (xJ x c) b=false):Jg x c b=x:=by
 rw[(IJ h).1,II hs];obtain⟨_,h1,h2⟩:=mC h;unfold K0 xJ;rw[Uc _ _ _ (by omega)]
theorem Uf{x:aW}{c:Int}(h:cQ x c=false):ID x c=x:=by rw[ID,h];rfl
theorem O0{x:aW}{c:Int}(h:cQ x c=true):ID x c=K0 x c.toNat (M0 (xJ x c)):=by rw[ID,if_pos h]
theorem Ug{x:aW}{c:Int}(h:cQ x c=false):xK x c=x:=by rw[xK,h];rfl
theorem O1{x:aW}{c:Int}(h:cQ x c=true):xK x c=K0 x c.toNat (IC (xJ x c)):=by rw[xK,if_pos h]
theorem Uh{x:aW}{i b:Int}(h:oP x i b=false):K2 x i b=x:=by rw[K2,h];rfl
theorem O2{x:aW}{i b:Int}(h:oP x i b=true):K2 x i b=acy x i.toNat (beh (x.az.getD i.toNat (aG .bp)) b):=by rw[K2,if_pos h]
theorem YB{x:aW}{e:Ev}(h:okW x=false):yd x e=x∧lP x e=false:=⟨ZZ h,W3 h⟩
theorem acF{x:aW}{e:Ev}(h:okW x=true)(h1:e.kind=1):yd x e=dn x∧lP x e=decide (x.round<99999):=⟨by rw[yd,if_pos h1],by rw[lP,h,if_pos h1,Bool.true_and]⟩
theorem acG{x:aW}{e:Ev}(h:okW x=true)(h1:e.kind=2):yd x e=Jg x e.node e.body∧lP x e=K1 x e.node e.body:=by
 unfold yd lP;rw[h,Bool.true_and,if_neg (by omega),if_pos h1,if_neg (by omega),if_pos h1];exact⟨rfl,rfl⟩
theorem acH{x:aW}{e:Ev}(h:okW x=true)(h1:e.kind=3):yd x e=ID x e.node∧lP x e=cQ x e.node:=by
 unfold yd lP;rw[h,Bool.true_and,if_neg (by omega),if_neg (by omega),if_pos h1,if_neg (by omega),if_neg (by omega),if_pos h1];exact⟨rfl,rfl⟩
theorem acI{x:aW}{e:Ev}(h:okW x=true)(h1:e.kind=4):yd x e=K2 x e.node e.value∧lP x e=oP x e.node e.value:=by
 unfold yd lP;rw[h,Bool.true_and,if_neg (by omega),if_neg (by omega),if_neg (by omega),if_pos h1,if_neg (by omega),if_neg (by omega),if_neg (by omega),if_pos h1];exact⟨rfl,rfl⟩
theorem acJ{x:aW}{e:Ev}(h:okW x=true)(h1:e.kind=5):yd x e=xK x e.node∧lP x e=cQ x e.node:=by
 unfold yd lP;rw[h,Bool.true_and,if_neg (by omega),if_neg (by omega),if_neg (by omega),if_neg (by omega),if_pos h1,if_neg (by omega),if_neg (by omega),if_neg (by omega),if_neg (by omega),if_pos h1];exact⟨rfl,rfl⟩
theorem acK{x:aW}{e:Ev}(h:okW x=true)(h1: ¬e.kind=1)(h2: ¬e.kind=2)(h3: ¬e.kind=3)(h4: ¬e.kind=4)(h5: ¬e.kind=5):yd x e=x∧lP x e=false:=by
 unfold yd lP;rw[h,Bool.true_and,if_neg h1,if_neg h2,if_neg h3,if_neg h4,if_neg h5,if_neg h1,if_neg h2,if_neg h3,if_neg h4,if_neg h5];exact⟨rfl,rfl⟩
theorem zY{x:aW}{c:Int}(h:okW x=true):cQ x c=fT x c:=by rw[cQ,h,Bool.true_and]
end
section
theorem Bz{α:Type}{l m:List α}{k:Nat}(d:α)(h:k<l.length):(l++m).getD k d=l.getD k d:=by
 rw[List.getD_eq_getElem?_getD,List.getD_eq_getElem?_getD,List.getElem?_append_left h]
theorem GY{α:Type}{l:List α}{y:α}(d:α):(l++ [y]).getD l.length d=y:=by
 rw[List.getD_eq_getElem?_getD,List.getElem?_append_right (Nat.le_refl _)];simp
theorem xV{α:Type}(l:List α)(k:Nat)(d:α):(l.drop 1).getD k d=l.getD (k+1) d:=by
 rw[List.getD_eq_getElem?_getD,List.getD_eq_getElem?_getD,List.getElem?_drop,Nat.add_comm]
theorem BA{α:Type}{l:List α}{i k:Nat}(d y:α)(h:k<l.length):(l.set i y).getD k d=if i=k then y else l.getD k d:=by
 rw[List.getD_eq_getElem?_getD,List.getD_eq_getElem?_getD,List.getElem?_set];split
 ·rename_i e;subst e;simp[h]
 ·rfl
theorem getD_map{α β:Type}(f:α→β){l:List α}{k:Nat}(d:β)(e:α)(h:k<l.length):(l.map f).getD k d=f (l.getD k e):=by
 rw[List.getD_eq_getElem?_getD,List.getD_eq_getElem?_getD,List.getElem?_map,List.getElem?_eq_getElem h];rfl
def YC(rows rd:Int)(i:Nat)(s:bp):Prop:=s.id=(i:Int)∧s.rows=rows∧s.round=rd∧s.received= []∧0≤s.behavior∧s.behavior≤3
def svs(rows rd:Int)(l:List bp):Prop:= ∀i,i<l.length→YC rows rd i (l.getD i (aG .bp))
theorem Uj{rows rd:Int}{i:Nat}{s:bp}(h:YC rows rd i s)(hr:1≤rows∧rows≤64)(hd:0≤rd∧rd≤100000)(hi:i≤3):cj s=true:=by
 obtain⟨h1,h2,h3,h4,h5⟩:=h;simp only[cj,tL,Bool.and_eq_true,b7,decide_eq_true_eq,h4,List.length_nil];refine⟨⟨⟨⟨⟨by omega,by omega⟩,by omega⟩,by omega⟩,by omega⟩,by simp⟩
theorem IK{x:aW}{i:Nat}(hr:1≤x.rows∧x.rows≤64)(hd:0≤x.round∧x.round≤100000)(hi:i≤3):FG x i=true↔YC x.rows x.round i (x.az.getD i (aG .bp)):=by
 constructor
 ·intro h;simp only[FG,Bool.and_eq_true,beq_iff_eq,decide_eq_true_eq]at h;obtain⟨⟨⟨⟨h1,h2⟩,h3⟩,h4⟩,h5⟩:=h;simp only[cj,tL,Bool.and_eq_true,b7]at h1;exact⟨h2,h3,h4,List.length_eq_zero_iff.1 (by omega),h1.1.1.1.2⟩
 ·intro h;have h1:=Uj h hr hd hi;obtain⟨h2,h3,h4,h5,_⟩:=h;simp only[FG,Bool.and_eq_true,beq_iff_eq,decide_eq_true_eq];exact⟨⟨⟨⟨h1,h2⟩,h3⟩,h4⟩,by rw[h5];decide⟩
def inc(rows:Int)(l:List aJ):Prop:= ∀i,i<l.length→oM rows l i=true
theorem jM{a:gZ}:eV a=true↔((1≤a.rows∧a.rows≤64)∧a.rounds.length≤8)∧inc a.rows a.rounds:=by
 simp only[eV,Eg,Bool.and_eq_true,b7,decide_eq_true_eq,List.all_eq_true,List.mem_range];constructor
 ·rintro⟨⟨h1,h2⟩,h3⟩;exact⟨⟨h1,by omega⟩,h3⟩
 ·rintro⟨⟨h1,h2⟩,h3⟩;exact⟨⟨h1,by omega⟩,h3⟩
theorem iU{rows:Int}{l:List aJ}{i:Nat}:oM rows l i=true↔(0≤(l.getD i (aG .aJ)).round∧(l.getD i (aG .aJ)).round≤100000)∧(0<i→(l.getD (i-1) (aG .aJ)).round<(l.getD i (aG .aJ)).round)∧cL (l.getD i (aG .aJ)).db=true∧((l.getD i (aG .aJ)).db.rows.length:Int)=rows:=by
 simp only[oM,Bool.and_eq_true,b7,beq_iff_eq,Bool.not_eq_true',Bool.and_eq_false_iff,decide_eq_false_iff_not];constructor
 ·rintro⟨⟨⟨h1,h2⟩,h3⟩,h4⟩;refine⟨h1,fun hi=> ?_,h3,h4⟩;rcases h2 with h2|h2
  ·omega
  ·omega
 ·rintro⟨h1,h2,h3,h4⟩;refine⟨⟨⟨h1,?_⟩,h3⟩,h4⟩;by_cases hi:0<i
  ·right;have:=h2 hi;omega
  ·left;omega
theorem Uk{rows:Int}{l:List aJ}(h:inc rows l):inc rows (l.drop 1):=by
 intro i hi;have hi:i+1<l.length:=by rw[List.length_drop]at hi;omega
 have h1:=iU.1 (h (i+1) hi);rw[iU,xV];refine⟨h1.1,fun hp=> ?_,h1.2.2⟩;rw[xV,show i-1+1=i by omega];exact h1.2.1 (by omega)
theorem Ul{rows:Int}{l:List aJ}{r:Int}{d:DB}(h:inc rows l)(h0:0≤r∧r≤100000)(hl:0<l.length→(l.getD (l.length-1) (aG .aJ)).round<r)(hd:cL d=true)(hr:(d.rows.length:Int)=rows):inc rows (l++ [⟨r,d⟩]):=by
 intro i hi;rw[List.length_append,List.length_singleton]at hi;by_cases hil:i<l.length
 ·have h1:=iU.1 (h i hil);rw[iU,Bz _ hil];refine⟨h1.1,fun hp=> ?_,h1.2.2⟩;rw[Bz _ (by omega)];exact h1.2.1 hp
 ·obtain rfl:i=l.length:=by omega
  rw[iU,GY];refine⟨h0,fun hp=> ?_,hd,hr⟩;rw[Bz _ (by omega)];exact hl hp
theorem Um{rows:Int}{l:List aJ}(h:inc rows l): ∀(j i:Nat),i<j→j<l.length→(l.getD i (aG .aJ)).round<(l.getD j (aG .aJ)).round
 |0,i,h1,_=>by omega
 |j+1,i,h1,h2=>by
  have h3:=(iU.1 (h (j+1) h2)).2.1 (by omega);rw[show j+1-1=j by omega]at h3;by_cases e:i=j
  ·subst e;exact h3
  ·have:=Um h j i (by omega) (by omega);omega
theorem vL{a:gZ}(h:0<a.rounds.length):dr a=(a.rounds.getD (a.rounds.length-1) (aG .aJ)).round:=by rw[dr,if_neg (by omega)]
theorem M5{a:gZ}(h:a.rounds= []):dr a= -1:=by rw[dr,h];rfl
theorem Z7{a:gZ}(h:eV a=true): ∀y,y∈a.rounds→0≤y.round∧y.round≤dr a:=by
 intro y hy;have h2:=(jM.1 h).2;obtain⟨i,hi,rfl⟩:=List.mem_iff_getElem.1 hy;have e:a.rounds[i]=a.rounds.getD i (aG .aJ):=by rw[List.getD_eq_getElem?_getD,List.getElem?_eq_getElem hi];rfl
 rw[vL (by omega),e];refine⟨(iU.1 (h2 i hi)).1.1,?_⟩;by_cases hl:i=a.rounds.length-1
 ·rw[hl];exact Int.le_refl _
 ·exact Int.le_of_lt (Um h2 _ _ (by omega) (by omega))
theorem W7{a:gZ}{r:Int}{d:DB}(h:eV a=true)(h0:0≤r∧r≤100000)(hl:dr a<r)(hd:cL d=true)(hr:(d.rows.length:Int)=a.rows):sr a r d=true:=by
 simp only[sr,Bool.and_eq_true,h,hd,b7,h0,hr,Bool.not_eq_true',decide_eq_false_iff_not,decide_true];exact⟨⟨⟨⟨trivial,⟨trivial,trivial⟩⟩,by omega⟩,trivial⟩,trivial⟩
theorem W8{a:gZ}{r:Int}{d:DB}(h:sr a r d=true):GQ a r d=if(8:Int)<(uq a r d).length then(uq a r d).drop 1 else uq a r d:=by rw[GQ,if_pos h]
theorem Un{a:gZ}{r:Int}{d:DB}:(uq a r d).length=a.rounds.length+1∧ ∀e,(uq a r d).getD a.rounds.length e=⟨r,d⟩:=by
 unfold uq;exact⟨by rw[List.length_append];rfl,fun e=>GY e⟩
theorem Uo{a:gZ}{r:Int}{d:DB}(h:eV a=true)(h0:0≤r∧r≤100000)(hl:dr a<r)(hd:cL d=true)(hr:(d.rows.length:Int)=a.rows):
  eV ⟨a.rows,GQ a r d⟩=true∧dr ⟨a.rows,GQ a r d⟩=r∧0<(GQ a r d).length∧(GQ a r d).getD ((GQ a r d).length-1) (aG .aJ)=⟨r,d⟩:=by
 have ha:=jM.1 h;have hi:inc a.rows (uq a r d):=Ul ha.2 h0 (fun hp=>by rw[vL hp]at hl;exact hl) hd hr;obtain⟨hL,hG⟩:=Un (a:=a) (r:=r) (d:=d);rw[W8 (W7 h h0 hl hd hr)];split
 ·rename_i h8;have hlen:((uq a r d).drop 1).length=a.rounds.length:=by rw[List.length_drop];omega
  have hg:((uq a r d).drop 1).getD (((uq a r d).drop 1).length-1) (aG .aJ)=⟨r,d⟩:=by
   rw[hlen,xV,show a.rounds.length-1+1=a.rounds.length by omega];exact hG _
  refine⟨jM.2 ⟨⟨ha.1.1,by show((uq a r d).drop 1).length≤8;omega⟩,Uk hi⟩,?_,by omega,hg⟩;rw[vL (by show 0<((uq a r d).drop 1).length;omega)];exact congrArg aJ.round hg
 ·rename_i h8;have hg:(uq a r d).getD ((uq a r d).length-1) (aG .aJ)=⟨r,d⟩:=by
   rw[hL,show a.rounds.length+1-1=a.rounds.length by omega];exact hG _
  refine⟨jM.2 ⟨⟨ha.1.1,by show(uq a r d).length≤8;omega⟩,hi⟩,?_,by omega,hg⟩;rw[vL (by show 0<(uq a r d).length;omega)];exact congrArg aJ.round hg
structure GZ(x:aW):Prop where
 rows:1≤x.rows∧x.rows≤64
 Vr:2≤x.az.length∧x.az.length≤4
 W9:2≤x.af.length∧x.af.length≤8
 even:x.af.length % 2=0
 Up:eV x.aB=true
 Ck:x.aB.rows=x.rows
 last:dr x.aB<x.round
 key:eM x.bn=true
 round:0≤x.round∧x.round≤100000
 xW:0≤x.cancelled
 sv:svs x.rows x.round x.az
 dv: ∀i,i<x.af.length→okD x i=true
theorem GZ.of{x:aW}(h:okW x=true):GZ x:=by
 have hh:=l5 h;have he:=qK hh;have hs:=dV h;have hh2:=hh;simp only[Kg,Bool.and_eq_true,b7,beq_iff_eq,decide_eq_true_eq]at hh;obtain⟨⟨⟨⟨⟨⟨⟨⟨⟨h1,h2⟩,h3⟩,h4⟩,h5⟩,h6⟩,h7⟩,h8⟩,h9⟩,h10⟩:=hh;exact⟨h1,⟨hs.2,hs.1⟩,⟨he.2.2,he.2.1⟩,he.1,h5,h6,h7,h8,h9,h10,fun i hi=>(IK h1 h9 (by omega)).1 (EC h hi),fun i hi=>qM h hi⟩
theorem GZ.ok{x:aW}(h:GZ x):okW x=true:=by
 obtain⟨h1,h2,h3,h4,h5,h6,h7,h8,h9,h10,h11,h12⟩:=h;have ht:(x.af.length:Int).tmod 2=0:=by rw[ew (by omega)];omega
 simp only[okW,Kg,bT,Bool.and_eq_true,b7,beq_iff_eq,decide_eq_true_eq,List.all_eq_true,List.mem_range];exact⟨⟨⟨⟨⟨⟨⟨⟨⟨⟨⟨h1,by omega⟩,by omega⟩,ht⟩,h5⟩,h6⟩,h7⟩,h8⟩,h9⟩,h10⟩,fun i hi=>(IK h1 h9 (by omega)).2 (h11 i hi)⟩,h12⟩
theorem Xa{rows rd:Int}{p:List bp×List Int}{id:Int}(hl:p.1.length≤4)(h:svs rows rd p.1):svs rows rd (zB rows rd p id).1:=by
 unfold zB;split
 ·rename_i hk;simp only[xG,b7]at hk;rw[bO (by omega)]at hk;intro i hi;rw[List.length_set]at hi;show YC rows rd i ((p.1.set id.toNat ⟨id,rows,rd,[],0⟩).getD i (aG .bp))
  rw[BA _ _ hi];split
  ·rename_i e;exact⟨by show id=(i:Int);omega,rfl,rfl,rfl,Int.le_refl _,by show(0:Int)≤3;decide⟩
  ·exact h i hi
 ·exact h
theorem IL{rows rd:Int}: ∀(g:List Int) {p:List bp×List Int},p.1.length≤4→svs rows rd p.1→svs rows rd (CI rows rd p g).1∧(CI rows rd p g).1.length=p.1.length
 | [],_,_,h=>⟨h,rfl⟩
 |i::g,p,hl,h=>by
  have lg:=(Ix rows rd p i).1;have:=IL g (p:=zB rows rd p i) (by omega) (Xa (id:=i) hl h);exact⟨this.1,this.2.trans lg⟩
theorem Xb{rows rd:Int}{i:Nat}{s:bp}(h:YC rows rd i s)(hr:1≤rows∧rows≤64)(hd:0≤rd∧rd<100000)(hi:i≤3):YC rows (rd+1) i (jB s):=by
 have hk:=Uj h hr (by omega) hi;obtain⟨h1,h2,h3,h4,h5⟩:=h;have hb:E1 s=true:=by
  simp only[E1,hk,Bool.true_and,Bool.not_eq_true',beq_eq_false_iff_ne];omega
 rw[jB,if_pos hb];refine⟨h1,h2,?_,rfl,h5⟩;show IntKind.i64.wrap (s.round+1)=rd+1
 rw[bO (by omega),h3]
theorem G0{x y:aW}{i:Nat}(hd:y.af=x.af)(hr:x.round≤y.round)(h:okD x i=true):okD y i=true:=by
 simp only[okD,Bool.and_eq_true,decide_eq_true_eq]at h ⊢;rw[hd];exact⟨h.1,by omega⟩
theorem Fe{x:aW}(h:okW x=true)(hr:x.round<99999):gX x=true:=by
 simp only[gX,h,Bool.true_and,Bool.not_eq_true',decide_eq_false_iff_not];omega
theorem QA{x:aW}{g:List Int}{d:DB}(h:okW x=true)(hr:x.round<99999)(hc:x.cancelled<9223372036854775807)(hd:g= []→cL d=true∧(d.rows.length:Int)=x.rows):okW (cz x g d)=true:=by
 have w:=GZ.of h;have hp:=IL (rows:=x.rows) (rd:=x.round) g (p:=(x.az,x.replaced)) w.Vr.2 w.sv;have w1:=w.rows;have w2:=w.Vr;have w3:=w.round;have w4:=w.xW;have hrd:IntKind.i64.wrap (x.round+1)=x.round+1:=bO (by omega);rw[cz,if_pos (Fe h hr)];have hsv:svs x.rows (x.round+1) ((rM x g).1.map jB):=by
  intro i hi;rw[List.length_map]at hi;have hi4:i≤3:=by have:=hp.2;unfold rM at hi;dsimp only at this;omega
  rw[getD_map jB _ (aG .bp) hi];exact Xb (hp.1 i hi) w1 (by omega) hi4
 have hlen:((rM x g).1.map jB).length=x.az.length:=by rw[List.length_map];exact hp.2
 have acL:eV ⟨x.aB.rows,if g.length=0 then GQ x.aB x.round d else x.aB.rounds⟩=true∧dr ⟨x.aB.rows,if g.length=0 then GQ x.aB x.round d else x.aB.rounds⟩<x.round+1:=by
  by_cases hg:g.length=0
  ·obtain⟨q1,q2⟩:=hd (List.length_eq_zero_iff.1 hg);rw[if_pos hg];have:=Uo w.Up (by omega:0≤x.round∧x.round≤100000) w.last q1 (by rw[w.Ck];exact q2);exact⟨this.1,by rw[this.2.1];omega⟩
  ·rw[if_neg hg];have:=w.last;exact⟨w.Up,by show dr x.aB<_;omega⟩
 refine GZ.ok ⟨w1,by dsimp only;rw[hlen];exact w2,w.W9,w.even,acL.1,w.Ck,?_,w.key,?_,?_,?_,fun i hi=> ?_⟩
 ·dsimp only;rw[hrd];exact acL.2
 ·dsimp only;rw[hrd];omega
 ·dsimp only;split
  ·exact w4
  ·rw[bO (by omega)];omega
 ·dsimp only;rw[hrd];exact hsv
 ·exact G0 (x:=x) rfl (by dsimp only;rw[hrd];omega) (w.dv i hi)
theorem Uq{x:aW}(h:okW x=true):okW (testW x)=true:=by
 unfold testW;split
 ·have w:=GZ.of h;have hp:=IL (rows:=x.rows) (rd:=x.round) (GR x x.az.length) (p:=(x.az,x.replaced)) w.Vr.2 w.sv;have w2:=w.Vr;refine GZ.ok ⟨w.rows,?_,w.W9,w.even,w.Up,w.Ck,w.last,w.key,w.round,w.xW,hp.1,fun i hi=>G0 (x:=x) rfl (Int.le_refl _) (w.dv i hi)⟩;have Vt:(CI x.rows x.round (x.az,x.replaced) (GR x x.az.length)).1.length=x.az.length:=hp.2;show 2≤(CI x.rows x.round (x.az,x.replaced) (GR x x.az.length)).1.length∧(CI x.rows x.round (x.az,x.replaced) (GR x x.az.length)).1.length≤4
  rw[Vt];exact w2
 ·exact h
theorem Ff{a b:List (List UInt8)}:vU a b=true↔a.length≤b.length∧a=b.take a.length:=by
 simp only[vU,Bool.and_eq_true,decide_eq_true_eq,beq_iff_eq];constructor
 ·rintro⟨h1,h2⟩;exact⟨by omega,h2⟩
 ·rintro⟨h1,h2⟩;exact⟨by omega,h2⟩
theorem BB(a:List (List UInt8)):vU a a=true:=Ff.2 ⟨Nat.le_refl _,(List.take_length).symm⟩
theorem Ur{a b c:List (List UInt8)}(h:vU a b=true):vU a (b++c)=true:=by
 obtain⟨h1,h2⟩:=Ff.1 h;refine Ff.2 ⟨by rw[List.length_append];omega,?_⟩;rw[List.take_append_of_le_length h1];exact h2
theorem BC{c:dF}:c8 c=true↔(((0≤c.id∧c.id≤7)∧(0≤c.cU∧c.cU≤7))∧c.id≠c.cU∧eM c.key=true)∧Iz c∧(0≤c.sent∧c.sent≤c.aM.length)∧0≤c.next∧c.next≤100000:=by
 simp only[c8,Iz,Bool.and_eq_true,Bool.not_eq_true',List.any_eq_false,b7,decide_eq_true_eq,beq_eq_false_iff_ne];have hl: ∀b:List UInt8, ¬long b=true↔b.length≤14:=by
  intro b;simp only[long,decide_eq_true_eq];omega
 constructor
 ·rintro⟨⟨⟨⟨⟨⟨⟨⟨⟨h1,h2⟩,h3⟩,h4⟩,h5⟩,h6⟩,h7⟩,h8⟩,h9⟩,h10⟩;exact⟨⟨⟨h1,h2⟩,h3,h4⟩,⟨by omega,by omega,fun b hb=>(hl b).1 (h7 b hb),fun b hb=>(hl b).1 (h8 b hb)⟩,h9,h10⟩
 ·rintro⟨⟨⟨h1,h2⟩,h3,h4⟩,⟨h5,h6,h7,h8⟩,h9,h10⟩;exact⟨⟨⟨⟨⟨⟨⟨⟨⟨h1,h2⟩,h3⟩,h4⟩,by omega⟩,by omega⟩,fun b hb=>(hl b).2 (h7 b hb)⟩,fun b hb=>(hl b).2 (h8 b hb)⟩,h9⟩,h10⟩
theorem Ut{c:dF}{r:Int}{own other:List UInt8}(h:c8 c=true):c8 (fK c r own other)=true:=by
 by_cases hk:rY c r=true
 ·have hB:=zE (zD h) r own other;rw[fK,if_pos hk]at hB ⊢;obtain⟨h1,_,h3,h4⟩:=BC.1 h;simp only[rY,Bool.and_eq_true,b7]at hk;refine BC.2 ⟨h1,hB,?_,?_⟩
  ·dsimp only;split
   ·rename_i hh;simp only[rG,Bool.and_eq_true,decide_eq_true_eq]at hh;omega
   ·exact h3
  ·dsimp only;omega
 ·rw[fK,if_neg hk];exact h
structure Uu(d:aZ):Prop where
 live:c8 d.live=true
 saved:c8 d.saved=true
 same:jY d.live d.saved=true
 sent:d.saved.sent≤d.live.sent
 next:d.saved.next≤d.live.next
 pre:vU d.saved.inbox d.live.inbox=true
theorem Uu.iff{d:aZ}:cP d=true↔Uu d:=by
 simp only[cP,Bool.and_eq_true,decide_eq_true_eq];constructor
 ·rintro⟨⟨⟨⟨⟨h1,h2⟩,h3⟩,h4⟩,h5⟩,h6⟩;exact⟨h1,h2,h3,h4,h5,h6⟩
 ·rintro⟨h1,h2,h3,h4,h5,h6⟩;exact⟨⟨⟨⟨⟨h1,h2⟩,h3⟩,h4⟩,h5⟩,h6⟩
theorem fZ{a b:dF}:jY a b=true↔rH a b∧a.aM=b.aM:=by
 simp only[jY,rH,Bool.and_eq_true,beq_iff_eq];constructor
 ·rintro⟨⟨⟨⟨h1,h2⟩,h3⟩,h4⟩,h5⟩;exact⟨⟨h1,h2,h3,h4⟩,h5⟩
 ·rintro⟨⟨h1,h2,h3,h4⟩,h5⟩;exact⟨⟨⟨⟨h1,h2⟩,h3⟩,h4⟩,h5⟩
theorem QB(c:dF)(r:Int)(own other:List UInt8):(fK c r own other).aM=c.aM∧c.sent≤(fK c r own other).sent∧(fK c r own other).sent≤c.sent+1∧c.next≤(fK c r own other).next∧ ∃m,(fK c r own other).inbox=c.inbox++m:=by
 unfold fK;split
 ·rename_i hk;simp only[rY,Bool.and_eq_true,b7]at hk;refine⟨rfl,?_,?_,?_,?_⟩
  ·dsimp only;split<;>omega
  ·dsimp only;split<;>omega
  ·dsimp only;omega
  ·dsimp only;split
   ·exact⟨_,rfl⟩
   ·exact⟨[],(List.append_nil _).symm⟩
 ·exact⟨rfl,Int.le_refl _,by omega,Int.le_refl _,[],(List.append_nil _).symm⟩
theorem Xc{d:aZ}{r:Int}{own other:List UInt8}(h:cP d=true):cP (rdev d r own other)=true:=by
 have hd:=Uu.iff.1 h;unfold rdev;split
 ·have hc:=Ut (r:=r) (own:=own) (other:=other) hd.live;split
  ·exact Uu.iff.2 ⟨hc,hc,fZ.2 ⟨⟨rfl,rfl,rfl,rfl⟩,rfl⟩,Int.le_refl _,Int.le_refl _,BB _⟩
  ·obtain⟨q1,q2,_,q3,m,q4⟩:=QB d.live r own other;obtain⟨p1,p2⟩:=fZ.1 hd.same;have p3:=xE d.live r own other;refine Uu.iff.2 ⟨hc,hd.saved,fZ.2 ⟨⟨p3.1.trans p1.1,p3.2.1.trans p1.2.1,p3.2.2.1.trans p1.2.2.1,p3.2.2.2.trans p1.2.2.2⟩,q1.trans p2⟩,Int.le_trans hd.sent q2,Int.le_trans hd.next q3,?_⟩;show vU d.saved.inbox (fK d.live r own other).inbox=true
   rw[q4];exact Ur hd.pre
 ·exact h
theorem QC{d:aZ}{r:Int}{own other:List UInt8}{R:Int}(h:d.live.next≤R)(hr:r+1≤R):(rdev d r own other).live.next≤R:=by
 have key:(fK d.live r own other).next≤R:=by
  unfold fK;split
  ·exact hr
  ·exact h
 unfold rdev;split
 ·split
  ·exact key
  ·exact key
 ·exact h
theorem O3(x:aW)(d0:aZ){R:Int}: ∀(l:List Int) (d:aZ),(∀r,r∈l→r+1≤R)→cP d=true→d.live.next≤R→cP (l.foldl (MR x d0) d)=true∧(l.foldl (MR x d0) d).live.next≤R
 | [],_,_,h1,h2=>⟨h1,h2⟩
 |r::l,d,hl,h1,h2=>O3 x d0 l _ (fun q hq=>hl q (List.mem_cons_of_mem _ hq)) (Xc h1) (QC h2 (hl r (List.mem_cons_self ..)))
theorem M6{l:List aJ}{f r:Int}(h:r∈gh l f):f≤r∧ ∃y,y∈l∧y.round=r:=by
 unfold gh at h;obtain⟨y,hy,rfl⟩:=List.mem_map.1 h;rw[List.mem_filter]at hy;exact⟨by simpa using hy.2,y,hy.1,rfl⟩
theorem Lg{x:aW}{i:Nat}(h:okW x=true)(hi:i<x.af.length):cP (nE x (x.af.getD i (aG .aZ)))=true∧(nE x (x.af.getD i (aG .aZ))).live.next≤x.round∧rH (nE x (x.af.getD i (aG .aZ))).live (x.af.getD i (aG .aZ)).live:=by
 have w:=GZ.of h;have hd:=qM h hi;simp only[okD,Bool.and_eq_true,decide_eq_true_eq]at hd;have h1:=O3 x (x.af.getD i (aG .aZ)) (R:=x.round) (pP x (x.af.getD i (aG .aZ))) _ (fun r hr=>by
  obtain⟨_,y,hy,rfl⟩:=M6 hr;have:=(Z7 w.Up y hy).2;have:=w.last;omega) hd.1.1.1.1 hd.2
 exact⟨h1.1,h1.2,Bn x _ _ _ ⟨rfl,rfl,rfl,rfl⟩⟩
theorem Z8{x:aW}(h:okW x=true):okW (ES x)=true:=by
 have w:=GZ.of h;rw[ES,if_pos h];have hg: ∀i,i<x.af.length→(x.af.map (nE x)).getD i (aG .aZ)=nE x (x.af.getD i (aG .aZ)):=fun i hi=>getD_map _ _ _ hi;refine GZ.ok ⟨w.rows,w.Vr,by dsimp only;rw[List.length_map];exact w.W9,by dsimp only;rw[List.length_map];exact w.even,w.Up,w.Ck,w.last,w.key,w.round,w.xW,w.sv,fun i hi=> ?_⟩;have hi:i<x.af.length:=by dsimp only at hi;rwa [List.length_map]at hi
 obtain⟨q1,q2,q3⟩:=Lg h hi;have hd:=qM h hi;have hx:=tO i x.af.length hi w.even;obtain⟨_,_,p3⟩:=Lg h hx;simp only[okD,Bool.and_eq_true,decide_eq_true_eq,beq_iff_eq]at hd ⊢;rw[hg i hi,hg _ hx];exact⟨⟨⟨⟨q1,q3.1.trans hd.1.1.1.2⟩,q3.2.1.trans hd.1.1.2⟩,by rw[q3.2.2.1,p3.2.2.1];exact hd.1.2⟩,q2⟩
end
section
theorem Fg{rows:Int}(h:0≤rows∧rows≤64):((dD rows).rows.length:Int)=rows:=by
 rw[mH h,List.length_replicate];omega
theorem Uv{rows i:Int}{c:List UInt8}(h:pJ rows i c=true):((S4 rows i c).rows.length:Int)=rows:=by
 have h':=h;simp only[pJ,Bool.and_eq_true]at h';have hr:1≤rows∧rows≤64:=by have:=h'.1;rw[b7]at this;exact this
 rw[S4,if_pos h'.1,vC h'.2];show(((dD rows).rows.set i.toNat c).length:Int)=rows
 rw[List.length_set];exact Fg (by omega)
theorem G1{α:Type}(f:α→DB): ∀(l:List α) (d:DB),(l.foldl (fun d s=>gu d (f s)) d).rows.length=d.rows.length:=by
 intro l;induction l with
 |nil=>intro d;rfl
 |cons x r ih=>intro d;rw[List.foldl_cons,ih,xF]
theorem M7{rows i:Int}{c:List UInt8}(h:pJ rows i c=true)(sd:List Int):((wP rows i c sd).rows.length:Int)=rows:=by
 unfold wP;rw[G1 (fun s=>QX s rows)];exact Uv h
theorem M8{rows i:Int}{c:List UInt8}{sd:List Int}: ∀d,d∈pM rows i c sd→(d.rows.length:Int)=rows:=by
 intro d hd;unfold pM at hd;split at hd
 ·rename_i h;have hu:pJ rows i c=true:=by simp only[rS,Bool.and_eq_true]at h;exact h.1
  rcases List.mem_append.1 hd with h1|h1
  ·obtain⟨s,_,rfl⟩:=List.mem_map.1 h1;have:=(Ii hu).2;show((gf s rows).length:Int)=rows
   rw[lK];omega
  ·rw[List.mem_singleton.1 h1];exact M7 hu sd
 ·cases hd
def Uw(x:aW)(i:Nat)(c:Nat):DB:=(dw x (c:Int)).getD i (aG .DB)
def rcs(x:aW)(i n:Nat):List aT:=(List.range n).map fun c:Nat=>⟨(c:Int),Uw x i c⟩
theorem Ux(x:aW)(i n:Nat):rcs x i (n+1)=rcs x i n++ [⟨(n:Int),Uw x i n⟩]:=by
 unfold rcs;rw[List.range_succ,List.map_append];rfl
theorem Xd(x:aW)(i n:Nat):(rcs x i n).length=n:=by simp[rcs]
theorem O4(x:aW)(i n:Nat){k:Nat}(h:k<n):(rcs x i n).getD k (aG .aT)=⟨(k:Int),Uw x i k⟩:=eI _ _ _ _ h
def BD(x:aW)(k i:Nat):bp:=⟨(x.az.getD i (aG .bp)).id,(x.az.getD i (aG .bp)).rows,(x.az.getD i (aG .bp)).round,rcs x i k,(x.az.getD i (aG .bp)).behavior⟩
theorem acM{x:aW}(h:okW x=true):2≤x.af.length∧x.af.length≤8:=by
 have:=l5 h;simp only[Kg,Bool.and_eq_true,b7]at this;omega
theorem Z9{x:aW}(h:okW x=true){i c:Nat}(hi:i<x.az.length)(hc:c<x.af.length):cL (Uw x i c)=true∧((Uw x i c).rows.length:Int)=x.rows:=by
 have hl:(dw x (c:Int)).length=x.az.length:=jI h (by omega);have hm:Uw x i c∈dw x (c:Int):=getD_in _ (by omega);exact⟨xA h _ hm,M8 _ hm⟩
theorem Uy{x:aW}(h:okW x=true){i:Nat}(hi:i<x.az.length):(x.az.getD i (aG .bp)).id=(i:Int)∧(x.az.getD i (aG .bp)).rows=x.rows∧(x.az.getD i (aG .bp)).round=x.round∧(x.az.getD i (aG .bp)).received= []∧0≤(x.az.getD i (aG .bp)).behavior∧(x.az.getD i (aG .bp)).behavior≤3:=by
 have hs:=dV h;have hr:=nq h;exact(IK hr.1 hr.2 (by omega)).1 (EC h hi)
theorem IM{x:aW}(h:okW x=true){k i:Nat}(hi:i<x.az.length)(hk:k≤x.af.length):cj (BD x k i)=true:=by
 have hs:=dV h;have hr:=nq h;have hn:=acM h;obtain⟨h1,h2,h3,h4,h5⟩:=Uy h hi;have hl:(BD x k i).received.length=k:=Xd x i k;simp only[cj,tL,Bool.and_eq_true,b7,decide_eq_true_eq,List.all_eq_true,hl];refine⟨⟨⟨⟨⟨?_,?_⟩,?_⟩,?_⟩,?_⟩,fun j hj=> ?_⟩
 ·show 0≤(x.az.getD i (aG .bp)).id∧(x.az.getD i (aG .bp)).id≤3
  omega
 ·show 1≤(x.az.getD i (aG .bp)).rows∧(x.az.getD i (aG .bp)).rows≤64
  omega
 ·exact h5
 ·show 0≤(x.az.getD i (aG .bp)).round∧(x.az.getD i (aG .bp)).round≤100000
  omega
 ·omega
 ·have hj':j<k:=List.mem_range.1 hj;have e:(BD x k i).received.getD j (aG .aT)=⟨(j:Int),Uw x i j⟩:=O4 x i k hj';have ho:=Z9 h hi (show j<x.af.length by omega);have er:(BD x k i).rows=x.rows:=h2;simp only[mX,e,Bool.and_eq_true,b7,beq_iff_eq,Bool.not_eq_true',Bool.and_eq_false_iff,decide_eq_false_iff_not,er];refine⟨⟨⟨by omega,?_⟩,ho.1⟩,ho.2⟩;by_cases hz:j=0
  ·left;omega
  ·right;have e':(BD x k i).received.getD (j-1) (aG .aT)=⟨((j-1:Nat):Int),Uw x i (j-1)⟩:=O4 x i k (by omega);rw[e'];show¬(j:Int)≤((j-1:Nat):Int)
   omega
theorem O5{x:aW}(h:okW x=true){i:Nat}(hi:i<x.az.length): ∀k,k≤x.af.length→(vV x k).getD i (aG .bp)=BD x k i
 |0,_=>by
  have h4:=(Uy h hi).2.2.2.1;show x.az.getD i (aG .bp)=BD x 0 i
  unfold BD;have e:rcs x i 0=(x.az.getD i (aG .bp)).received:=by rw[h4];rfl
  rw[e]
 |k+1,hk=>by
  have ha:ke (BD x k i) (k:Int) (Uw x i k)=BD x (k+1) i:=by
   unfold ke;show(⟨_,_,_,rcs x i k++ [⟨(k:Int),Uw x i k⟩],_⟩:bp)=_
   rw[←Ux];rfl
  rw[KF h (by omega) hi,O5 h hi k (by omega)];show MM (BD x k i) (k:Int) (Uw x i k)=_
  rw[Ik (by unfold kf;rw[ha,IM h hi (by omega),IM h hi hk];rfl),ha]
theorem Xe{x:aW}(h:okW x=true){i:Nat}(hi:i<x.az.length):(bP x).getD i (aG .bp)=BD x x.af.length i:=by
 rw[bP,if_pos h];exact O5 h hi _ (Nat.le_refl _)
theorem G2(rows:Int)(l:List aT):(gj rows l).rows.length=(dD rows).rows.length:=G1 (fun r:aT=>r.share) l _
theorem Uz(d:DB):(alt d).rows.length=d.rows.length:=List.length_set ..
theorem UA{x:aW}(h:okW x=true){d:DB}(hd:d∈cZ (bP x)):(d.rows.length:Int)=x.rows:=by
 obtain⟨s,hs,rfl⟩:=List.mem_map.1 hd;obtain⟨i,hi⟩:=List.mem_iff_getElem?.1 hs;have hl:i<x.az.length:=by
  have:=(List.getElem?_eq_some_iff.1 hi).1;rw[lO h]at this;exact this
 have e:s=BD x x.af.length i:=by
  rw[←Xe h hl,List.getD_eq_getElem?_getD,hi];rfl
 have hr:s.rows=x.rows:=by rw[e];exact(Uy h hl).2.1
 have hk:cj s=true:=by rw[e];exact IM h hl (Nat.le_refl _)
 have hw:=nq h;have hn:((dD s.rows).rows.length:Int)=x.rows:=by rw[hr];exact Fg (by omega)
 unfold qT;rw[if_pos hk];split
 ·rw[Uz,G2];exact hn
 ·rw[G2];exact hn
theorem Lh: ∀(l:List DB) (a:DB),cL a=true→(∀d,d∈l→cL d=true∧d.rows.length=a.rows.length)→ ∃d,LS a l=some d∧d.rows.length=a.rows.length
 | [],a,_,_=>⟨a,rfl,rfl⟩
 |s::r,a,ha,hl=>by
  have hs:=hl s (List.mem_cons_self ..);have hx:iz a s=true:=by
   simp only[iz,Bool.and_eq_true,decide_eq_true_eq];exact⟨⟨ha,hs.1⟩,by omega⟩
  have he:=xF a s;obtain⟨d,h1,h2⟩:=Lh r (gu a s) (vJ ha) (fun d hd=>by
   have:=hl d (List.mem_cons_of_mem _ hd);exact⟨this.1,by omega⟩)
  exact⟨d,by rw[LS,if_pos hx,h1],by omega⟩
theorem Li{x:aW}(h:okW x=true):CG (cZ (bP x))=true∧((jw (cZ (bP x))).rows.length:Int)=x.rows:=by
 have hs:=dV h;have hl:(cZ (bP x)).length=x.az.length:=by rw[show(cZ (bP x)).length=(bP x).length from List.length_map ..,lO h]
 have h0:(cZ (bP x)).getD 0 (aG .DB)∈cZ (bP x):=getD_in _ (by omega);have e0:=UA h h0;obtain⟨d,h1,h2⟩:=Lh ((cZ (bP x)).drop 1) ((cZ (bP x)).getD 0 (aG .DB)) (oq (bP x) _ h0) (fun d hd=>by
  have hm:=List.mem_of_mem_drop hd;have:=UA h hm;exact⟨oq (bP x) _ hm,by omega⟩)
 have e:OG (cZ (bP x))=some d:=by
  rw[OG,if_pos (by simp only[bT,b7];omega),h1]
 exact⟨by rw[CG,e];rfl,by rw[jw,e];show(d.rows.length:Int)=x.rows;omega⟩
end
section
structure QD where
 b:List UInt8
 i:Nat
 h:Int
def QD.h1(c:QD):Int:=IntKind.i64.wrap (IntKind.i64.wrap (c.h*6364136223846793005)+1442695040888963407)
def QD.n(c:QD):QD:=⟨c.b,if c.i<c.b.length then c.i+1 else c.i,c.h1⟩
def Xf(c:QD)(n:Int):QD:=if n≤0 then c else if n≤256 then c.n else c.n.n.n
def nwC(seed:Int)(i:Nat):dF:=⟨(i:Int),((i^^^1:Nat):Int),As (kh seed [199,(i:Int).tdiv 2]),kh seed [211,(i:Int)],[],0,[],0⟩
def nwD(seed:Int)(i:Nat):aZ:=⟨nwC seed i,nwC seed i⟩
def nwS(rows:Int)(i:Nat):bp:=⟨(i:Int),rows,0,[],0⟩
def CQ(rows:Int)(n:Nat):List bp:=(List.range n).map (nwS rows)
def sI(seed:Int)(n:Nat):List aZ:=(List.range n).map (nwD seed)
def UB(rows:Int)(s p:Nat)(seed:Int):aW:=⟨rows,CQ rows s,sI seed (2*p),⟨rows,[]⟩,As (kh seed [197]),seed,0,[],0⟩
theorem IN(rows:Int)(n:Nat):(CQ rows n).length=n:=by simp[CQ]
theorem IP(seed:Int)(n:Nat):(sI seed n).length=n:=by simp[sI]
theorem Lj(rows:Int)(k:Nat):CQ rows (k+1)=CQ rows k++ [nwS rows k]:=xl _ k
theorem Ll(seed:Int)(k:Nat):sI seed (k+1)=sI seed k++ [nwD seed k]:=xl _ k
theorem QE(i:Nat):((i^^^1:Nat):Int).tdiv 2=(i:Int).tdiv 2:=by
 have h:(i^^^1)/2=i/2:=by
  rw[Nat.xor_div_two];simp
 rw[mR (by omega),mR (by omega)];omega
theorem IQ(i:Nat):i^^^1≠i:=by
 intro h;have h2:(i^^^1)^^^i=i^^^i:=by rw[h]
 rw[Nat.xor_comm i 1,Nat.xor_assoc,Nat.xor_self,Nat.xor_zero]at h2;cases h2
theorem aaa{seed:Int}{i:Nat}(hi:i<8):c8 (nwC seed i)=true:=by
 have hk:=o7 (dz seed [199,(i:Int).tdiv 2]);have hx:i^^^1<8:=tO i 8 hi (by decide);have hn:=IQ i;have hB:Iz (nwC seed i):=by
  refine⟨Nat.zero_le _,Nat.zero_le _,?_,?_⟩<;>(intro b hb;cases hb)
 refine BC.2 ⟨⟨⟨by show 0≤(i:Int)∧(i:Int)≤7;omega,by show 0≤((i^^^1:Nat):Int)∧((i^^^1:Nat):Int)≤7;omega⟩,by show(i:Int)≠((i^^^1:Nat):Int);omega,?_⟩,hB,by show(0:Int)≤0∧(0:Int)≤0;omega,by show(0:Int)≤0;omega,by show(0:Int)≤100000;omega⟩;show eM (As _)=true
 unfold eM;rw[b7];omega
theorem Xg{rows seed:Int}{s p:Nat}(hr:1≤rows∧rows≤64)(hs:2≤s∧s≤4)(hp:1≤p∧p≤4):okW (UB rows s p seed)=true:=by
 have hl1:=IN rows s;have lg:=IP seed (2*p);have hk:=o7 (dz seed [197]);refine GZ.ok ⟨hr,by show 2≤(CQ rows s).length∧(CQ rows s).length≤4;omega,by show 2≤(sI seed (2*p)).length∧(sI seed (2*p)).length≤8;omega,by show(sI seed (2*p)).length % 2=0;omega,jM.2 ⟨⟨hr,by show 0≤8;omega⟩,fun i hi=>by cases hi⟩,rfl,?_,?_,by show(0:Int)≤0∧(0:Int)≤100000;omega,by show(0:Int)≤0;omega,fun i hi=> ?_,fun i hi=> ?_⟩
 ·show dr ⟨rows,[]⟩<0
  rw[M5 rfl];decide
 ·show eM (As _)=true
  unfold eM;rw[b7];omega
 ·have hi':i<s:=by have:i<(CQ rows s).length:=hi;omega
  have e:(CQ rows s).getD i (aG .bp)=nwS rows i:=eI _ _ _ _ hi';show YC rows 0 i ((CQ rows s).getD i (aG .bp))
  rw[e];exact⟨rfl,rfl,rfl,rfl,by show(0:Int)≤0;omega,by show(0:Int)≤3;omega⟩
 ·have hi':i<2*p:=by have:i<(sI seed (2*p)).length:=hi;omega
  have hx:=tO i (2*p) hi' (by omega);have e: ∀j,j<2*p→(sI seed (2*p)).getD j (aG .aZ)=nwD seed j:=fun j hj=>eI _ _ _ _ hj;have hc:=aaa (seed:=seed) (i:=i) (by omega);have aeR:cP (nwD seed i)=true:=Uu.iff.2 ⟨hc,hc,fZ.2 ⟨⟨rfl,rfl,rfl,rfl⟩,rfl⟩,Int.le_refl _,Int.le_refl _,BB _⟩;show(cP ((sI seed (2*p)).getD i (aG .aZ))&&(((sI seed (2*p)).getD i (aG .aZ)).live.id==(i:Int))&&(((sI seed (2*p)).getD i (aG .aZ)).live.cU==((i^^^1:Nat):Int))&&(((sI seed (2*p)).getD i (aG .aZ)).live.key==((sI seed (2*p)).getD (i^^^1) (aG .aZ)).live.key)&&decide (((sI seed (2*p)).getD i (aG .aZ)).live.next≤0))=true
  rw[e i hi',e _ hx,aeR];simp only[Bool.and_eq_true,beq_iff_eq,decide_eq_true_eq];refine⟨⟨⟨⟨trivial,rfl⟩,rfl⟩,?_⟩,Int.le_refl _⟩;show As (kh seed [199,(i:Int).tdiv 2])=As (kh seed [199,((i^^^1:Nat):Int).tdiv 2])
  rw[QE]
theorem acN{x:aW}{n:Nat}(h:okW x=true)(hr:x.replaced.length≤n):wC x n:=by
 have w:=GZ.of h;refine⟨xI (TT h),?_,?_,hr⟩
 ·exact Nat.le_trans (xH bt 960 8 _ (fun d hd=>k8 (GU h d hd)) w.W9.2) (by decide)
 ·have ha:=jM.1 w.Up;refine Nat.le_trans (xH dM 1600 8 _ (fun y hy=> ?_) ha.1.2) (by decide);obtain⟨i,hi,rfl⟩:=List.mem_iff_getElem.1 hy;have h2:=iU.1 (ha.2 i hi);have e:x.aB.rounds.getD i (aG .aJ)=x.aB.rounds[i]:=by rw[List.getD_eq_getElem?_getD,List.getElem?_eq_getElem hi];rfl
  rw[e]at h2;exact E4 h2.2.2.1
theorem IS{x:aW}{i:Nat}{d:aZ}(h:okW x=true)(hi:i<x.af.length)(hd:cP d=true)(hs:rH d.live (x.af.getD i (aG .aZ)).live)(hn:d.live.next≤x.round):okW (K0 x i d)=true:=by
 have w:=GZ.of h;have hg: ∀j,j<x.af.length→(x.af.set i d).getD j (aG .aZ)=if i=j then d else x.af.getD j (aG .aZ):=fun j hj=>BA _ _ hj
 refine GZ.ok ⟨w.rows,w.Vr,by show 2≤(x.af.set i d).length∧(x.af.set i d).length≤8;rw[List.length_set];exact w.W9,by show(x.af.set i d).length % 2=0;rw[List.length_set];exact w.even,w.Up,w.Ck,w.last,w.key,w.round,w.xW,w.sv,fun j hj=> ?_⟩;have hj:j<x.af.length:=by have:j<(x.af.set i d).length:=hj;rwa [List.length_set]at this
 have hx:=tO j x.af.length hj w.even;have hq:=qM h hj;have key: ∀m,m<x.af.length→((x.af.set i d).getD m (aG .aZ)).live.key=(x.af.getD m (aG .aZ)).live.key:=by
  intro m hm;rw[hg m hm];split
  ·rename_i e;subst e;exact hs.2.2.1
  ·rfl
 simp only[okD,Bool.and_eq_true,decide_eq_true_eq,beq_iff_eq]at hq ⊢;show(((cP ((x.af.set i d).getD j (aG .aZ))=true∧((x.af.set i d).getD j (aG .aZ)).live.id=(j:Int))∧((x.af.set i d).getD j (aG .aZ)).live.cU=((j^^^1:Nat):Int))∧((x.af.set i d).getD j (aG .aZ)).live.key=((x.af.set i d).getD (j^^^1) (aG .aZ)).live.key)∧((x.af.set i d).getD j (aG .aZ)).live.next≤x.round
 rw[key j hj,key _ hx,hg j hj];split
 ·rename_i e;subst e;exact⟨⟨⟨⟨hd,hs.1.trans hq.1.1.1.2⟩,hs.2.1.trans hq.1.1.2⟩,hq.1.2⟩,hn⟩
 ·exact hq
theorem UC{x:aW}{c:Int}(h:cQ x c=true):c.toNat<x.af.length∧cP (xJ x c)=true∧(xJ x c).live.next≤x.round:=by
 obtain⟨h1,h2,h3⟩:=mC h;have hi:c.toNat<x.af.length:=by omega
 have hq:=qM h1 hi;simp only[okD,Bool.and_eq_true,decide_eq_true_eq]at hq;exact⟨hi,hq.1.1.1.1,hq.2⟩
theorem O6{c:dF}{b:List UInt8}(h:c8 c=true):c8 (kq c b)=true:=by
 unfold kq;split
 ·rename_i hk;simp only[pV,Bool.and_eq_true]at hk;exact hk.2
 ·exact h
theorem G3(c:dF)(b:List UInt8):rH (kq c b) c∧(kq c b).next=c.next∧(kq c b).sent=c.sent∧(kq c b).inbox=c.inbox:=by
 unfold kq;split
 ·exact⟨⟨rfl,rfl,rfl,rfl⟩,rfl,rfl,rfl⟩
 ·exact⟨⟨rfl,rfl,rfl,rfl⟩,rfl,rfl,rfl⟩
theorem Xh{d:aZ}{b:List UInt8}(h:cP d=true):cP (CK d b)=true∧rH (CK d b).live d.live∧(CK d b).live.next=d.live.next:=by
 unfold CK;split
 ·rename_i hk;simp only[ur,Bool.and_eq_true]at hk;have hd:=Uu.iff.1 h;obtain⟨p1,p2⟩:=fZ.1 hd.same;obtain⟨a1,a2,a3,a4⟩:=G3 d.live b;obtain⟨b1,b2,b3,b4⟩:=G3 d.saved b;refine⟨Uu.iff.2 ⟨O6 hd.live,O6 hd.saved,fZ.2 ⟨⟨a1.1.trans (p1.1.trans b1.1.symm),a1.2.1.trans (p1.2.1.trans b1.2.1.symm),a1.2.2.1.trans (p1.2.2.1.trans b1.2.2.1.symm),a1.2.2.2.trans (p1.2.2.2.trans b1.2.2.2.symm)⟩,?_⟩,?_,?_,?_⟩,a1,a2⟩
  ·show(kq d.live b).aM=(kq d.saved b).aM
   rw[zX hk.1.2,zX hk.2];show d.live.aM++ [b]=d.saved.aM++ [b]
   rw[p2]
  ·show(kq d.saved b).sent≤(kq d.live b).sent
   rw[a3,b3];exact hd.sent
  ·show(kq d.saved b).next≤(kq d.live b).next
   rw[a2,b2];exact hd.next
  ·show vU (kq d.saved b).inbox (kq d.live b).inbox=true
   rw[a4,b4];exact hd.pre
 ·exact⟨h,⟨rfl,rfl,rfl,rfl⟩,rfl⟩
theorem aab{x:aW}{c:Int}{b:List UInt8}(h:okW x=true):okW (Jg x c b)=true:=by
 unfold Jg;split
 ·rename_i hk;obtain⟨h1,h2,h3⟩:=UC hk;obtain⟨q1,q2,q3⟩:=Xh (b:=b) h2;exact IS h h1 q1 q2 (by rw[q3];exact h3)
 ·exact h
theorem O7{c:dF}(h:c8 c=true):cP ⟨c,c⟩=true:=Uu.iff.2 ⟨h,h,fZ.2 ⟨⟨rfl,rfl,rfl,rfl⟩,rfl⟩,Int.le_refl _,Int.le_refl _,BB _⟩
theorem aac{x:aW}{c:Int}(h:okW x=true):okW (ID x c)=true:=by
 unfold ID;split
 ·rename_i hk;obtain⟨h1,h2,h3⟩:=UC hk;have hd:=Uu.iff.1 h2;obtain⟨p1,p2⟩:=fZ.1 hd.same;have hn:=hd.next;rw[M0,if_pos h2];exact IS h h1 (O7 hd.saved) ⟨p1.1.symm,p1.2.1.symm,p1.2.2.1.symm,p1.2.2.2.symm⟩ (by show(xJ x c).saved.next≤x.round;omega)
 ·exact h
theorem aad{x:aW}{c:Int}(h:okW x=true):okW (xK x c)=true:=by
 unfold xK;split
 ·rename_i hk;obtain⟨h1,h2,h3⟩:=UC hk;rw[IC,if_pos h2];exact IS h h1 (O7 (Uu.iff.1 h2).live) ⟨rfl,rfl,rfl,rfl⟩ h3
 ·exact h
theorem aae{x:aW}{i b:Int}(h:okW x=true):okW (K2 x i b)=true:=by
 unfold K2;split
 ·rename_i hk;obtain⟨_,h1,h2⟩:=M1 hk;have w:=GZ.of h;refine GZ.ok ⟨w.rows,by show 2≤(x.az.set i.toNat (beh (x.az.getD i.toNat (aG .bp)) b)).length∧(x.az.set i.toNat (beh (x.az.getD i.toNat (aG .bp)) b)).length≤4;rw[List.length_set];exact w.Vr,w.W9,w.even,w.Up,w.Ck,w.last,w.key,w.round,w.xW,fun j hj=> ?_,w.dv⟩;have hj:j<x.az.length:=by have:j<(x.az.set i.toNat (beh (x.az.getD i.toNat (aG .bp)) b)).length:=hj;rwa [List.length_set]at this
  show YC x.rows x.round j ((x.az.set i.toNat (beh (x.az.getD i.toNat (aG .bp)) b)).getD j (aG .bp))
  rw[BA _ _ hj];have hq:=w.sv j hj;split
  ·rename_i e;subst e;obtain⟨q1,q2,q3,q4,_⟩:=hq;exact⟨q1,q2,q3,q4,h2.1,h2.2⟩
  ·exact hq
 ·exact h
theorem acO(x:aW):(ES x).round=x.round∧(ES x).cancelled=x.cancelled∧(ES x).replaced=x.replaced∧(ES x).rows=x.rows∧(ES x).az=x.az∧(ES x).aB=x.aB∧(ES x).af.length=x.af.length∧(ES x).bn=x.bn:=by
 unfold ES;split
 ·exact⟨rfl,rfl,rfl,rfl,rfl,rfl,List.length_map ..,rfl⟩
 ·exact⟨rfl,rfl,rfl,rfl,rfl,rfl,rfl,rfl⟩
theorem Xi(x:aW):(testW x).round=x.round∧(testW x).cancelled=x.cancelled∧(testW x).rows=x.rows∧(testW x).aB=x.aB∧(testW x).af=x.af∧(testW x).bn=x.bn:=by
 unfold testW;split
 ·exact⟨rfl,rfl,rfl,rfl,rfl,rfl⟩
 ·exact⟨rfl,rfl,rfl,rfl,rfl,rfl⟩
theorem QF{x:aW}(h:okW x=true)(hc:x.cancelled<9223372036854775807):okW (dn x)=true:=by
 unfold dn;split
 ·rename_i hk;have hr:x.round<99999:=by simp only[gX,h,Bool.true_and,Bool.not_eq_true',decide_eq_false_iff_not]at hk;omega
  exact Z8 (Uq (QA h hr hc fun _=>⟨GP _ (oq _),(Li h).2⟩))
 ·exact h
theorem UD{x:aW}(h:okW x=true)(hr:x.round<99999)(hc:x.cancelled<9223372036854775807):(dn x).round=x.round+1∧(dn x).cancelled=(if(jA x.bn (bP x) (cZ (bP x)) (iK x) (bP x).length).length=0 then x.cancelled else x.cancelled+1)∧(dn x).rows=x.rows∧(dn x).af.length=x.af.length∧dr (dn x).aB=(if(jA x.bn (bP x) (cZ (bP x)) (iK x) (bP x).length).length=0 then x.round else dr x.aB):=by
 have w:=GZ.of h;have w3:=w.round;have w4:=w.xW;have hk:=Fe h hr;rw[dn,if_pos hk];obtain⟨a1,a2,_,a4,_,a6,a7,_⟩:=acO (testW (cz x (jA x.bn (bP x) (cZ (bP x)) (iK x) (bP x).length) (jw (cZ (bP x)))));obtain⟨b1,b2,b3,b4,b5,_⟩:=Xi (cz x (jA x.bn (bP x) (cZ (bP x)) (iK x) (bP x).length) (jw (cZ (bP x))));have hj:=Li h;rw[a1,a2,a4,a6,a7,b1,b2,b3,b4,b5,cz,if_pos hk];refine⟨bO (by omega),?_,rfl,rfl,?_⟩
 ·dsimp only;split
  ·rfl
  ·exact bO (by omega)
 ·dsimp only;split
  ·exact(Uo w.Up w3 w.last (GP _ (oq _)) (by rw[w.Ck];exact hj.2)).2.1
  ·rfl
structure Fh(x:aW)(n:Nat):Prop where
 ok:okW x=true
 round:x.round≤n
 xW:x.cancelled≤n
 M9:x.replaced.length≤8*n
theorem Fh.mono{x:aW}{n m:Nat}(h:Fh x n)(hn:n≤m):Fh x m:=⟨h.ok,by have:=h.round;omega,by have:=h.xW;omega,by have:=h.M9;omega⟩
theorem Fh.C{x:aW}{n:Nat}(h:Fh x n):wC x (8*n):=acN h.ok h.M9
theorem Fh.R{x:aW}{n:Nat}(h:Fh x n)(hn:n≤100000):wR x:=T8 h.C (by omega)
theorem Fh.sm{x:aW}{n:Nat}{c:Int}{b:List UInt8}(h:Fh x n):Fh (Jg x c b) n:=by
 refine⟨aab h.ok,?_,?_,?_⟩<;>(unfold Jg;split)<;>first|exact h.round|exact h.xW|exact h.M9
theorem Fh.cc{x:aW}{n:Nat}{c:Int}(h:Fh x n):Fh (ID x c) n:=by
 refine⟨aac h.ok,?_,?_,?_⟩<;>(unfold ID;split)<;>first|exact h.round|exact h.xW|exact h.M9
theorem Fh.sv{x:aW}{n:Nat}{c:Int}(h:Fh x n):Fh (xK x c) n:=by
 refine⟨aad h.ok,?_,?_,?_⟩<;>(unfold xK;split)<;>first|exact h.round|exact h.xW|exact h.M9
theorem Fh.co{x:aW}{n:Nat}{i b:Int}(h:Fh x n):Fh (K2 x i b) n:=by
 refine⟨aae h.ok,?_,?_,?_⟩<;>(unfold K2;split)<;>first|exact h.round|exact h.xW|exact h.M9
theorem Fh.rd{x:aW}{n:Nat}(h:Fh x n)(hn:n≤99998):Fh (dn x) (n+1):=by
 have h1:=h.round;have h2:=h.xW;have hf:=UD h.ok (by omega) (by omega);have hC:=KZ h.C;refine⟨QF h.ok (by omega),by omega,?_,by have:=hC.2.2.2;omega⟩;rw[hf.2.1];split<;>omega
end
section
structure ArP where
 c:QD
 a:gZ
 r:Int
end
section
def n4(c:QD)(a b:Int):QD:=Xf (Xf (Xf (Xf c a) b) 99) 999
structure ClP where
 c:QD
 x:dF
end
section
structure DvP where
 c:QD
 d:aZ
def aeS(p:DvP):Prop:=p.d.live.sent<(p.d.live.aM.length:Int)
instance (p:DvP):Decidable (aeS p):=inferInstanceAs (Decidable (_<_))
def low(l:List aT)(c:Int):Nat:=(l.takeWhile fun r=>decide (r.client<c)).length
structure SvP where
 c:QD
 s:bp
end
section
def sb(rows:List (List UInt8))(v:List Int)(i k:Nat):UInt8:=if k<v.length∧v.getD k (aG .int)=1 then WC (rows.getD k (aG (.sl .u8))) i else 0
def sx(rows:List (List UInt8))(v:List Int)(i:Nat):Nat→UInt8
 |0=>0
 |n+1=>sx rows v i n^^^sb rows v i n
end
section

end
section
theorem O9{x:aW}(h:okW x=true): ∀s,s∈x.az→dL s≤15000:=by
 intro s hs;have:=vH h s hs;unfold dL;rw[this];exact Nat.zero_le _
end
end Go.Proofs.YtaalpcnbbldlaaaGreatDoor.G
