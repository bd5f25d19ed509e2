/-
  DERIVED: THE SHELF's CONTRACTS AT THIS DUMP, IN PLAIN WORDS (tools/lay-plain.mjs out of 'TryzShelf.lean', which tools/lay-shelf.mjs wrote): THE SAME DECLARATIONS UNDER THE SAME NAMES: 'import', 'namespace', 'open', 'def', 'theorem' AND NOTHING ELSE: no command of the shelf's: FOR A HAND-IN. Each laying: the table of numbers ('.._ren') and one theorem, a field a fact of the dump's own or the kernel's comparison; each contract: ONE APPLICATION.
-/
import Derived.Ground.Names2Prog
import Derived.Ground.PaProg
import Derived.Ground.SlgnProg
import Derived.Shelf.Hex.Encode
import Derived.Shelf.Hex.Lens
import Derived.Shelf.Hex.More
import Derived.Shelf.Hex.Tagged
import Derived.Shelf.LaysC
import Derived.Shelf.LaysM
import Derived.Shelf.Slices.Clone
import Derived.Shelf.Slices.Turned
import Derived.Shelf.SlicesE.Clone
import Derived.Shelf.Strconv.Atoi
import Derived.Shelf.Strconv.AtoiErr
import Derived.Shelf.Strconv.AtoiErrFast
import Derived.Shelf.Strconv.AtoiFail
import Derived.Shelf.Strconv.Clone
import Derived.Shelf.Strconv.Itoa0
import Derived.Shelf.Strconv.Itoa1
import Derived.Shelf.Strconv.Itoa2
import Derived.Shelf.Strconv.Itoa3
import Derived.Shelf.Strconv.Lower
import Derived.Shelf.Strconv.ParseIntEmpty
import Derived.Shelf.Strconv.ParseUint10Empty
import Derived.Shelf.Strconv.ParseUintEmpty
import Derived.Shelf.Strconv.SyntaxError
import Derived.Shelf.Strconv.ToError
import Derived.Shelf.Strings.Builder1
import Derived.Shelf.Strings.Builder2
import Derived.Shelf.Strings.Builder2Cap
import Derived.Shelf.Strings.BuilderF
import Derived.Shelf.Strings.Count
import Derived.Shelf.Strings.Explode
import Derived.Shelf.Strings.OnBuilder
import Derived.Shelf.Strings.RuneCount
import Derived.Shelf.Strings.Search1
import Derived.Shelf.Strings.Search2
import Derived.Shelf.Strings.Search3
import Derived.Shelf.Strings.Shaped
import Derived.Shelf.Strings.Split
import Derived.Shelf.Strings.SplitShaped
import Derived.Shelf.Unicode.Decode
import Derived.Shelf.Unicode.DecodeAny
import Derived.Shelf.Unicode.DecodeSlow
import Derived.Shelf.Utf8.RuneCount
import Derived.Test.YtaalpcnbbldlaaaGreatDoorProg
open Go.Proofs.Tryz renaming func115→Tm,func198→Tn,func272→To,func333→Tp,func334→Tq,func335→Tr,func336→Tt,func375→Tu,func376→Tl,func377→Tv,func378→Tw,func379→Tx,func400→Ty,func401→Tz,isAgg0→uw,isAgg102→P4,isAgg103→P5,isAgg108→yt,isAgg2→VS,isAgg20→IA,isAgg21→TC,isAgg213→FG,isAgg234→P8,isAgg24→Bf,isAgg247→P6,isAgg272→P9,isAgg275→Qa,isAgg29→IB,isAgg299→Qc,isAgg3→ux,isAgg300→Qd,isAgg308→Qe,isAgg309→Qf,isAgg4→ym,isAgg5→yq,isAgg9→uy,prog→aN,sizeOf0→rO,sizeOf102→MF,sizeOf103→MG,sizeOf108→vO,sizeOf2→TA,sizeOf20→FC,sizeOf21→Qg,sizeOf213→CW,sizeOf234→MI,sizeOf24→yp,sizeOf247→MH,sizeOf272→MJ,sizeOf275→MK,sizeOf29→FD,sizeOf299→ML,sizeOf3→rP,sizeOf300→MM,sizeOf308→MN,sizeOf309→MP,sizeOf4→vl,sizeOf5→vn,sizeOf9→rQ,underlying0→lp,underlying102→pV,underlying103→FE,underlying108→lM,underlying2→yJ,underlying20→wW,underlying21→v8,underlying213→oY,underlying234→oZ,underlying24→mN,underlying247→FF,underlying272→FH,underlying275→FI,underlying29→qw,underlying299→vo,underlying3→iX,underlying300→FJ,underlying308→FK,underlying309→FL,underlying4→jK,underlying5→ld,underlying9→fZ,zeroValue0→mz,zeroValue102→Hy,zeroValue103→Hz,zeroValue108→qO,zeroValue2→LX,zeroValue20→yY,zeroValue21→Ji,zeroValue213→wX,zeroValue234→HB,zeroValue24→sC,zeroValue247→HA,zeroValue272→HC,zeroValue275→HD,zeroValue29→yZ,zeroValue299→HE,zeroValue3→mA,zeroValue308→HF,zeroValue309→HG,zeroValue4→pU,zeroValue5→pW,zeroValue9→mB
open Go.Shelf renaming Ren→rN
namespace Go.Proofs
open Go.Shelf
section
def Tryz.Iz:rN:=⟨fun|156=>148|165=>232|166=>233|169=>234|240=>294|241=>295|276=>351|277=>352|n=>n,fun|31=>29|9=>9|3=>3|4=>4|0=>0|20=>20|72=>200|76=>103|70=>198|37=>24|75=>102|127=>247|164=>287|5=>5|80=>202|n=>n,fun|n=>n⟩
theorem Tryz.Yj:Go.Proofs.Lays.n156 aN Tryz.Iz:={
 mixed:=by kernel_rfl
 f156:=Tryz.func148.trans (congrArg some (by kernel_rfl))
 f165:=Tryz.func232.trans (congrArg some (by kernel_rfl))
 f166:=Tryz.func233.trans (congrArg some (by kernel_rfl))
 f169:=Tryz.func234.trans (congrArg some (by kernel_rfl))
 f240:=Tryz.func294.trans (congrArg some (by kernel_rfl))
 f241:=Tryz.func295.trans (congrArg some (by kernel_rfl))
 f276:=Tryz.func351.trans (congrArg some (by kernel_rfl))
 f277:=Tryz.func352.trans (congrArg some (by kernel_rfl))
 t0:=lp
 a0:=uw
 z0:=rO
 v0:=mz
 t3:=iX
 a3:=ux
 z3:=rP
 v3:=mA
 t4:=jK
 a4:=ym
 z4:=vl
 v4:=pU
 t9:=fZ
 a9:=uy
 z9:=rQ
 v9:=mB
 t20:=wW
 a20:=IA
 z20:=FC
 v20:=yY
 t31:=qw
 a31:=IB
 z31:=FD
 v31:=yZ
 t37:=mN
 a37:=Bf
 z37:=yp
 v37:=sC
 t70:=Tryz.underlying198
 a70:=Tryz.isAgg198
 z70:=Tryz.sizeOf198
 v70:=Tryz.zeroValue198
 t72:=Tryz.underlying200
 a72:=Tryz.isAgg200
 z72:=Tryz.sizeOf200
 v72:=Tryz.zeroValue200
 t75:=pV
 a75:=P4
 z75:=MF
 v75:=Hy
 t76:=FE
 a76:=P5
 z76:=MG
 v76:=Hz
 t127:=FF
 a127:=P6
 z127:=MH
 v127:=HA
 t164:=Tryz.underlying287
 a164:=Tryz.isAgg287
 z164:=Tryz.sizeOf287
 v164:=Tryz.zeroValue287}
theorem Tryz.vm:Builder.Extra aN Tryz.Iz:={
 sizeBuilder:=by kernel_rfl
 liesBuilder:=by kernel_rfl
 t5:=ld
 a5:=yq
 z5:=vn
 v5:=pW
 infoByte:=by kernel_rfl
 cellsByte:=by kernel_rfl
 sizeByte:=by kernel_rfl
 neB5:=by decide}
open Go.RowKit in
theorem Tryz.strings_Join_none(a:Option Addr)(c:Nat)(sep:ByteArray)(w:World):
  Calls aN 148 #[.slice a 0 c, .string sep] w fun e w'=>e= .returned (.string ⟨#[]⟩)∧w'=w:=Any.strings_Join_none Tryz.Yj Tryz.vm a c sep w
open Go.RowKit in
theorem Tryz.strings_Join(bk o c:Nat)(xs:List ByteArray)(sep:ByteArray)(w:World)(hcells: ∀(j:Nat) x,xs[j]? =some x→w.cell? ⟨bk,o+j,none⟩=some (.string x))(hbk:bk<w.heap.size)(hN:xs.length≤140737488355328)(hcap:xs.length≤c)(hlen:(Lib.join (xs.map (·.data.toList)) sep.data.toList).length≤140737488355328):
  Calls aN 148 #[.slice (some ⟨bk,o,none⟩) xs.length c, .string sep] w fun e w'=>e= .returned (.string ⟨(Lib.join (xs.map (·.data.toList)) sep.data.toList).toArray⟩)∧Below w.heap.size w w':=Any.strings_Join Tryz.Yj Tryz.vm bk o c xs sep w hcells hbk hN hcap hlen
open Go.RowKit in
def Tryz.P7:rN:=⟨fun|171=>115|243=>198|246=>272|283=>333|284=>334|285=>335|286=>336|129=>376|317=>375|318=>377|319=>378|320=>379|337=>400|338=>401|n=>n,fun|3=>3|9=>9|2=>2|4=>4|171=>272|0=>0|53=>234|37=>24|5=>5|173=>275|212=>299|51=>213|20=>20|213=>300|46=>108|232=>308|233=>309|n=>n,fun|17=>5|18=>6|19=>7|n=>n⟩
theorem Tryz.aeN:Go.Proofs.LaysM.n171 aN Tryz.P7:={
 mixed:=by kernel_rfl
 f129:=Tl.trans (congrArg some (by kernel_rfl))
 f171:=Tm.trans (congrArg some (by kernel_rfl))
 f243:=Tn.trans (congrArg some (by kernel_rfl))
 f246:=To.trans (congrArg some (by kernel_rfl))
 f283:=Tp.trans (congrArg some (by kernel_rfl))
 f284:=Tq.trans (congrArg some (by kernel_rfl))
 f285:=Tr.trans (congrArg some (by kernel_rfl))
 f286:=Tt.trans (congrArg some (by kernel_rfl))
 f317:=Tu.trans (congrArg some (by kernel_rfl))
 f318:=Tv.trans (congrArg some (by kernel_rfl))
 f319:=Tw.trans (congrArg some (by kernel_rfl))
 f320:=Tx.trans (congrArg some (by kernel_rfl))
 f337:=Ty.trans (congrArg some (by kernel_rfl))
 f338:=Tz.trans (congrArg some (by kernel_rfl))
 t0:=lp
 a0:=uw
 z0:=rO
 v0:=mz
 t2:=yJ
 a2:=VS
 z2:=TA
 v2:=LX
 t3:=iX
 a3:=ux
 z3:=rP
 v3:=mA
 t4:=jK
 a4:=ym
 z4:=vl
 v4:=pU
 t5:=ld
 a5:=yq
 z5:=vn
 v5:=pW
 t9:=fZ
 a9:=uy
 z9:=rQ
 v9:=mB
 t20:=wW
 a20:=IA
 z20:=FC
 v20:=yY
 t37:=mN
 a37:=Bf
 z37:=yp
 v37:=sC
 t46:=lM
 a46:=yt
 z46:=vO
 v46:=qO
 t51:=oY
 a51:=FG
 z51:=CW
 v51:=wX
 t53:=oZ
 a53:=P8
 z53:=MI
 v53:=HB
 t171:=FH
 a171:=P9
 z171:=MJ
 v171:=HC
 t173:=FI
 a173:=Qa
 z173:=MK
 v173:=HD
 t212:=vo
 a212:=Qc
 z212:=ML
 v212:=HE
 t213:=FJ
 a213:=Qd
 z213:=MM
 t232:=FK
 a232:=Qe
 z232:=MN
 v232:=HF
 t233:=FL
 a233:=Qf
 z233:=MP
 v233:=HG
 g17:=by kernel_rfl
 g18:=by kernel_rfl
 g19:=by kernel_rfl
 i0:=by kernel_rfl
 i2:=by kernel_rfl
 i3:=by kernel_rfl
 i4:=by kernel_rfl
 i5:=by kernel_rfl
 i9:=by kernel_rfl
 i20:=by kernel_rfl
 i37:=by kernel_rfl
 i46:=by kernel_rfl
 i51:=by kernel_rfl
 i53:=by kernel_rfl
 i171:=by kernel_rfl
 i173:=by kernel_rfl
 i212:=by kernel_rfl
 i232:=by kernel_rfl
 i233:=by kernel_rfl
 m17:=by kernel_rfl
 m18:=by kernel_rfl
 m19:=by kernel_rfl}
open Go.RowKit Go.Sort Go.Lib in
theorem Tryz.strconv_Itoa(n:Int)(h0: -9223372036854775808≤n)(h1:n≤9223372036854775807)(w:World)(htab:Lib.TabIs aN w "internal/strconv.uint64pow10" .u64 Lib.pow10Tab):
  Calls aN 115 #[.int .i64 n] w fun e w'=>e= .returned (.string ⟨(Lib.itoa n).toArray⟩)∧ ∃k os,w'=grow (w.drewN k) os:=Any.strconv_Itoa Tryz.aeN n h0 h1 w htab
def Tryz.FM:rN:=⟨fun|172=>68|244=>123|245=>124|247=>210|279=>211|280=>212|281=>213|282=>214|287=>279|316=>280|171=>115|205=>281|321=>343|322=>344|243=>198|246=>272|283=>333|284=>334|285=>335|286=>336|129=>376|317=>375|318=>377|319=>378|320=>379|337=>400|338=>401|n=>n,fun|9=>9|3=>3|75=>102|76=>103|4=>4|5=>5|167=>178|37=>24|0=>0|85=>179|2=>2|168=>181|53=>234|175=>235|46=>108|210=>238|127=>247|145=>282|143=>280|21=>21|171=>272|173=>275|212=>299|51=>213|20=>20|213=>300|232=>308|233=>309|80=>202|n=>n,fun|15=>3|16=>4|17=>5|18=>6|19=>7|n=>n⟩
theorem Tryz.TB:Go.Proofs.LaysC.n172 aN Tryz.FM:={
 mixed:=by kernel_rfl
 f129:=Tl.trans (congrArg some (by kernel_rfl))
 f171:=Tm.trans (congrArg some (by kernel_rfl))
 f172:=Tryz.func68.trans (congrArg some (by kernel_rfl))
 f205:=Tryz.func281.trans (congrArg some (by kernel_rfl))
 f243:=Tn.trans (congrArg some (by kernel_rfl))
 f244:=Tryz.func123.trans (congrArg some (by kernel_rfl))
 f245:=Tryz.func124.trans (congrArg some (by kernel_rfl))
 f246:=To.trans (congrArg some (by kernel_rfl))
 f247:=Tryz.func210.trans (congrArg some (by kernel_rfl))
 f279:=Tryz.func211.trans (congrArg some (by kernel_rfl))
 f280:=Tryz.func212.trans (congrArg some (by kernel_rfl))
 f281:=Tryz.func213.trans (congrArg some (by kernel_rfl))
 f282:=Tryz.func214.trans (congrArg some (by kernel_rfl))
 f283:=Tp.trans (congrArg some (by kernel_rfl))
 f284:=Tq.trans (congrArg some (by kernel_rfl))
 f285:=Tr.trans (congrArg some (by kernel_rfl))
 f286:=Tt.trans (congrArg some (by kernel_rfl))
 f287:=Tryz.func279.trans (congrArg some (by kernel_rfl))
 f316:=Tryz.func280.trans (congrArg some (by kernel_rfl))
 f317:=Tu.trans (congrArg some (by kernel_rfl))
 f318:=Tv.trans (congrArg some (by kernel_rfl))
 f319:=Tw.trans (congrArg some (by kernel_rfl))
 f320:=Tx.trans (congrArg some (by kernel_rfl))
 f321:=Tryz.func343.trans (congrArg some (by kernel_rfl))
 f322:=Tryz.func344.trans (congrArg some (by kernel_rfl))
 f337:=Ty.trans (congrArg some (by kernel_rfl))
 f338:=Tz.trans (congrArg some (by kernel_rfl))
 t0:=lp
 a0:=uw
 z0:=rO
 v0:=mz
 t2:=yJ
 a2:=VS
 z2:=TA
 v2:=LX
 t3:=iX
 a3:=ux
 z3:=rP
 v3:=mA
 t4:=jK
 a4:=ym
 z4:=vl
 v4:=pU
 t5:=ld
 a5:=yq
 z5:=vn
 v5:=pW
 t9:=fZ
 a9:=uy
 z9:=rQ
 v9:=mB
 t20:=wW
 a20:=IA
 z20:=FC
 v20:=yY
 t21:=v8
 a21:=TC
 z21:=Qg
 v21:=Ji
 t37:=mN
 a37:=Bf
 z37:=yp
 v37:=sC
 t46:=lM
 a46:=yt
 z46:=vO
 v46:=qO
 t51:=oY
 a51:=FG
 z51:=CW
 v51:=wX
 t53:=oZ
 a53:=P8
 z53:=MI
 v53:=HB
 t75:=pV
 a75:=P4
 z75:=MF
 v75:=Hy
 t76:=FE
 a76:=P5
 z76:=MG
 v76:=Hz
 t85:=Tryz.underlying179
 a85:=Tryz.isAgg179
 z85:=Tryz.sizeOf179
 v85:=Tryz.zeroValue179
 t127:=FF
 a127:=P6
 z127:=MH
 v127:=HA
 t143:=Tryz.underlying280
 a143:=Tryz.isAgg280
 z143:=Tryz.sizeOf280
 v143:=Tryz.zeroValue280
 t145:=Tryz.underlying282
 a145:=Tryz.isAgg282
 z145:=Tryz.sizeOf282
 v145:=Tryz.zeroValue282
 t167:=Tryz.underlying178
 a167:=Tryz.isAgg178
 z167:=Tryz.sizeOf178
 v167:=Tryz.zeroValue178
 t168:=Tryz.underlying181
 a168:=Tryz.isAgg181
 z168:=Tryz.sizeOf181
 v168:=Tryz.zeroValue181
 t171:=FH
 a171:=P9
 z171:=MJ
 v171:=HC
 t173:=FI
 a173:=Qa
 z173:=MK
 v173:=HD
 t175:=Tryz.underlying235
 a175:=Tryz.isAgg235
 z175:=Tryz.sizeOf235
 v175:=Tryz.zeroValue235
 t210:=Tryz.underlying238
 a210:=Tryz.isAgg238
 z210:=Tryz.sizeOf238
 v210:=Tryz.zeroValue238
 t212:=vo
 a212:=Qc
 z212:=ML
 v212:=HE
 t213:=FJ
 a213:=Qd
 z213:=MM
 t232:=FK
 a232:=Qe
 z232:=MN
 v232:=HF
 t233:=FL
 a233:=Qf
 z233:=MP
 v233:=HG
 g15:=by kernel_rfl
 g16:=by kernel_rfl
 g17:=by kernel_rfl
 g18:=by kernel_rfl
 g19:=by kernel_rfl
 t80:=Tryz.underlying202
 a80:=Tryz.isAgg202
 z80:=Tryz.sizeOf202
 v80:=Tryz.zeroValue202
 i0:=by kernel_rfl
 i2:=by kernel_rfl
 i3:=by kernel_rfl
 i4:=by kernel_rfl
 i5:=by kernel_rfl
 i9:=by kernel_rfl
 i20:=by kernel_rfl
 i21:=by kernel_rfl
 i37:=by kernel_rfl
 i46:=by kernel_rfl
 i51:=by kernel_rfl
 i53:=by kernel_rfl
 i75:=by kernel_rfl
 i76:=by kernel_rfl
 i80:=by kernel_rfl
 i85:=by kernel_rfl
 i127:=by kernel_rfl
 i143:=by kernel_rfl
 i145:=by kernel_rfl
 i167:=by kernel_rfl
 i168:=by kernel_rfl
 i171:=by kernel_rfl
 i173:=by kernel_rfl
 i175:=by kernel_rfl
 i210:=by kernel_rfl
 i212:=by kernel_rfl
 i232:=by kernel_rfl
 i233:=by kernel_rfl
 m15:=by kernel_rfl
 m16:=by kernel_rfl
 m17:=by kernel_rfl
 m18:=by kernel_rfl
 m19:=by kernel_rfl
 c0:=by kernel_rfl
 c2:=by kernel_rfl
 c3:=by kernel_rfl
 c4:=by kernel_rfl
 c5:=by kernel_rfl
 c9:=by kernel_rfl
 c20:=by kernel_rfl
 c21:=by kernel_rfl
 c37:=by kernel_rfl
 c46:=by kernel_rfl
 c51:=by kernel_rfl
 c53:=by kernel_rfl
 c75:=by kernel_rfl
 c76:=by kernel_rfl
 c80:=by kernel_rfl
 c85:=by kernel_rfl
 c127:=by kernel_rfl
 c143:=by kernel_rfl
 c145:=by kernel_rfl
 c167:=by kernel_rfl
 c168:=by kernel_rfl
 c171:=by kernel_rfl
 c173:=by kernel_rfl
 c175:=by kernel_rfl
 c210:=by kernel_rfl
 c212:=by kernel_rfl
 c213:=by kernel_rfl
 c232:=by kernel_rfl
 c233:=by kernel_rfl}
open Go.RowKit in
theorem Tryz.strconv_Atoi_err(s:ByteArray)(hl:s.size≤18)(h:Lib.atoi s.data.toList=none)(ev:Value)(w:World)(hv:w.cell? ⟨3,0,none⟩=some ev)(hev:ev= .nilIface∨ ∃te pe,ev= .iface te pe):
  Calls aN 68 #[.string s] w fun e w'=> ∃N,e= .returned (.tuple #[.int .i64 0, .iface 181 (.pointer (some ⟨N,0,none⟩))])∧w.heap.size≤N∧w'.heap[N]? =some (.cells #[.string ⟨#[65,116,111,105]⟩, .string s,ev] 238 (0,0))∧Below w.heap.size w w':=Any.strconv_Atoi_err Tryz.TB s hl h ev w hv hev
theorem Tryz.strconv_Atoi(s:ByteArray)(n:Int)(hl:s.size≤18)(h:Lib.atoi s.data.toList=some n)(w:World):
  Calls aN 68 #[.string s] w fun e w'=>e= .returned (.tuple #[.int .i64 n, .nilIface])∧ ∃t,w'=Lib.bytesWorld w 5 t:=Any.strconv_Atoi (ρ:=Tryz.FM) {Tryz.TB with} s n hl h w
def Tryz.TD:rN:=⟨fun|146=>12|221=>26|268=>55|138=>56|143=>57|195=>105|197=>106|218=>107|219=>108|260=>179|217=>180|225=>181|224=>182|267=>183|266=>255|314=>256|n=>n,fun|9=>9|31=>29|3=>3|4=>4|0=>0|105=>129|21=>21|5=>5|46=>108|119=>209|139=>212|138=>211|146=>214|51=>213|n=>n,fun|1=>0|3=>1|4=>2|n=>n⟩
theorem Tryz.aio:Go.Proofs.Lays.n146 aN Tryz.TD:={
 mixed:=by kernel_rfl
 f138:=Tryz.func56.trans (congrArg some (by kernel_rfl))
 f143:=Tryz.func57.trans (congrArg some (by kernel_rfl))
 f146:=Tryz.func12.trans (congrArg some (by kernel_rfl))
 f195:=Tryz.func105.trans (congrArg some (by kernel_rfl))
 f197:=Tryz.func106.trans (congrArg some (by kernel_rfl))
 f217:=Tryz.func180.trans (congrArg some (by kernel_rfl))
 f218:=Tryz.func107.trans (congrArg some (by kernel_rfl))
 f219:=Tryz.func108.trans (congrArg some (by kernel_rfl))
 f221:=Tryz.func26.trans (congrArg some (by kernel_rfl))
 f224:=Tryz.func182.trans (congrArg some (by kernel_rfl))
 f225:=Tryz.func181.trans (congrArg some (by kernel_rfl))
 f260:=Tryz.func179.trans (congrArg some (by kernel_rfl))
 f266:=Tryz.func255.trans (congrArg some (by kernel_rfl))
 f267:=Tryz.func183.trans (congrArg some (by kernel_rfl))
 f268:=Tryz.func55.trans (congrArg some (by kernel_rfl))
 f314:=Tryz.func256.trans (congrArg some (by kernel_rfl))
 t0:=lp
 a0:=uw
 z0:=rO
 v0:=mz
 t3:=iX
 a3:=ux
 z3:=rP
 v3:=mA
 t4:=jK
 a4:=ym
 z4:=vl
 v4:=pU
 t5:=ld
 a5:=yq
 z5:=vn
 v5:=pW
 t9:=fZ
 a9:=uy
 z9:=rQ
 v9:=mB
 t21:=v8
 a21:=TC
 z21:=Qg
 v21:=Ji
 t31:=qw
 a31:=IB
 z31:=FD
 v31:=yZ
 t46:=lM
 a46:=yt
 z46:=vO
 v46:=qO
 t51:=oY
 a51:=FG
 z51:=CW
 v51:=wX
 t105:=Tryz.underlying129
 a105:=Tryz.isAgg129
 z105:=Tryz.sizeOf129
 v105:=Tryz.zeroValue129
 t119:=Tryz.underlying209
 a119:=Tryz.isAgg209
 z119:=Tryz.sizeOf209
 t138:=Tryz.underlying211
 a138:=Tryz.isAgg211
 z138:=Tryz.sizeOf211
 v138:=Tryz.zeroValue211
 t139:=Tryz.underlying212
 a139:=Tryz.isAgg212
 z139:=Tryz.sizeOf212
 v139:=Tryz.zeroValue212
 t146:=Tryz.underlying214
 a146:=Tryz.isAgg214
 z146:=Tryz.sizeOf214
 v146:=Tryz.zeroValue214
 g1:=by kernel_rfl
 g3:=by kernel_rfl
 g4:=by kernel_rfl}
open Go.RowKit Go.Lib in
theorem Tryz.strings_Split(s sep:ByteArray)(m:Int)(w:World)(hs:s.size<4294967281)(hm:w.cell? ⟨0,0,none⟩=some (.int .i64 m))(h1:1≤sep.size):
  Calls aN 12 #[.string s, .string sep] w fun e w'=>
   e= .returned (.slice (some ⟨w.heap.size,0,none⟩) (Lib.countB s sep+1) (Lib.countB s sep+1))∧w'=w.alloc (.cells ((Lib.splitB sep 0 (Lib.countB s sep) s).map Value.string).toArray 9):=Any.strings_Split Tryz.aio (by kernel_rfl) s sep m w hs hm h1
def Tryz.TF:rN:=⟨fun|109=>30|n=>n,fun|31=>29|9=>9|3=>3|0=>0|4=>4|n=>n,fun|n=>n⟩
theorem Tryz.aiu:Go.Proofs.Lays.n109 aN Tryz.TF:={
 mixed:=by kernel_rfl
 f109:=Tryz.func30.trans (congrArg some (by kernel_rfl))
 t0:=lp
 a0:=uw
 z0:=rO
 v0:=mz
 t3:=iX
 a3:=ux
 z3:=rP
 v3:=mA
 t4:=jK
 a4:=ym
 z4:=vl
 v4:=pU
 t9:=fZ
 a9:=uy
 z9:=rQ
 v9:=mB
 t31:=qw
 a31:=IB
 z31:=FD
 v31:=yZ}
open Go.Lib in
theorem Tryz.slices_Index_string(b off n c:Nat)(zs:List ByteArray)(x:ByteArray)(w:World)(hz:n≤zs.length)(hbig:n≤9223372036854775807)(hc: ∀j,j<zs.length→w.cell? ⟨b,off+j,none⟩=some (.string (zs.getD j ByteArray.empty))):
  Calls aN 30 #[.slice (some ⟨b,off,none⟩) n c, .string x] w fun e w'=>e= .returned (.int .i64 (Lib.idxOfS (zs.take n) x))∧w'=w:=Any.slices_Index_string Tryz.aiu b off n c zs x w hz hbig hc
open Go.Lib in
def Tryz.MQ:rN:=⟨fun|39=>147|41=>230|40=>231|n=>n,fun|30=>24|9=>9|3=>3|0=>0|5=>5|46=>108|n=>n,fun|n=>n⟩
theorem Tryz.aay:Go.Proofs.Lays.ph39 aN Tryz.MQ:={
 mixed:=by kernel_rfl
 f39:=Tryz.func147.trans (congrArg some (by kernel_rfl))
 f40:=Tryz.func231.trans (congrArg some (by kernel_rfl))
 f41:=Tryz.func230.trans (congrArg some (by kernel_rfl))
 t0:=lp
 a0:=uw
 z0:=rO
 v0:=mz
 t3:=iX
 a3:=ux
 z3:=rP
 v3:=mA
 t5:=ld
 a5:=yq
 z5:=vn
 v5:=pW
 t9:=fZ
 a9:=uy
 z9:=rQ
 v9:=mB
 t30:=mN
 a30:=Bf
 z30:=yp
 v30:=sC
 t46:=lM
 a46:=yt
 z46:=vO
 v46:=qO
 info5:=by kernel_rfl}
open Go.RowKit Go.Lib in
theorem Tryz.hex_EncodeToString_bytes(bs os cs:Nat)(l:List UInt8)(w:World)(hsrc: ∀i (h:i<l.length),w.cell? ⟨bs,os+i,none⟩=some (.int .u8 ((l[i]'h).toNat:Int)))(hb:bs<w.heap.size)(hbig:2*l.length≤281474976710656):
  Calls aN 147 #[.slice (some ⟨bs,os,none⟩) l.length cs] w fun e w'=>e= .returned (.string ⟨(Hx.encode l).toArray⟩)∧Below w.heap.size w w':=Any.hex_EncodeToString_bytes Tryz.aay bs os cs l w hsrc hb hbig
end
end Go.Proofs
