/- Steps. -/
import Derived.Ground.Names2Prog
import Derived.Ground.PaProg
import Derived.Ground.SlgnProg
import Derived.Shelf.Hex.Encode
import Derived.Shelf.Hex.Lens
import Derived.Shelf.Hex.More
import Derived.Shelf.Hex.Tagged
import Derived.Shelf.LaysC
import Derived.Shelf.LaysM
import Derived.Shelf.Slices.Clone
import Derived.Shelf.Slices.Turned
import Derived.Shelf.SlicesE.Clone
import Derived.Shelf.Strconv.Atoi
import Derived.Shelf.Strconv.AtoiErr
import Derived.Shelf.Strconv.AtoiErrFast
import Derived.Shelf.Strconv.AtoiFail
import Derived.Shelf.Strconv.Clone
import Derived.Shelf.Strconv.Itoa0
import Derived.Shelf.Strconv.Itoa1
import Derived.Shelf.Strconv.Itoa2
import Derived.Shelf.Strconv.Itoa3
import Derived.Shelf.Strconv.Lower
import Derived.Shelf.Strconv.ParseIntEmpty
import Derived.Shelf.Strconv.ParseUint10Empty
import Derived.Shelf.Strconv.ParseUintEmpty
import Derived.Shelf.Strconv.SyntaxError
import Derived.Shelf.Strconv.ToError
import Derived.Shelf.Strings.Builder1
import Derived.Shelf.Strings.Builder2
import Derived.Shelf.Strings.Builder2Cap
import Derived.Shelf.Strings.BuilderF
import Derived.Shelf.Strings.Count
import Derived.Shelf.Strings.Explode
import Derived.Shelf.Strings.OnBuilder
import Derived.Shelf.Strings.RuneCount
import Derived.Shelf.Strings.Search1
import Derived.Shelf.Strings.Search2
import Derived.Shelf.Strings.Search3
import Derived.Shelf.Strings.Shaped
import Derived.Shelf.Strings.Split
import Derived.Shelf.Strings.SplitShaped
import Derived.Shelf.Unicode.Decode
import Derived.Shelf.Unicode.DecodeAny
import Derived.Shelf.Unicode.DecodeSlow
import Derived.Shelf.Utf8.RuneCount
import Derived.Test.YtaalpcnbbldlaaaGreatDoorProg
open Go.Proofs.Tryz renaming func115→ZM,func198→ZN,func272→ZO,func333→ZP,func334→ZQ,func335→ZR,func336→ZS,func375→ZT,func376→ZL,func377→ZU,func378→ZV,func379→ZW,func400→ZX,func401→ZY,isAgg0→yg,isAgg102→Wg,isAgg103→Wh,isAgg108→BD,isAgg2→acT,isAgg20→MY,isAgg21→Z1,isAgg213→JI,isAgg234→Wk,isAgg24→Ek,isAgg247→Wi,isAgg272→Wl,isAgg275→Wm,isAgg29→MZ,isAgg299→Wn,isAgg3→yh,isAgg300→Wo,isAgg308→Wp,isAgg309→Wq,isAgg4→BA,isAgg5→BC,isAgg9→yj,prog→aP,sizeOf0→vB,sizeOf102→Si,sizeOf103→Sj,sizeOf108→zy,sizeOf2→ZZ,sizeOf20→JD,sizeOf21→Wr,sizeOf213→Gp,sizeOf234→Sm,sizeOf24→BB,sizeOf247→Sk,sizeOf272→Sn,sizeOf275→Sp,sizeOf29→JE,sizeOf299→Sq,sizeOf3→vC,sizeOf300→Sr,sizeOf308→Ss,sizeOf309→Su,sizeOf4→y8,sizeOf5→zc,sizeOf9→vD,underlying0→nS,underlying102→td,underlying103→JG,underlying108→ox,underlying2→B1,underlying20→Ar,underlying21→zQ,underlying213→sJ,underlying234→sK,underlying24→lz,underlying247→JH,underlying272→JJ,underlying275→JK,underlying29→ue,underlying299→ze,underlying3→kO,underlying300→JL,underlying308→JM,underlying309→JN,underlying4→l9,underlying5→l8,underlying9→jN,zeroValue0→pz,zeroValue102→LL,zeroValue103→LM,zeroValue108→uB,zeroValue2→QX,zeroValue20→Cf,zeroValue21→NI,zeroValue213→As,zeroValue234→LP,zeroValue24→vZ,zeroValue247→LN,zeroValue272→LQ,zeroValue275→LR,zeroValue29→Cg,zeroValue299→LS,zeroValue3→pE,zeroValue308→LU,zeroValue309→LV,zeroValue4→s9,zeroValue5→th,zeroValue9→pF
open Go.Shelf renaming Ren→vA
namespace Go.Proofs
open Go.Shelf
def Tryz.MX:vA:=⟨fun|156=>148|165=>232|166=>233|169=>234|240=>294|241=>295|276=>351|277=>352|n=>n,fun|31=>29|9=>9|3=>3|4=>4|0=>0|20=>20|72=>200|76=>103|70=>198|37=>24|75=>102|127=>247|164=>287|5=>5|80=>202|n=>n,fun|n=>n⟩
theorem Tryz.afD:Go.Proofs.Lays.n156 aP Tryz.MX:={
 mixed:=by kernel_rfl
 f156:=Tryz.func148.trans (congrArg some (by kernel_rfl))
 f165:=Tryz.func232.trans (congrArg some (by kernel_rfl))
 f166:=Tryz.func233.trans (congrArg some (by kernel_rfl))
 f169:=Tryz.func234.trans (congrArg some (by kernel_rfl))
 f240:=Tryz.func294.trans (congrArg some (by kernel_rfl))
 f241:=Tryz.func295.trans (congrArg some (by kernel_rfl))
 f276:=Tryz.func351.trans (congrArg some (by kernel_rfl))
 f277:=Tryz.func352.trans (congrArg some (by kernel_rfl))
 t0:=nS
 a0:=yg
 z0:=vB
 v0:=pz
 t3:=kO
 a3:=yh
 z3:=vC
 v3:=pE
 t4:=l9
 a4:=BA
 z4:=y8
 v4:=s9
 t9:=jN
 a9:=yj
 z9:=vD
 v9:=pF
 t20:=Ar
 a20:=MY
 z20:=JD
 v20:=Cf
 t31:=ue
 a31:=MZ
 z31:=JE
 v31:=Cg
 t37:=lz
 a37:=Ek
 z37:=BB
 v37:=vZ
 t70:=Tryz.underlying198
 a70:=Tryz.isAgg198
 z70:=Tryz.sizeOf198
 v70:=Tryz.zeroValue198
 t72:=Tryz.underlying200
 a72:=Tryz.isAgg200
 z72:=Tryz.sizeOf200
 v72:=Tryz.zeroValue200
 t75:=td
 a75:=Wg
 z75:=Si
 v75:=LL
 t76:=JG
 a76:=Wh
 z76:=Sj
 v76:=LM
 t127:=JH
 a127:=Wi
 z127:=Sk
 v127:=LN
 t164:=Tryz.underlying287
 a164:=Tryz.isAgg287
 z164:=Tryz.sizeOf287
 v164:=Tryz.zeroValue287}
theorem Tryz.za:Builder.Extra aP Tryz.MX:={
 sizeBuilder:=by kernel_rfl
 liesBuilder:=by kernel_rfl
 t5:=l8
 a5:=BC
 z5:=zc
 v5:=th
 infoByte:=by kernel_rfl
 cellsByte:=by kernel_rfl
 sizeByte:=by kernel_rfl
 neB5:=by decide}
open Go.RowKit in
theorem Tryz.strings_Join_none(a:Option Addr)(c:Nat)(sep:ByteArray)(w:World):
  Calls aP 148 #[.slice a 0 c, .string sep] w fun e w'=>e= .returned (.string ⟨#[]⟩)∧w'=w:=Any.strings_Join_none Tryz.afD Tryz.za a c sep w
open Go.RowKit in
theorem Tryz.strings_Join(bk o c:Nat)(xs:List ByteArray)(sep:ByteArray)(w:World)(hcells: ∀(j:Nat) x,xs[j]? =some x→w.cell? ⟨bk,o+j,none⟩=some (.string x))(hbk:bk<w.heap.size)(hN:xs.length≤140737488355328)(hcap:xs.length≤c)(hlen:(Lib.join (xs.map (·.data.toList)) sep.data.toList).length≤140737488355328):
  Calls aP 148 #[.slice (some ⟨bk,o,none⟩) xs.length c, .string sep] w fun e w'=>e= .returned (.string ⟨(Lib.join (xs.map (·.data.toList)) sep.data.toList).toArray⟩)∧Below w.heap.size w w':=Any.strings_Join Tryz.afD Tryz.za bk o c xs sep w hcells hbk hN hcap hlen
open Go.RowKit in
def Tryz.Wj:vA:=⟨fun|171=>115|243=>198|246=>272|283=>333|284=>334|285=>335|286=>336|129=>376|317=>375|318=>377|319=>378|320=>379|337=>400|338=>401|n=>n,fun|3=>3|9=>9|2=>2|4=>4|171=>272|0=>0|53=>234|37=>24|5=>5|173=>275|212=>299|51=>213|20=>20|213=>300|46=>108|232=>308|233=>309|n=>n,fun|17=>5|18=>6|19=>7|n=>n⟩
theorem Tryz.anJ:Go.Proofs.LaysM.n171 aP Tryz.Wj:={
 mixed:=by kernel_rfl
 f129:=ZL.trans (congrArg some (by kernel_rfl))
 f171:=ZM.trans (congrArg some (by kernel_rfl))
 f243:=ZN.trans (congrArg some (by kernel_rfl))
 f246:=ZO.trans (congrArg some (by kernel_rfl))
 f283:=ZP.trans (congrArg some (by kernel_rfl))
 f284:=ZQ.trans (congrArg some (by kernel_rfl))
 f285:=ZR.trans (congrArg some (by kernel_rfl))
 f286:=ZS.trans (congrArg some (by kernel_rfl))
 f317:=ZT.trans (congrArg some (by kernel_rfl))
 f318:=ZU.trans (congrArg some (by kernel_rfl))
 f319:=ZV.trans (congrArg some (by kernel_rfl))
 f320:=ZW.trans (congrArg some (by kernel_rfl))
 f337:=ZX.trans (congrArg some (by kernel_rfl))
 f338:=ZY.trans (congrArg some (by kernel_rfl))
 t0:=nS
 a0:=yg
 z0:=vB
 v0:=pz
 t2:=B1
 a2:=acT
 z2:=ZZ
 v2:=QX
 t3:=kO
 a3:=yh
 z3:=vC
 v3:=pE
 t4:=l9
 a4:=BA
 z4:=y8
 v4:=s9
 t5:=l8
 a5:=BC
 z5:=zc
 v5:=th
 t9:=jN
 a9:=yj
 z9:=vD
 v9:=pF
 t20:=Ar
 a20:=MY
 z20:=JD
 v20:=Cf
 t37:=lz
 a37:=Ek
 z37:=BB
 v37:=vZ
 t46:=ox
 a46:=BD
 z46:=zy
 v46:=uB
 t51:=sJ
 a51:=JI
 z51:=Gp
 v51:=As
 t53:=sK
 a53:=Wk
 z53:=Sm
 v53:=LP
 t171:=JJ
 a171:=Wl
 z171:=Sn
 v171:=LQ
 t173:=JK
 a173:=Wm
 z173:=Sp
 v173:=LR
 t212:=ze
 a212:=Wn
 z212:=Sq
 v212:=LS
 t213:=JL
 a213:=Wo
 z213:=Sr
 t232:=JM
 a232:=Wp
 z232:=Ss
 v232:=LU
 t233:=JN
 a233:=Wq
 z233:=Su
 v233:=LV
 g17:=by kernel_rfl
 g18:=by kernel_rfl
 g19:=by kernel_rfl
 i0:=by kernel_rfl
 i2:=by kernel_rfl
 i3:=by kernel_rfl
 i4:=by kernel_rfl
 i5:=by kernel_rfl
 i9:=by kernel_rfl
 i20:=by kernel_rfl
 i37:=by kernel_rfl
 i46:=by kernel_rfl
 i51:=by kernel_rfl
 i53:=by kernel_rfl
 i171:=by kernel_rfl
 i173:=by kernel_rfl
 i212:=by kernel_rfl
 i232:=by kernel_rfl
 i233:=by kernel_rfl
 m17:=by kernel_rfl
 m18:=by kernel_rfl
 m19:=by kernel_rfl}
open Go.RowKit Go.Sort Go.Lib in
theorem Tryz.strconv_Itoa(n:Int)(h0: -9223372036854775808≤n)(h1:n≤9223372036854775807)(w:World)(htab:Lib.TabIs aP w "internal/strconv.uint64pow10" .u64 Lib.pow10Tab):
  Calls aP 115 #[.int .i64 n] w fun e w'=>e= .returned (.string ⟨(Lib.itoa n).toArray⟩)∧ ∃k os,w'=grow (w.drewN k) os:=Any.strconv_Itoa Tryz.anJ n h0 h1 w htab
def Tryz.JO:vA:=⟨fun|172=>68|244=>123|245=>124|247=>210|279=>211|280=>212|281=>213|282=>214|287=>279|316=>280|171=>115|205=>281|321=>343|322=>344|243=>198|246=>272|283=>333|284=>334|285=>335|286=>336|129=>376|317=>375|318=>377|319=>378|320=>379|337=>400|338=>401|n=>n,fun|9=>9|3=>3|75=>102|76=>103|4=>4|5=>5|167=>178|37=>24|0=>0|85=>179|2=>2|168=>181|53=>234|175=>235|46=>108|210=>238|127=>247|145=>282|143=>280|21=>21|171=>272|173=>275|212=>299|51=>213|20=>20|213=>300|232=>308|233=>309|80=>202|n=>n,fun|15=>3|16=>4|17=>5|18=>6|19=>7|n=>n⟩
theorem Tryz.Z0:Go.Proofs.LaysC.n172 aP Tryz.JO:={
 mixed:=by kernel_rfl
 f129:=ZL.trans (congrArg some (by kernel_rfl))
 f171:=ZM.trans (congrArg some (by kernel_rfl))
 f172:=Tryz.func68.trans (congrArg some (by kernel_rfl))
 f205:=Tryz.func281.trans (congrArg some (by kernel_rfl))
 f243:=ZN.trans (congrArg some (by kernel_rfl))
 f244:=Tryz.func123.trans (congrArg some (by kernel_rfl))
 f245:=Tryz.func124.trans (congrArg some (by kernel_rfl))
 f246:=ZO.trans (congrArg some (by kernel_rfl))
 f247:=Tryz.func210.trans (congrArg some (by kernel_rfl))
 f279:=Tryz.func211.trans (congrArg some (by kernel_rfl))
 f280:=Tryz.func212.trans (congrArg some (by kernel_rfl))
 f281:=Tryz.func213.trans (congrArg some (by kernel_rfl))
 f282:=Tryz.func214.trans (congrArg some (by kernel_rfl))
 f283:=ZP.trans (congrArg some (by kernel_rfl))
 f284:=ZQ.trans (congrArg some (by kernel_rfl))
 f285:=ZR.trans (congrArg some (by kernel_rfl))
 f286:=ZS.trans (congrArg some (by kernel_rfl))
 f287:=Tryz.func279.trans (congrArg some (by kernel_rfl))
 f316:=Tryz.func280.trans (congrArg some (by kernel_rfl))
 f317:=ZT.trans (congrArg some (by kernel_rfl))
 f318:=ZU.trans (congrArg some (by kernel_rfl))
 f319:=ZV.trans (congrArg some (by kernel_rfl))
 f320:=ZW.trans (congrArg some (by kernel_rfl))
 f321:=Tryz.func343.trans (congrArg some (by kernel_rfl))
 f322:=Tryz.func344.trans (congrArg some (by kernel_rfl))
 f337:=ZX.trans (congrArg some (by kernel_rfl))
 f338:=ZY.trans (congrArg some (by kernel_rfl))
 t0:=nS
 a0:=yg
 z0:=vB
 v0:=pz
 t2:=B1
 a2:=acT
 z2:=ZZ
 v2:=QX
 t3:=kO
 a3:=yh
 z3:=vC
 v3:=pE
 t4:=l9
 a4:=BA
 z4:=y8
 v4:=s9
 t5:=l8
 a5:=BC
 z5:=zc
 v5:=th
 t9:=jN
 a9:=yj
 z9:=vD
 v9:=pF
 t20:=Ar
 a20:=MY
 z20:=JD
 v20:=Cf
 t21:=zQ
 a21:=Z1
 z21:=Wr
 v21:=NI
 t37:=lz
 a37:=Ek
 z37:=BB
 v37:=vZ
 t46:=ox
 a46:=BD
 z46:=zy
 v46:=uB
 t51:=sJ
 a51:=JI
 z51:=Gp
 v51:=As
 t53:=sK
 a53:=Wk
 z53:=Sm
 v53:=LP
 t75:=td
 a75:=Wg
 z75:=Si
 v75:=LL
 t76:=JG
 a76:=Wh
 z76:=Sj
 v76:=LM
 t85:=Tryz.underlying179
 a85:=Tryz.isAgg179
 z85:=Tryz.sizeOf179
 v85:=Tryz.zeroValue179
 t127:=JH
 a127:=Wi
 z127:=Sk
 v127:=LN
 t143:=Tryz.underlying280
 a143:=Tryz.isAgg280
 z143:=Tryz.sizeOf280
 v143:=Tryz.zeroValue280
 t145:=Tryz.underlying282
 a145:=Tryz.isAgg282
 z145:=Tryz.sizeOf282
 v145:=Tryz.zeroValue282
 t167:=Tryz.underlying178
 a167:=Tryz.isAgg178
 z167:=Tryz.sizeOf178
 v167:=Tryz.zeroValue178
 t168:=Tryz.underlying181
 a168:=Tryz.isAgg181
 z168:=Tryz.sizeOf181
 v168:=Tryz.zeroValue181
 t171:=JJ
 a171:=Wl
 z171:=Sn
 v171:=LQ
 t173:=JK
 a173:=Wm
 z173:=Sp
 v173:=LR
 t175:=Tryz.underlying235
 a175:=Tryz.isAgg235
 z175:=Tryz.sizeOf235
 v175:=Tryz.zeroValue235
 t210:=Tryz.underlying238
 a210:=Tryz.isAgg238
 z210:=Tryz.sizeOf238
 v210:=Tryz.zeroValue238
 t212:=ze
 a212:=Wn
 z212:=Sq
 v212:=LS
 t213:=JL
 a213:=Wo
 z213:=Sr
 t232:=JM
 a232:=Wp
 z232:=Ss
 v232:=LU
 t233:=JN
 a233:=Wq
 z233:=Su
 v233:=LV
 g15:=by kernel_rfl
 g16:=by kernel_rfl
 g17:=by kernel_rfl
 g18:=by kernel_rfl
 g19:=by kernel_rfl
 t80:=Tryz.underlying202
 a80:=Tryz.isAgg202
 z80:=Tryz.sizeOf202
 v80:=Tryz.zeroValue202
 i0:=by kernel_rfl
 i2:=by kernel_rfl
 i3:=by kernel_rfl
 i4:=by kernel_rfl
 i5:=by kernel_rfl
 i9:=by kernel_rfl
 i20:=by kernel_rfl
 i21:=by kernel_rfl
 i37:=by kernel_rfl
 i46:=by kernel_rfl
 i51:=by kernel_rfl
 i53:=by kernel_rfl
 i75:=by kernel_rfl
 i76:=by kernel_rfl
 i80:=by kernel_rfl
 i85:=by kernel_rfl
 i127:=by kernel_rfl
 i143:=by kernel_rfl
 i145:=by kernel_rfl
 i167:=by kernel_rfl
 i168:=by kernel_rfl
 i171:=by kernel_rfl
 i173:=by kernel_rfl
 i175:=by kernel_rfl
 i210:=by kernel_rfl
 i212:=by kernel_rfl
 i232:=by kernel_rfl
 i233:=by kernel_rfl
 m15:=by kernel_rfl
 m16:=by kernel_rfl
 m17:=by kernel_rfl
 m18:=by kernel_rfl
 m19:=by kernel_rfl
 c0:=by kernel_rfl
 c2:=by kernel_rfl
 c3:=by kernel_rfl
 c4:=by kernel_rfl
 c5:=by kernel_rfl
 c9:=by kernel_rfl
 c20:=by kernel_rfl
 c21:=by kernel_rfl
 c37:=by kernel_rfl
 c46:=by kernel_rfl
 c51:=by kernel_rfl
 c53:=by kernel_rfl
 c75:=by kernel_rfl
 c76:=by kernel_rfl
 c80:=by kernel_rfl
 c85:=by kernel_rfl
 c127:=by kernel_rfl
 c143:=by kernel_rfl
 c145:=by kernel_rfl
 c167:=by kernel_rfl
 c168:=by kernel_rfl
 c171:=by kernel_rfl
 c173:=by kernel_rfl
 c175:=by kernel_rfl
 c210:=by kernel_rfl
 c212:=by kernel_rfl
 c213:=by kernel_rfl
 c232:=by kernel_rfl
 c233:=by kernel_rfl}
open Go.RowKit in
theorem Tryz.strconv_Atoi_err(s:ByteArray)(hl:s.size≤18)(h:Lib.atoi s.data.toList=none)(ev:Value)(w:World)(hv:w.cell? ⟨3,0,none⟩=some ev)(hev:ev= .nilIface∨ ∃te pe,ev= .iface te pe):
  Calls aP 68 #[.string s] w fun e w'=> ∃N,e= .returned (.tuple #[.int .i64 0, .iface 181 (.pointer (some ⟨N,0,none⟩))])∧w.heap.size≤N∧w'.heap[N]? =some (.cells #[.string ⟨#[65,116,111,105]⟩, .string s,ev] 238 (0,0))∧Below w.heap.size w w':=Any.strconv_Atoi_err Tryz.Z0 s hl h ev w hv hev
theorem Tryz.strconv_Atoi(s:ByteArray)(n:Int)(hl:s.size≤18)(h:Lib.atoi s.data.toList=some n)(w:World):
  Calls aP 68 #[.string s] w fun e w'=>e= .returned (.tuple #[.int .i64 n, .nilIface])∧ ∃t,w'=Lib.bytesWorld w 5 t:=Any.strconv_Atoi (ρ:=Tryz.JO) {Tryz.Z0 with} s n hl h w
def Tryz.Z2:vA:=⟨fun|146=>12|221=>26|268=>55|138=>56|143=>57|195=>105|197=>106|218=>107|219=>108|260=>179|217=>180|225=>181|224=>182|267=>183|266=>255|314=>256|n=>n,fun|9=>9|31=>29|3=>3|4=>4|0=>0|105=>129|21=>21|5=>5|46=>108|119=>209|139=>212|138=>211|146=>214|51=>213|n=>n,fun|1=>0|3=>1|4=>2|n=>n⟩
theorem Tryz.atu:Go.Proofs.Lays.n146 aP Tryz.Z2:={
 mixed:=by kernel_rfl
 f138:=Tryz.func56.trans (congrArg some (by kernel_rfl))
 f143:=Tryz.func57.trans (congrArg some (by kernel_rfl))
 f146:=Tryz.func12.trans (congrArg some (by kernel_rfl))
 f195:=Tryz.func105.trans (congrArg some (by kernel_rfl))
 f197:=Tryz.func106.trans (congrArg some (by kernel_rfl))
 f217:=Tryz.func180.trans (congrArg some (by kernel_rfl))
 f218:=Tryz.func107.trans (congrArg some (by kernel_rfl))
 f219:=Tryz.func108.trans (congrArg some (by kernel_rfl))
 f221:=Tryz.func26.trans (congrArg some (by kernel_rfl))
 f224:=Tryz.func182.trans (congrArg some (by kernel_rfl))
 f225:=Tryz.func181.trans (congrArg some (by kernel_rfl))
 f260:=Tryz.func179.trans (congrArg some (by kernel_rfl))
 f266:=Tryz.func255.trans (congrArg some (by kernel_rfl))
 f267:=Tryz.func183.trans (congrArg some (by kernel_rfl))
 f268:=Tryz.func55.trans (congrArg some (by kernel_rfl))
 f314:=Tryz.func256.trans (congrArg some (by kernel_rfl))
 t0:=nS
 a0:=yg
 z0:=vB
 v0:=pz
 t3:=kO
 a3:=yh
 z3:=vC
 v3:=pE
 t4:=l9
 a4:=BA
 z4:=y8
 v4:=s9
 t5:=l8
 a5:=BC
 z5:=zc
 v5:=th
 t9:=jN
 a9:=yj
 z9:=vD
 v9:=pF
 t21:=zQ
 a21:=Z1
 z21:=Wr
 v21:=NI
 t31:=ue
 a31:=MZ
 z31:=JE
 v31:=Cg
 t46:=ox
 a46:=BD
 z46:=zy
 v46:=uB
 t51:=sJ
 a51:=JI
 z51:=Gp
 v51:=As
 t105:=Tryz.underlying129
 a105:=Tryz.isAgg129
 z105:=Tryz.sizeOf129
 v105:=Tryz.zeroValue129
 t119:=Tryz.underlying209
 a119:=Tryz.isAgg209
 z119:=Tryz.sizeOf209
 t138:=Tryz.underlying211
 a138:=Tryz.isAgg211
 z138:=Tryz.sizeOf211
 v138:=Tryz.zeroValue211
 t139:=Tryz.underlying212
 a139:=Tryz.isAgg212
 z139:=Tryz.sizeOf212
 v139:=Tryz.zeroValue212
 t146:=Tryz.underlying214
 a146:=Tryz.isAgg214
 z146:=Tryz.sizeOf214
 v146:=Tryz.zeroValue214
 g1:=by kernel_rfl
 g3:=by kernel_rfl
 g4:=by kernel_rfl}
open Go.RowKit Go.Lib in
theorem Tryz.strings_Split(s sep:ByteArray)(m:Int)(w:World)(hs:s.size<4294967281)(hm:w.cell? ⟨0,0,none⟩=some (.int .i64 m))(h1:1≤sep.size):
  Calls aP 12 #[.string s, .string sep] w fun e w'=>
   e= .returned (.slice (some ⟨w.heap.size,0,none⟩) (Lib.countB s sep+1) (Lib.countB s sep+1))∧w'=w.alloc (.cells ((Lib.splitB sep 0 (Lib.countB s sep) s).map Value.string).toArray 9):=Any.strings_Split Tryz.atu (by kernel_rfl) s sep m w hs hm h1
def Tryz.Z3:vA:=⟨fun|109=>30|n=>n,fun|31=>29|9=>9|3=>3|0=>0|4=>4|n=>n,fun|n=>n⟩
theorem Tryz.atA:Go.Proofs.Lays.n109 aP Tryz.Z3:={
 mixed:=by kernel_rfl
 f109:=Tryz.func30.trans (congrArg some (by kernel_rfl))
 t0:=nS
 a0:=yg
 z0:=vB
 v0:=pz
 t3:=kO
 a3:=yh
 z3:=vC
 v3:=pE
 t4:=l9
 a4:=BA
 z4:=y8
 v4:=s9
 t9:=jN
 a9:=yj
 z9:=vD
 v9:=pF
 t31:=ue
 a31:=MZ
 z31:=JE
 v31:=Cg}
open Go.Lib in
theorem Tryz.slices_Index_string(b off n c:Nat)(zs:List ByteArray)(x:ByteArray)(w:World)(hz:n≤zs.length)(hbig:n≤9223372036854775807)(hc: ∀j,j<zs.length→w.cell? ⟨b,off+j,none⟩=some (.string (zs.getD j ByteArray.empty))):
  Calls aP 30 #[.slice (some ⟨b,off,none⟩) n c, .string x] w fun e w'=>e= .returned (.int .i64 (Lib.idxOfS (zs.take n) x))∧w'=w:=Any.slices_Index_string Tryz.atA b off n c zs x w hz hbig hc
open Go.Lib in
def Tryz.Sv:vA:=⟨fun|39=>147|41=>230|40=>231|n=>n,fun|30=>24|9=>9|3=>3|0=>0|5=>5|46=>108|n=>n,fun|n=>n⟩
theorem Tryz.aiO:Go.Proofs.Lays.ph39 aP Tryz.Sv:={
 mixed:=by kernel_rfl
 f39:=Tryz.func147.trans (congrArg some (by kernel_rfl))
 f40:=Tryz.func231.trans (congrArg some (by kernel_rfl))
 f41:=Tryz.func230.trans (congrArg some (by kernel_rfl))
 t0:=nS
 a0:=yg
 z0:=vB
 v0:=pz
 t3:=kO
 a3:=yh
 z3:=vC
 v3:=pE
 t5:=l8
 a5:=BC
 z5:=zc
 v5:=th
 t9:=jN
 a9:=yj
 z9:=vD
 v9:=pF
 t30:=lz
 a30:=Ek
 z30:=BB
 v30:=vZ
 t46:=ox
 a46:=BD
 z46:=zy
 v46:=uB
 info5:=by kernel_rfl}
open Go.RowKit Go.Lib in
theorem Tryz.hex_EncodeToString_bytes(bs os cs:Nat)(l:List UInt8)(w:World)(hsrc: ∀i (h:i<l.length),w.cell? ⟨bs,os+i,none⟩=some (.int .u8 ((l[i]'h).toNat:Int)))(hb:bs<w.heap.size)(hbig:2*l.length≤281474976710656):
  Calls aP 147 #[.slice (some ⟨bs,os,none⟩) l.length cs] w fun e w'=>e= .returned (.string ⟨(Hx.encode l).toArray⟩)∧Below w.heap.size w w':=Any.hex_EncodeToString_bytes Tryz.aiO bs os cs l w hsrc hb hbig
end Go.Proofs
