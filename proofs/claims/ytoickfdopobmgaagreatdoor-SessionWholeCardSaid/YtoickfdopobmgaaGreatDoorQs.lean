/- What the proof of the statement leans on (part 19). -/
import Derived.Shelf.Strings.Builder1
import Derived.Shelf.Strings.Builder2
import Derived.Shelf.Strings.OnBuilder
import Derived.Shelf.Strings.Trim
import Derived.Shelf.Small.Utf8
import Derived.Shelf.Small.Bits
import Derived.Shelf.Small.Strs
import Derived.Shelf.Small.Wraps
import Derived.Shelf.Strings.BuilderF
import Derived.Shelf.Strings.BuilderK
import Derived.Shelf.Strings.Builder2Cap
import Derived.Shelf.Strconv.Itoa0
import Derived.Shelf.Strconv.Itoa1
import Derived.Shelf.LaysM
import Derived.Shelf.Strconv.Itoa2
import Derived.Shelf.Strconv.Itoa3
import Derived.Shelf.Strconv.Itoa4
import Derived.Shelf.Strconv.ParseIntEmpty
import Derived.Shelf.Strconv.Clone
import Derived.Shelf.Strconv.SyntaxError
import Derived.Shelf.LaysC
import Derived.Shelf.Strconv.ToError
import Derived.Shelf.Strconv.Lower
import Derived.Shelf.Strconv.ParseUint10
import Derived.Shelf.Strconv.ParseUint10Empty
import Derived.Shelf.Strconv.ParseUint10Any
import Derived.Shelf.Strconv.ParseInt10
import Derived.Shelf.Strconv.RangeError
import Derived.Shelf.Strconv.ToErrorRange
import Derived.Shelf.Strconv.ParseUintEmpty
import Derived.Shelf.Strconv.ParseUint10b64
import Derived.Shelf.Strconv.ParseUint10b32
import Derived.Shelf.Strconv.ParseUint10b16
import Derived.Shelf.Strconv.ParseUint10b8
import Derived.Shelf.Strconv.ParseUint10At
import Derived.Shelf.Strconv.ParseInt10At64
import Derived.Shelf.Strconv.ParseInt10At32
import Derived.Shelf.Strconv.ParseInt10At16
import Derived.Shelf.Strconv.ParseInt10At8
import Derived.Shelf.Strconv.ParseInt10All
import Derived.Shelf.Strconv.ParseIntPublic10
import Derived.Shelf.Strconv.ErrVarParseInt
import Derived.Shelf.Strings.Search1
import Derived.Shelf.Strings.Search2
import Derived.Shelf.Strings.Search3
import Derived.Shelf.Strings.Shaped
import Derived.Shelf.Sort.Plain
import Derived.Shelf.Strings.Prefix
import Derived.Shelf.Unicode.Decode
import Derived.Shelf.Strings.Runes
import Derived.Shelf.Strings.AsciiSet
import Derived.Shelf.Unicode.DecodeSlow
import Derived.Shelf.Unicode.DecodeAny
import Derived.Shelf.Slices.Turned
import Derived.Shelf.Slices.In.SortNone
import Derived.Ground.SlgnProg
import Derived.Shelf.SlicesG.SearchI
import Derived.Test.YtoickfdopobmgaaGreatDoorProg
import Derived.Test.YtoickfdopobmgaaGreatDoorQr

namespace Go.Proofs
open Go.Shelf
def Tryz.CI:Go.Shelf.Ren:=⟨fun| 137=>210| 217=>189| 266=>200|n=>n,fun| 9=>9| 5=>5| 3=>3|n=>n,fun|n=>n⟩
theorem Tryz.KX:Go.Proofs.Lays.n137 Tryz.prog Tryz.CI:= {
  mixed:=by kernel_rfl
  f137:=Tryz.func210.trans (congrArg some (by kernel_rfl))
  f217:=Tryz.func189.trans (congrArg some (by kernel_rfl))
  f266:=Tryz.func200.trans (congrArg some (by kernel_rfl))
  t3:=Tryz.underlying3
  a3:=Tryz.isAgg3
  z3:=Tryz.sizeOf3
  v3:=Tryz.zeroValue3
  t5:=Tryz.underlying5
  a5:=Tryz.isAgg5
  z5:=Tryz.sizeOf5
  v5:=Tryz.zeroValue5
  t9:=Tryz.underlying9
  a9:=Tryz.isAgg9
  z9:=Tryz.sizeOf9
  v9:=Tryz.zeroValue9 }
def Tryz.CL:Go.Shelf.Ren:=⟨fun| 103=>177| 210=>195| 206=>207|n=>n,fun| 9=>9| 4=>4| 24=>97| 3=>3|n=>n,fun|n=>n⟩
theorem Tryz.K0:Go.Proofs.Lays.n103 Tryz.prog Tryz.CL:= {
  mixed:=by kernel_rfl
  f103:=Tryz.func177.trans (congrArg some (by kernel_rfl))
  f206:=Tryz.func207.trans (congrArg some (by kernel_rfl))
  f210:=Tryz.func195.trans (congrArg some (by kernel_rfl))
  t3:=Tryz.underlying3
  a3:=Tryz.isAgg3
  z3:=Tryz.sizeOf3
  v3:=Tryz.zeroValue3
  t4:=Tryz.underlying4
  a4:=Tryz.isAgg4
  z4:=Tryz.sizeOf4
  v4:=Tryz.zeroValue4
  t9:=Tryz.underlying9
  a9:=Tryz.isAgg9
  z9:=Tryz.sizeOf9
  v9:=Tryz.zeroValue9
  t24:=Tryz.underlying97
  a24:=Tryz.isAgg97
  z24:=Tryz.sizeOf97
  v24:=Tryz.zeroValue97 }
def Tryz.AQ:Go.Shelf.Ren:=⟨fun| 171=>40| 243=>75| 246=>61| 283=>107| 284=>108| 285=>109| 286=>110| 129=>98| 317=>147| 318=>148| 319=>149| 320=>150| 337=>172| 338=>173|n=>n,fun| 3=>3| 9=>9| 2=>2| 4=>4| 171=>198| 0=>0| 53=>122| 37=>53| 5=>5| 173=>200| 212=>236| 51=>183| 20=>20| 213=>237| 46=>117| 232=>269| 233=>270|n=>n,fun| 17=>2| 18=>11| 19=>12|n=>n⟩
theorem Tryz.Jf:Go.Proofs.LaysM.n171 Tryz.prog Tryz.AQ:= {
  mixed:=by kernel_rfl
  f129:=Tryz.func98.trans (congrArg some (by kernel_rfl))
  f171:=Tryz.func40.trans (congrArg some (by kernel_rfl))
  f243:=Tryz.func75.trans (congrArg some (by kernel_rfl))
  f246:=Tryz.func61.trans (congrArg some (by kernel_rfl))
  f283:=Tryz.func107.trans (congrArg some (by kernel_rfl))
  f284:=Tryz.func108.trans (congrArg some (by kernel_rfl))
  f285:=Tryz.func109.trans (congrArg some (by kernel_rfl))
  f286:=Tryz.func110.trans (congrArg some (by kernel_rfl))
  f317:=Tryz.func147.trans (congrArg some (by kernel_rfl))
  f318:=Tryz.func148.trans (congrArg some (by kernel_rfl))
  f319:=Tryz.func149.trans (congrArg some (by kernel_rfl))
  f320:=Tryz.func150.trans (congrArg some (by kernel_rfl))
  f337:=Tryz.func172.trans (congrArg some (by kernel_rfl))
  f338:=Tryz.func173.trans (congrArg some (by kernel_rfl))
  t0:=Tryz.underlying0
  a0:=Tryz.isAgg0
  z0:=Tryz.sizeOf0
  v0:=Tryz.zeroValue0
  t2:=Tryz.underlying2
  a2:=Tryz.isAgg2
  z2:=Tryz.sizeOf2
  v2:=Tryz.zeroValue2
  t3:=Tryz.underlying3
  a3:=Tryz.isAgg3
  z3:=Tryz.sizeOf3
  v3:=Tryz.zeroValue3
  t4:=Tryz.underlying4
  a4:=Tryz.isAgg4
  z4:=Tryz.sizeOf4
  v4:=Tryz.zeroValue4
  t5:=Tryz.underlying5
  a5:=Tryz.isAgg5
  z5:=Tryz.sizeOf5
  v5:=Tryz.zeroValue5
  t9:=Tryz.underlying9
  a9:=Tryz.isAgg9
  z9:=Tryz.sizeOf9
  v9:=Tryz.zeroValue9
  t20:=Tryz.underlying20
  a20:=Tryz.isAgg20
  z20:=Tryz.sizeOf20
  v20:=Tryz.zeroValue20
  t37:=Tryz.underlying53
  a37:=Tryz.isAgg53
  z37:=Tryz.sizeOf53
  v37:=Tryz.zeroValue53
  t46:=Tryz.underlying117
  a46:=Tryz.isAgg117
  z46:=Tryz.sizeOf117
  v46:=Tryz.zeroValue117
  t51:=Tryz.underlying183
  a51:=Tryz.isAgg183
  z51:=Tryz.sizeOf183
  v51:=Tryz.zeroValue183
  t53:=Tryz.underlying122
  a53:=Tryz.isAgg122
  z53:=Tryz.sizeOf122
  v53:=Tryz.zeroValue122
  t171:=Tryz.underlying198
  a171:=Tryz.isAgg198
  z171:=Tryz.sizeOf198
  v171:=Tryz.zeroValue198
  t173:=Tryz.underlying200
  a173:=Tryz.isAgg200
  z173:=Tryz.sizeOf200
  v173:=Tryz.zeroValue200
  t212:=Tryz.underlying236
  a212:=Tryz.isAgg236
  z212:=Tryz.sizeOf236
  v212:=Tryz.zeroValue236
  t213:=Tryz.underlying237
  a213:=Tryz.isAgg237
  z213:=Tryz.sizeOf237
  t232:=Tryz.underlying269
  a232:=Tryz.isAgg269
  z232:=Tryz.sizeOf269
  v232:=Tryz.zeroValue269
  t233:=Tryz.underlying270
  a233:=Tryz.isAgg270
  z233:=Tryz.sizeOf270
  v233:=Tryz.zeroValue270
  g17:=by kernel_rfl
  g18:=by kernel_rfl
  g19:=by kernel_rfl
  i0:=by kernel_rfl
  i2:=by kernel_rfl
  i3:=by kernel_rfl
  i4:=by kernel_rfl
  i5:=by kernel_rfl
  i9:=by kernel_rfl
  i20:=by kernel_rfl
  i37:=by kernel_rfl
  i46:=by kernel_rfl
  i51:=by kernel_rfl
  i53:=by kernel_rfl
  i171:=by kernel_rfl
  i173:=by kernel_rfl
  i212:=by kernel_rfl
  i232:=by kernel_rfl
  i233:=by kernel_rfl
  m17:=by kernel_rfl
  m18:=by kernel_rfl
  m19:=by kernel_rfl }
def Tryz.CH:Go.Shelf.Ren:=⟨fun| 144=>116| 143=>154| 219=>174| 217=>189| 225=>190| 224=>191| 267=>192| 266=>200| 314=>201|n=>n,fun| 9=>9| 4=>4| 3=>3| 5=>5| 46=>117| 146=>279| 51=>183|n=>n,fun| 1=>5|n=>n⟩
theorem Tryz.KW:Go.Proofs.Lays.n144 Tryz.prog Tryz.CH:= {
  mixed:=by kernel_rfl
  f143:=Tryz.func154.trans (congrArg some (by kernel_rfl))
  f144:=Tryz.func116.trans (congrArg some (by kernel_rfl))
  f217:=Tryz.func189.trans (congrArg some (by kernel_rfl))
  f219:=Tryz.func174.trans (congrArg some (by kernel_rfl))
  f224:=Tryz.func191.trans (congrArg some (by kernel_rfl))
  f225:=Tryz.func190.trans (congrArg some (by kernel_rfl))
  f266:=Tryz.func200.trans (congrArg some (by kernel_rfl))
  f267:=Tryz.func192.trans (congrArg some (by kernel_rfl))
  f314:=Tryz.func201.trans (congrArg some (by kernel_rfl))
  t3:=Tryz.underlying3
  a3:=Tryz.isAgg3
  z3:=Tryz.sizeOf3
  v3:=Tryz.zeroValue3
  t4:=Tryz.underlying4
  a4:=Tryz.isAgg4
  z4:=Tryz.sizeOf4
  v4:=Tryz.zeroValue4
  t5:=Tryz.underlying5
  a5:=Tryz.isAgg5
  z5:=Tryz.sizeOf5
  v5:=Tryz.zeroValue5
  t9:=Tryz.underlying9
  a9:=Tryz.isAgg9
  z9:=Tryz.sizeOf9
  v9:=Tryz.zeroValue9
  t46:=Tryz.underlying117
  a46:=Tryz.isAgg117
  z46:=Tryz.sizeOf117
  v46:=Tryz.zeroValue117
  t51:=Tryz.underlying183
  a51:=Tryz.isAgg183
  z51:=Tryz.sizeOf183
  v51:=Tryz.zeroValue183
  t146:=Tryz.underlying279
  a146:=Tryz.isAgg279
  z146:=Tryz.sizeOf279
  v146:=Tryz.zeroValue279
  g1:=by kernel_rfl }
def Tryz.AR:Go.Shelf.Ren:=⟨fun| 144=>116| 143=>154| 219=>174| 217=>189| 225=>190| 224=>191| 267=>192| 266=>200| 314=>201|n=>n,fun| 9=>9| 4=>4| 3=>3| 5=>5| 46=>117| 146=>279| 51=>183|n=>n,fun| 1=>5|n=>n⟩
theorem Tryz.Jg:Go.Proofs.LaysM.n144 Tryz.prog Tryz.AR:= {
  mixed:=by kernel_rfl
  f143:=Tryz.func154.trans (congrArg some (by kernel_rfl))
  f144:=Tryz.func116.trans (congrArg some (by kernel_rfl))
  f217:=Tryz.func189.trans (congrArg some (by kernel_rfl))
  f219:=Tryz.func174.trans (congrArg some (by kernel_rfl))
  f224:=Tryz.func191.trans (congrArg some (by kernel_rfl))
  f225:=Tryz.func190.trans (congrArg some (by kernel_rfl))
  f266:=Tryz.func200.trans (congrArg some (by kernel_rfl))
  f267:=Tryz.func192.trans (congrArg some (by kernel_rfl))
  f314:=Tryz.func201.trans (congrArg some (by kernel_rfl))
  t3:=Tryz.underlying3
  a3:=Tryz.isAgg3
  z3:=Tryz.sizeOf3
  v3:=Tryz.zeroValue3
  t4:=Tryz.underlying4
  a4:=Tryz.isAgg4
  z4:=Tryz.sizeOf4
  v4:=Tryz.zeroValue4
  t5:=Tryz.underlying5
  a5:=Tryz.isAgg5
  z5:=Tryz.sizeOf5
  v5:=Tryz.zeroValue5
  t9:=Tryz.underlying9
  a9:=Tryz.isAgg9
  z9:=Tryz.sizeOf9
  v9:=Tryz.zeroValue9
  t46:=Tryz.underlying117
  a46:=Tryz.isAgg117
  z46:=Tryz.sizeOf117
  v46:=Tryz.zeroValue117
  t51:=Tryz.underlying183
  a51:=Tryz.isAgg183
  z51:=Tryz.sizeOf183
  v51:=Tryz.zeroValue183
  t146:=Tryz.underlying279
  a146:=Tryz.isAgg279
  z146:=Tryz.sizeOf279
  v146:=Tryz.zeroValue279
  g1:=by kernel_rfl
  i3:=by kernel_rfl
  i4:=by kernel_rfl
  i5:=by kernel_rfl
  i9:=by kernel_rfl
  i46:=by kernel_rfl
  i51:=by kernel_rfl
  i146:=by kernel_rfl
  m1:=by kernel_rfl
  s1_3:=fun w h=>Go.Proofs.cell_of_shapedOpen_int (zero:= #[.int .i64 0]) (t:=3) h (of_decide_eq_true (by kernel_rfl)) (by kernel_rfl) rfl (by kernel_rfl) (by kernel_rfl) Tryz.underlying3 }
def Tryz.CG:Go.Shelf.Ren:=⟨fun| 190=>25| 125=>49| 258=>48| 128=>97| 129=>98| 302=>88| 303=>89| 304=>90| 305=>91| 306=>92| 307=>93| 308=>94| 309=>95| 310=>96| 333=>137| 329=>138| 330=>139| 334=>140| 335=>141| 336=>142| 344=>170|n=>n,fun| 31=>22| 9=>9| 3=>3| 46=>117| 0=>0| 51=>183| 53=>122| 4=>4| 183=>176| 182=>175| 131=>149| 5=>5| 218=>225| 222=>229| 228=>254| 229=>244|n=>n,fun|n=>n⟩
theorem Tryz.FB:Go.Proofs.Lays.n190 Tryz.prog Tryz.CG:= {
  mixed:=by kernel_rfl
  f125:=Tryz.func49.trans (congrArg some (by kernel_rfl))
  f128:=Tryz.func97.trans (congrArg some (by kernel_rfl))
  f129:=Tryz.func98.trans (congrArg some (by kernel_rfl))
  f190:=Tryz.func25.trans (congrArg some (by kernel_rfl))
  f258:=Tryz.func48.trans (congrArg some (by kernel_rfl))
  f302:=Tryz.func88.trans (congrArg some (by kernel_rfl))
  f303:=Tryz.func89.trans (congrArg some (by kernel_rfl))
  f304:=Tryz.func90.trans (congrArg some (by kernel_rfl))
  f305:=Tryz.func91.trans (congrArg some (by kernel_rfl))
  f306:=Tryz.func92.trans (congrArg some (by kernel_rfl))
  f307:=Tryz.func93.trans (congrArg some (by kernel_rfl))
  f308:=Tryz.func94.trans (congrArg some (by kernel_rfl))
  f309:=Tryz.func95.trans (congrArg some (by kernel_rfl))
  f310:=Tryz.func96.trans (congrArg some (by kernel_rfl))
  f329:=Tryz.func138.trans (congrArg some (by kernel_rfl))
  f330:=Tryz.func139.trans (congrArg some (by kernel_rfl))
  f333:=Tryz.func137.trans (congrArg some (by kernel_rfl))
  f334:=Tryz.func140.trans (congrArg some (by kernel_rfl))
  f335:=Tryz.func141.trans (congrArg some (by kernel_rfl))
  f336:=Tryz.func142.trans (congrArg some (by kernel_rfl))
  f344:=Tryz.func170.trans (congrArg some (by kernel_rfl))
  t0:=Tryz.underlying0
  a0:=Tryz.isAgg0
  z0:=Tryz.sizeOf0
  v0:=Tryz.zeroValue0
  t3:=Tryz.underlying3
  a3:=Tryz.isAgg3
  z3:=Tryz.sizeOf3
  v3:=Tryz.zeroValue3
  t4:=Tryz.underlying4
  a4:=Tryz.isAgg4
  z4:=Tryz.sizeOf4
  v4:=Tryz.zeroValue4
  t5:=Tryz.underlying5
  a5:=Tryz.isAgg5
  z5:=Tryz.sizeOf5
  v5:=Tryz.zeroValue5
  t9:=Tryz.underlying9
  a9:=Tryz.isAgg9
  z9:=Tryz.sizeOf9
  v9:=Tryz.zeroValue9
  t31:=Tryz.underlying22
  a31:=Tryz.isAgg22
  z31:=Tryz.sizeOf22
  v31:=Tryz.zeroValue22
  t46:=Tryz.underlying117
  a46:=Tryz.isAgg117
  z46:=Tryz.sizeOf117
  v46:=Tryz.zeroValue117
  t51:=Tryz.underlying183
  a51:=Tryz.isAgg183
  z51:=Tryz.sizeOf183
  v51:=Tryz.zeroValue183
  t53:=Tryz.underlying122
  a53:=Tryz.isAgg122
  z53:=Tryz.sizeOf122
  v53:=Tryz.zeroValue122
  t131:=Tryz.underlying149
  a131:=Tryz.isAgg149
  z131:=Tryz.sizeOf149
  v131:=Tryz.zeroValue149
  t182:=Tryz.underlying175
  a182:=Tryz.isAgg175
  z182:=Tryz.sizeOf175
  v182:=Tryz.zeroValue175
  t183:=Tryz.underlying176
  a183:=Tryz.isAgg176
  z183:=Tryz.sizeOf176
  v183:=Tryz.zeroValue176
  t218:=Tryz.underlying225
  a218:=Tryz.isAgg225
  z218:=Tryz.sizeOf225
  v218:=Tryz.zeroValue225
  t222:=Tryz.underlying229
  a222:=Tryz.isAgg229
  z222:=Tryz.sizeOf229
  v222:=Tryz.zeroValue229
  t228:=Tryz.underlying254
  a228:=Tryz.isAgg254
  z228:=Tryz.sizeOf254
  v228:=Tryz.zeroValue254
  t229:=Tryz.underlying244
  a229:=Tryz.isAgg244
  z229:=Tryz.sizeOf244
  v229:=Tryz.zeroValue244 }
def Tryz.CF:Go.Shelf.Ren:=⟨fun| 197=>114| 260=>153|n=>n,fun| 9=>9| 21=>21| 3=>3| 4=>4| 5=>5| 105=>203| 119=>256| 0=>0| 46=>117| 139=>259| 138=>258|n=>n,fun| 3=>6| 4=>7|n=>n⟩
theorem Tryz.KV:Go.Proofs.Lays.n197 Tryz.prog Tryz.CF:= {
  mixed:=by kernel_rfl
  f197:=Tryz.func114.trans (congrArg some (by kernel_rfl))
  f260:=Tryz.func153.trans (congrArg some (by kernel_rfl))
  t0:=Tryz.underlying0
  a0:=Tryz.isAgg0
  z0:=Tryz.sizeOf0
  v0:=Tryz.zeroValue0
  t3:=Tryz.underlying3
  a3:=Tryz.isAgg3
  z3:=Tryz.sizeOf3
  v3:=Tryz.zeroValue3
  t4:=Tryz.underlying4
  a4:=Tryz.isAgg4
  z4:=Tryz.sizeOf4
  v4:=Tryz.zeroValue4
  t5:=Tryz.underlying5
  a5:=Tryz.isAgg5
  z5:=Tryz.sizeOf5
  v5:=Tryz.zeroValue5
  t9:=Tryz.underlying9
  a9:=Tryz.isAgg9
  z9:=Tryz.sizeOf9
  v9:=Tryz.zeroValue9
  t21:=Tryz.underlying21
  a21:=Tryz.isAgg21
  z21:=Tryz.sizeOf21
  v21:=Tryz.zeroValue21
  t46:=Tryz.underlying117
  a46:=Tryz.isAgg117
  z46:=Tryz.sizeOf117
  v46:=Tryz.zeroValue117
  t105:=Tryz.underlying203
  a105:=Tryz.isAgg203
  z105:=Tryz.sizeOf203
  v105:=Tryz.zeroValue203
  t119:=Tryz.underlying256
  a119:=Tryz.isAgg256
  z119:=Tryz.sizeOf256
  t138:=Tryz.underlying258
  a138:=Tryz.isAgg258
  z138:=Tryz.sizeOf258
  v138:=Tryz.zeroValue258
  t139:=Tryz.underlying259
  a139:=Tryz.isAgg259
  z139:=Tryz.sizeOf259
  v139:=Tryz.zeroValue259
  g3:=by kernel_rfl
  g4:=by kernel_rfl }
open Go.RowKit in
theorem Tryz.strings_IndexByte (s:ByteArray) (c:Int) (w:World) :
    Calls Tryz.prog 210 #[.string s,.int .u8 c] w fun e w'=>e= .returned (.int .i64 (Lib.indexByte s.data.toList c.toNat.toUInt8))/\w'=w:=Any.strings_IndexByte Tryz.KX s c w
open Go.RowKit in
theorem Tryz.strings_CutPrefix (s p:ByteArray) (w:World) :
    Calls Tryz.prog 177 #[.string s,.string p] w fun e w'=>e= .returned (.tuple #[.string ⟨(Lib.trimPrefix s.data.toList p.data.toList).toArray⟩,.bool (Lib.hasPrefix s.data.toList p.data.toList)])/\w'=w:=Any.strings_CutPrefix Tryz.K0 s p w
open Go.RowKit Go.Sort Go.Lib in
theorem Tryz.strconv_Itoa (n:Int) (h0 : -9223372036854775808<=n) (h1:n<=9223372036854775807) (w:World) (htab:Lib.TabIs Tryz.prog w "internal/strconv.uint64pow10" .u64 Lib.pow10Tab) :
    Calls Tryz.prog 40 #[.int .i64 n] w fun e w'=>e= .returned (.string ⟨(Lib.itoa n).toArray⟩)/\∃k os,w'=grow (w.drewN k) os:=Any.strconv_Itoa Tryz.Jf n h0 h1 w htab
open Go.RowKit Go.Lib in
theorem Tryz.strings_Contains (s sub:ByteArray) (m:Int) (w:World) (hs:s.size<4294967281) (hm:w.cell? ⟨5,0,none⟩=some (.int .i64 m)) :
    Calls Tryz.prog 116 #[.string s,.string sub] w fun e w'=>e= .returned (.bool (Lib.contains s.data.toList sub.data.toList))/\w'=w:=Any.strings_Contains Tryz.KW s sub m w hs hm
open Go.RowKit Go.Lib in
theorem Tryz.strings_Contains_shaped (s sub:ByteArray) (w:World) (h:w.ShapedOpen Tryz.prog) (hs:s.size<4294967281) :
    Calls Tryz.prog 116 #[.string s,.string sub] w fun e w'=>e= .returned (.bool (Lib.contains s.data.toList sub.data.toList))/\w'=w:=Any.strings_Contains_shaped Tryz.Jg s sub w h hs
open Go.Sort Go.RowKit in
theorem Tryz.slices_Sort_string (blk off cap:Nat) (ss:List (List UInt8)) (w:World) (hH:Holds encStr w blk off ss.toArray) (hblk:blk<w.heap.size) (hsz:ss.length<4611686018427387904) :
    Calls Tryz.prog 25 #[.slice (some ⟨blk,off,none⟩) ss.length cap] w fun e w' =>
      e= .returned (.tuple #[])/\∃n os,w'=grow (putRow encStr (Sort.ahead w n) blk off (ss.mergeSort fun x y=>decide (x<=y)).toArray) os:=Any.slices_Sort_string Tryz.FB blk off cap ss w hH hblk hsz
open Go.RowKit Go.Lib in
theorem Tryz.utf8_DecodeRuneInString (s:ByteArray) (w:World) (hT:Lib.Utf8Tabs 6 7 w) :
    Calls Tryz.prog 114 #[.string s] w fun e w'=>e= .returned (.tuple #[.int .i32 (Lib.decodeGo s).1,.int .i64 (Lib.decodeGo s).2])/\Below w.heap.size w w':=Any.utf8_DecodeRuneInString Tryz.KV s w hT
open Go.RowKit Go.Sort in
theorem Tryz.slices_Sort_string_none (p:Option Addr) (cap:Nat) (w:World) :
    Calls Tryz.prog 25 #[.slice p 0 cap] w fun e w'=>e= .returned (.tuple #[])/\w'=w:=Any.slices_Sort_string_none Tryz.FB p cap w
end Go.Proofs
