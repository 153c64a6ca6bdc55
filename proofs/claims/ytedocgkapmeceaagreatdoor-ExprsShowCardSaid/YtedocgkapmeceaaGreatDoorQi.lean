/- What the proof of the statement leans on (part 9). -/
import Derived.Shelf.Small.Utf8
import Derived.Shelf.Small.Strs
import Derived.Shelf.Small.Wraps
import Derived.Shelf.Strconv.Itoa0
import Derived.Shelf.Strconv.Itoa1
import Derived.Shelf.LaysM
import Derived.Shelf.Strconv.Itoa2
import Derived.Shelf.Strconv.Itoa3
import Derived.Shelf.Strings.Search1
import Derived.Shelf.Strings.Search2
import Derived.Shelf.Strings.Search3
import Derived.Shelf.Strings.Shaped
import Derived.Shelf.Strings.Prefix
import Derived.Shelf.Strings.Runes
import Derived.Shelf.Strings.AsciiSet
import Derived.Shelf.Unicode.DecodeSlow
import Derived.Shelf.Unicode.DecodeAny
import Derived.Shelf.Slices.Turned
import Derived.Test.YtedocgkapmeceaaGreatDoorProg
import Derived.Test.YtedocgkapmeceaaGreatDoorQh

namespace Go.Proofs
open Go.Shelf
def Tryz.AS:Go.Shelf.Ren:=⟨fun| 137=>208| 217=>181| 266=>200|n=>n,fun| 9=>9| 5=>5| 3=>3|n=>n,fun|n=>n⟩
theorem Tryz.Hs:Go.Proofs.Lays.n137 Tryz.prog Tryz.AS:= {
  mixed:=by kernel_rfl
  f137:=Tryz.func208.trans (congrArg some (by kernel_rfl))
  f217:=Tryz.func181.trans (congrArg some (by kernel_rfl))
  f266:=Tryz.func200.trans (congrArg some (by kernel_rfl))
  t3:=Tryz.underlying3
  a3:=Tryz.isAgg3
  z3:=Tryz.sizeOf3
  v3:=Tryz.zeroValue3
  t5:=Tryz.underlying5
  a5:=Tryz.isAgg5
  z5:=Tryz.sizeOf5
  v5:=Tryz.zeroValue5
  t9:=Tryz.underlying9
  a9:=Tryz.isAgg9
  z9:=Tryz.sizeOf9
  v9:=Tryz.zeroValue9 }
def Tryz.AT:Go.Shelf.Ren:=⟨fun| 103=>137| 210=>157| 206=>173|n=>n,fun| 9=>9| 4=>4| 24=>71| 3=>3|n=>n,fun|n=>n⟩
theorem Tryz.Ht:Go.Proofs.Lays.n103 Tryz.prog Tryz.AT:= {
  mixed:=by kernel_rfl
  f103:=Tryz.func137.trans (congrArg some (by kernel_rfl))
  f206:=Tryz.func173.trans (congrArg some (by kernel_rfl))
  f210:=Tryz.func157.trans (congrArg some (by kernel_rfl))
  t3:=Tryz.underlying3
  a3:=Tryz.isAgg3
  z3:=Tryz.sizeOf3
  v3:=Tryz.zeroValue3
  t4:=Tryz.underlying4
  a4:=Tryz.isAgg4
  z4:=Tryz.sizeOf4
  v4:=Tryz.zeroValue4
  t9:=Tryz.underlying9
  a9:=Tryz.isAgg9
  z9:=Tryz.sizeOf9
  v9:=Tryz.zeroValue9
  t24:=Tryz.underlying71
  a24:=Tryz.isAgg71
  z24:=Tryz.sizeOf71
  v24:=Tryz.zeroValue71 }
def Tryz.yD:Go.Shelf.Ren:=⟨fun| 171=>115| 243=>146| 246=>161| 283=>177| 284=>178| 285=>179| 286=>180| 129=>196| 317=>195| 318=>197| 319=>198| 320=>199| 337=>209| 338=>210|n=>n,fun| 3=>3| 9=>9| 2=>2| 4=>4| 171=>261| 0=>0| 53=>122| 37=>56| 5=>5| 173=>264| 212=>275| 51=>276| 20=>20| 213=>277| 46=>245| 232=>286| 233=>287|n=>n,fun| 17=>8| 18=>9| 19=>10|n=>n⟩
theorem Tryz.FV:Go.Proofs.LaysM.n171 Tryz.prog Tryz.yD:= {
  mixed:=by kernel_rfl
  f129:=Tryz.func196.trans (congrArg some (by kernel_rfl))
  f171:=Tryz.func115.trans (congrArg some (by kernel_rfl))
  f243:=Tryz.func146.trans (congrArg some (by kernel_rfl))
  f246:=Tryz.func161.trans (congrArg some (by kernel_rfl))
  f283:=Tryz.func177.trans (congrArg some (by kernel_rfl))
  f284:=Tryz.func178.trans (congrArg some (by kernel_rfl))
  f285:=Tryz.func179.trans (congrArg some (by kernel_rfl))
  f286:=Tryz.func180.trans (congrArg some (by kernel_rfl))
  f317:=Tryz.func195.trans (congrArg some (by kernel_rfl))
  f318:=Tryz.func197.trans (congrArg some (by kernel_rfl))
  f319:=Tryz.func198.trans (congrArg some (by kernel_rfl))
  f320:=Tryz.func199.trans (congrArg some (by kernel_rfl))
  f337:=Tryz.func209.trans (congrArg some (by kernel_rfl))
  f338:=Tryz.func210.trans (congrArg some (by kernel_rfl))
  t0:=Tryz.underlying0
  a0:=Tryz.isAgg0
  z0:=Tryz.sizeOf0
  v0:=Tryz.zeroValue0
  t2:=Tryz.underlying2
  a2:=Tryz.isAgg2
  z2:=Tryz.sizeOf2
  v2:=Tryz.zeroValue2
  t3:=Tryz.underlying3
  a3:=Tryz.isAgg3
  z3:=Tryz.sizeOf3
  v3:=Tryz.zeroValue3
  t4:=Tryz.underlying4
  a4:=Tryz.isAgg4
  z4:=Tryz.sizeOf4
  v4:=Tryz.zeroValue4
  t5:=Tryz.underlying5
  a5:=Tryz.isAgg5
  z5:=Tryz.sizeOf5
  v5:=Tryz.zeroValue5
  t9:=Tryz.underlying9
  a9:=Tryz.isAgg9
  z9:=Tryz.sizeOf9
  v9:=Tryz.zeroValue9
  t20:=Tryz.underlying20
  a20:=Tryz.isAgg20
  z20:=Tryz.sizeOf20
  v20:=Tryz.zeroValue20
  t37:=Tryz.underlying56
  a37:=Tryz.isAgg56
  z37:=Tryz.sizeOf56
  v37:=Tryz.zeroValue56
  t46:=Tryz.underlying245
  a46:=Tryz.isAgg245
  z46:=Tryz.sizeOf245
  v46:=Tryz.zeroValue245
  t51:=Tryz.underlying276
  a51:=Tryz.isAgg276
  z51:=Tryz.sizeOf276
  v51:=Tryz.zeroValue276
  t53:=Tryz.underlying122
  a53:=Tryz.isAgg122
  z53:=Tryz.sizeOf122
  v53:=Tryz.zeroValue122
  t171:=Tryz.underlying261
  a171:=Tryz.isAgg261
  z171:=Tryz.sizeOf261
  v171:=Tryz.zeroValue261
  t173:=Tryz.underlying264
  a173:=Tryz.isAgg264
  z173:=Tryz.sizeOf264
  v173:=Tryz.zeroValue264
  t212:=Tryz.underlying275
  a212:=Tryz.isAgg275
  z212:=Tryz.sizeOf275
  v212:=Tryz.zeroValue275
  t213:=Tryz.underlying277
  a213:=Tryz.isAgg277
  z213:=Tryz.sizeOf277
  t232:=Tryz.underlying286
  a232:=Tryz.isAgg286
  z232:=Tryz.sizeOf286
  v232:=Tryz.zeroValue286
  t233:=Tryz.underlying287
  a233:=Tryz.isAgg287
  z233:=Tryz.sizeOf287
  v233:=Tryz.zeroValue287
  g17:=by kernel_rfl
  g18:=by kernel_rfl
  g19:=by kernel_rfl
  i0:=by kernel_rfl
  i2:=by kernel_rfl
  i3:=by kernel_rfl
  i4:=by kernel_rfl
  i5:=by kernel_rfl
  i9:=by kernel_rfl
  i20:=by kernel_rfl
  i37:=by kernel_rfl
  i46:=by kernel_rfl
  i51:=by kernel_rfl
  i53:=by kernel_rfl
  i171:=by kernel_rfl
  i173:=by kernel_rfl
  i212:=by kernel_rfl
  i232:=by kernel_rfl
  i233:=by kernel_rfl
  m17:=by kernel_rfl
  m18:=by kernel_rfl
  m19:=by kernel_rfl }
def Tryz.AR:Go.Shelf.Ren:=⟨fun| 144=>120| 143=>148| 219=>162| 217=>181| 225=>182| 224=>183| 267=>184| 266=>200| 314=>201|n=>n,fun| 9=>9| 4=>4| 3=>3| 5=>5| 46=>245| 146=>280| 51=>276|n=>n,fun| 1=>6|n=>n⟩
theorem Tryz.Hr:Go.Proofs.Lays.n144 Tryz.prog Tryz.AR:= {
  mixed:=by kernel_rfl
  f143:=Tryz.func148.trans (congrArg some (by kernel_rfl))
  f144:=Tryz.func120.trans (congrArg some (by kernel_rfl))
  f217:=Tryz.func181.trans (congrArg some (by kernel_rfl))
  f219:=Tryz.func162.trans (congrArg some (by kernel_rfl))
  f224:=Tryz.func183.trans (congrArg some (by kernel_rfl))
  f225:=Tryz.func182.trans (congrArg some (by kernel_rfl))
  f266:=Tryz.func200.trans (congrArg some (by kernel_rfl))
  f267:=Tryz.func184.trans (congrArg some (by kernel_rfl))
  f314:=Tryz.func201.trans (congrArg some (by kernel_rfl))
  t3:=Tryz.underlying3
  a3:=Tryz.isAgg3
  z3:=Tryz.sizeOf3
  v3:=Tryz.zeroValue3
  t4:=Tryz.underlying4
  a4:=Tryz.isAgg4
  z4:=Tryz.sizeOf4
  v4:=Tryz.zeroValue4
  t5:=Tryz.underlying5
  a5:=Tryz.isAgg5
  z5:=Tryz.sizeOf5
  v5:=Tryz.zeroValue5
  t9:=Tryz.underlying9
  a9:=Tryz.isAgg9
  z9:=Tryz.sizeOf9
  v9:=Tryz.zeroValue9
  t46:=Tryz.underlying245
  a46:=Tryz.isAgg245
  z46:=Tryz.sizeOf245
  v46:=Tryz.zeroValue245
  t51:=Tryz.underlying276
  a51:=Tryz.isAgg276
  z51:=Tryz.sizeOf276
  v51:=Tryz.zeroValue276
  t146:=Tryz.underlying280
  a146:=Tryz.isAgg280
  z146:=Tryz.sizeOf280
  v146:=Tryz.zeroValue280
  g1:=by kernel_rfl }
def Tryz.yE:Go.Shelf.Ren:=⟨fun| 144=>120| 143=>148| 219=>162| 217=>181| 225=>182| 224=>183| 267=>184| 266=>200| 314=>201|n=>n,fun| 9=>9| 4=>4| 3=>3| 5=>5| 46=>245| 146=>280| 51=>276|n=>n,fun| 1=>6|n=>n⟩
theorem Tryz.FX:Go.Proofs.LaysM.n144 Tryz.prog Tryz.yE:= {
  mixed:=by kernel_rfl
  f143:=Tryz.func148.trans (congrArg some (by kernel_rfl))
  f144:=Tryz.func120.trans (congrArg some (by kernel_rfl))
  f217:=Tryz.func181.trans (congrArg some (by kernel_rfl))
  f219:=Tryz.func162.trans (congrArg some (by kernel_rfl))
  f224:=Tryz.func183.trans (congrArg some (by kernel_rfl))
  f225:=Tryz.func182.trans (congrArg some (by kernel_rfl))
  f266:=Tryz.func200.trans (congrArg some (by kernel_rfl))
  f267:=Tryz.func184.trans (congrArg some (by kernel_rfl))
  f314:=Tryz.func201.trans (congrArg some (by kernel_rfl))
  t3:=Tryz.underlying3
  a3:=Tryz.isAgg3
  z3:=Tryz.sizeOf3
  v3:=Tryz.zeroValue3
  t4:=Tryz.underlying4
  a4:=Tryz.isAgg4
  z4:=Tryz.sizeOf4
  v4:=Tryz.zeroValue4
  t5:=Tryz.underlying5
  a5:=Tryz.isAgg5
  z5:=Tryz.sizeOf5
  v5:=Tryz.zeroValue5
  t9:=Tryz.underlying9
  a9:=Tryz.isAgg9
  z9:=Tryz.sizeOf9
  v9:=Tryz.zeroValue9
  t46:=Tryz.underlying245
  a46:=Tryz.isAgg245
  z46:=Tryz.sizeOf245
  v46:=Tryz.zeroValue245
  t51:=Tryz.underlying276
  a51:=Tryz.isAgg276
  z51:=Tryz.sizeOf276
  v51:=Tryz.zeroValue276
  t146:=Tryz.underlying280
  a146:=Tryz.isAgg280
  z146:=Tryz.sizeOf280
  v146:=Tryz.zeroValue280
  g1:=by kernel_rfl
  i3:=by kernel_rfl
  i4:=by kernel_rfl
  i5:=by kernel_rfl
  i9:=by kernel_rfl
  i46:=by kernel_rfl
  i51:=by kernel_rfl
  i146:=by kernel_rfl
  m1:=by kernel_rfl
  s1_3:=fun w h=>Go.Proofs.cell_of_shapedOpen_int (zero:= #[.int .i64 0]) (t:=3) h (of_decide_eq_true (by kernel_rfl)) (by kernel_rfl) rfl (by kernel_rfl) (by kernel_rfl) Tryz.underlying3 }
def Tryz.AQ:Go.Shelf.Ren:=⟨fun| 197=>118| 260=>147|n=>n,fun| 9=>9| 21=>21| 3=>3| 4=>4| 5=>5| 105=>202| 119=>244| 0=>0| 46=>245| 139=>248| 138=>247|n=>n,fun| 3=>4| 4=>5|n=>n⟩
theorem Tryz.Hq:Go.Proofs.Lays.n197 Tryz.prog Tryz.AQ:= {
  mixed:=by kernel_rfl
  f197:=Tryz.func118.trans (congrArg some (by kernel_rfl))
  f260:=Tryz.func147.trans (congrArg some (by kernel_rfl))
  t0:=Tryz.underlying0
  a0:=Tryz.isAgg0
  z0:=Tryz.sizeOf0
  v0:=Tryz.zeroValue0
  t3:=Tryz.underlying3
  a3:=Tryz.isAgg3
  z3:=Tryz.sizeOf3
  v3:=Tryz.zeroValue3
  t4:=Tryz.underlying4
  a4:=Tryz.isAgg4
  z4:=Tryz.sizeOf4
  v4:=Tryz.zeroValue4
  t5:=Tryz.underlying5
  a5:=Tryz.isAgg5
  z5:=Tryz.sizeOf5
  v5:=Tryz.zeroValue5
  t9:=Tryz.underlying9
  a9:=Tryz.isAgg9
  z9:=Tryz.sizeOf9
  v9:=Tryz.zeroValue9
  t21:=Tryz.underlying21
  a21:=Tryz.isAgg21
  z21:=Tryz.sizeOf21
  v21:=Tryz.zeroValue21
  t46:=Tryz.underlying245
  a46:=Tryz.isAgg245
  z46:=Tryz.sizeOf245
  v46:=Tryz.zeroValue245
  t105:=Tryz.underlying202
  a105:=Tryz.isAgg202
  z105:=Tryz.sizeOf202
  v105:=Tryz.zeroValue202
  t119:=Tryz.underlying244
  a119:=Tryz.isAgg244
  z119:=Tryz.sizeOf244
  t138:=Tryz.underlying247
  a138:=Tryz.isAgg247
  z138:=Tryz.sizeOf247
  v138:=Tryz.zeroValue247
  t139:=Tryz.underlying248
  a139:=Tryz.isAgg248
  z139:=Tryz.sizeOf248
  v139:=Tryz.zeroValue248
  g3:=by kernel_rfl
  g4:=by kernel_rfl }
open Go.RowKit in
theorem lP (s:ByteArray) (c:Int) (w:World) :
    Calls Tryz.prog 208 #[.string s,.int .u8 c] w fun e w'=>e= .returned (.int .i64 (Lib.indexByte s.data.toList c.toNat.toUInt8))∧w'=w:=Any.strings_IndexByte Tryz.Hs s c w
open Go.RowKit in
theorem lQ (s p:ByteArray) (w:World) :
    Calls Tryz.prog 137 #[.string s,.string p] w fun e w'=>e= .returned (.tuple #[.string ⟨(Lib.trimPrefix s.data.toList p.data.toList).toArray⟩,.bool (Lib.hasPrefix s.data.toList p.data.toList)])∧w'=w:=Any.strings_CutPrefix Tryz.Ht s p w
open Go.RowKit Go.Sort Go.Lib in
theorem qJ (n:Int) (h0 : -9223372036854775808≤n) (h1:n≤9223372036854775807) (w:World) (htab:Lib.TabIs Tryz.prog w "internal/strconv.uint64pow10" .u64 Lib.pow10Tab) :
    Calls Tryz.prog 115 #[.int .i64 n] w fun e w'=>e= .returned (.string ⟨(Lib.itoa n).toArray⟩)∧∃k os,w'=grow (w.drewN k) os:=Any.strconv_Itoa Tryz.FV n h0 h1 w htab
open Go.RowKit Go.Lib in
theorem mq (s sub:ByteArray) (m:Int) (w:World) (hs:s.size<4294967281) (hm:w.cell? ⟨6,0,none⟩=some (.int .i64 m)) :
    Calls Tryz.prog 120 #[.string s,.string sub] w fun e w'=>e= .returned (.bool (Lib.contains s.data.toList sub.data.toList))∧w'=w:=Any.strings_Contains Tryz.Hr s sub m w hs hm
open Go.RowKit Go.Lib in
theorem tg (s sub:ByteArray) (w:World) (h:w.ShapedOpen Tryz.prog) (hs:s.size<4294967281) :
    Calls Tryz.prog 120 #[.string s,.string sub] w fun e w'=>e= .returned (.bool (Lib.contains s.data.toList sub.data.toList))∧w'=w:=Any.strings_Contains_shaped Tryz.FX s sub w h hs
open Go.RowKit Go.Lib in
theorem iD (s:ByteArray) (w:World) (hT:Lib.Utf8Tabs 4 5 w) :
    Calls Tryz.prog 118 #[.string s] w fun e w'=>e= .returned (.tuple #[.int .i32 (Lib.decodeGo s).1,.int .i64 (Lib.decodeGo s).2])∧Below w.heap.size w w':=Any.utf8_DecodeRuneInString Tryz.Hq s w hT
end Go.Proofs
