/- What the proof of the statement leans on (part 9). -/
import Derived.Shelf.Strings.Builder1
import Derived.Shelf.Small.Strs
import Derived.Shelf.Strconv.Itoa0
import Derived.Shelf.Strconv.Itoa1
import Derived.Shelf.LaysM
import Derived.Shelf.Strconv.Itoa2
import Derived.Shelf.Strconv.Itoa3
import Derived.Shelf.Strings.Search1
import Derived.Shelf.Strings.Search2
import Derived.Shelf.Strings.Search3
import Derived.Shelf.Strings.Shaped
import Derived.Shelf.Unicode.Decode
import Derived.Shelf.Unicode.DecodeSlow
import Derived.Shelf.Unicode.DecodeAny
import Derived.Test.YtlkmlfofhbekoaaGreatDoorProg
import Derived.Test.YtlkmlfofhbekoaaGreatDoorQh

namespace Go.Proofs
open Go.Shelf
def Tryz.lays137_ren:Go.Shelf.Ren:=⟨fun| 137=>133| 217=>113| 266=>129|n=>n,fun| 9=>9| 5=>5| 3=>3|n=>n,fun|n=>n⟩
theorem Tryz.lays137:Go.Proofs.Lays.n137 Tryz.prog Tryz.lays137_ren:= {
  mixed:=by kernel_rfl
  f137:=Tryz.func133.trans (congrArg some (by kernel_rfl))
  f217:=Tryz.func113.trans (congrArg some (by kernel_rfl))
  f266:=Tryz.func129.trans (congrArg some (by kernel_rfl))
  t3:=Tryz.underlying3
  a3:=Tryz.isAgg3
  z3:=Tryz.sizeOf3
  v3:=Tryz.zeroValue3
  t5:=Tryz.underlying5
  a5:=Tryz.isAgg5
  z5:=Tryz.sizeOf5
  v5:=Tryz.zeroValue5
  t9:=Tryz.underlying9
  a9:=Tryz.isAgg9
  z9:=Tryz.sizeOf9
  v9:=Tryz.zeroValue9 }
def Tryz.laysM171_ren:Go.Shelf.Ren:=⟨fun| 171=>61| 243=>81| 246=>94| 283=>104| 284=>105| 285=>106| 286=>107| 129=>122| 317=>121| 318=>123| 319=>124| 320=>125| 337=>134| 338=>135|n=>n,fun| 3=>3| 9=>9| 2=>2| 4=>4| 171=>197| 0=>0| 53=>81| 37=>139| 5=>5| 173=>200| 212=>211| 51=>212| 20=>20| 213=>213| 46=>153| 232=>223| 233=>224|n=>n,fun| 17=>5| 18=>6| 19=>7|n=>n⟩
theorem Tryz.laysM171:Go.Proofs.LaysM.n171 Tryz.prog Tryz.laysM171_ren:= {
  mixed:=by kernel_rfl
  f129:=Tryz.func122.trans (congrArg some (by kernel_rfl))
  f171:=Tryz.func61.trans (congrArg some (by kernel_rfl))
  f243:=Tryz.func81.trans (congrArg some (by kernel_rfl))
  f246:=Tryz.func94.trans (congrArg some (by kernel_rfl))
  f283:=Tryz.func104.trans (congrArg some (by kernel_rfl))
  f284:=Tryz.func105.trans (congrArg some (by kernel_rfl))
  f285:=Tryz.func106.trans (congrArg some (by kernel_rfl))
  f286:=Tryz.func107.trans (congrArg some (by kernel_rfl))
  f317:=Tryz.func121.trans (congrArg some (by kernel_rfl))
  f318:=Tryz.func123.trans (congrArg some (by kernel_rfl))
  f319:=Tryz.func124.trans (congrArg some (by kernel_rfl))
  f320:=Tryz.func125.trans (congrArg some (by kernel_rfl))
  f337:=Tryz.func134.trans (congrArg some (by kernel_rfl))
  f338:=Tryz.func135.trans (congrArg some (by kernel_rfl))
  t0:=Tryz.underlying0
  a0:=Tryz.isAgg0
  z0:=Tryz.sizeOf0
  v0:=Tryz.zeroValue0
  t2:=Tryz.underlying2
  a2:=Tryz.isAgg2
  z2:=Tryz.sizeOf2
  v2:=Tryz.zeroValue2
  t3:=Tryz.underlying3
  a3:=Tryz.isAgg3
  z3:=Tryz.sizeOf3
  v3:=Tryz.zeroValue3
  t4:=Tryz.underlying4
  a4:=Tryz.isAgg4
  z4:=Tryz.sizeOf4
  v4:=Tryz.zeroValue4
  t5:=Tryz.underlying5
  a5:=Tryz.isAgg5
  z5:=Tryz.sizeOf5
  v5:=Tryz.zeroValue5
  t9:=Tryz.underlying9
  a9:=Tryz.isAgg9
  z9:=Tryz.sizeOf9
  v9:=Tryz.zeroValue9
  t20:=Tryz.underlying20
  a20:=Tryz.isAgg20
  z20:=Tryz.sizeOf20
  v20:=Tryz.zeroValue20
  t37:=Tryz.underlying139
  a37:=Tryz.isAgg139
  z37:=Tryz.sizeOf139
  v37:=Tryz.zeroValue139
  t46:=Tryz.underlying153
  a46:=Tryz.isAgg153
  z46:=Tryz.sizeOf153
  v46:=Tryz.zeroValue153
  t51:=Tryz.underlying212
  a51:=Tryz.isAgg212
  z51:=Tryz.sizeOf212
  v51:=Tryz.zeroValue212
  t53:=Tryz.underlying81
  a53:=Tryz.isAgg81
  z53:=Tryz.sizeOf81
  v53:=Tryz.zeroValue81
  t171:=Tryz.underlying197
  a171:=Tryz.isAgg197
  z171:=Tryz.sizeOf197
  v171:=Tryz.zeroValue197
  t173:=Tryz.underlying200
  a173:=Tryz.isAgg200
  z173:=Tryz.sizeOf200
  v173:=Tryz.zeroValue200
  t212:=Tryz.underlying211
  a212:=Tryz.isAgg211
  z212:=Tryz.sizeOf211
  v212:=Tryz.zeroValue211
  t213:=Tryz.underlying213
  a213:=Tryz.isAgg213
  z213:=Tryz.sizeOf213
  t232:=Tryz.underlying223
  a232:=Tryz.isAgg223
  z232:=Tryz.sizeOf223
  v232:=Tryz.zeroValue223
  t233:=Tryz.underlying224
  a233:=Tryz.isAgg224
  z233:=Tryz.sizeOf224
  v233:=Tryz.zeroValue224
  g17:=by kernel_rfl
  g18:=by kernel_rfl
  g19:=by kernel_rfl
  i0:=by kernel_rfl
  i2:=by kernel_rfl
  i3:=by kernel_rfl
  i4:=by kernel_rfl
  i5:=by kernel_rfl
  i9:=by kernel_rfl
  i20:=by kernel_rfl
  i37:=by kernel_rfl
  i46:=by kernel_rfl
  i51:=by kernel_rfl
  i53:=by kernel_rfl
  i171:=by kernel_rfl
  i173:=by kernel_rfl
  i212:=by kernel_rfl
  i232:=by kernel_rfl
  i233:=by kernel_rfl
  m17:=by kernel_rfl
  m18:=by kernel_rfl
  m19:=by kernel_rfl }
def Tryz.lays144_ren:Go.Shelf.Ren:=⟨fun| 144=>75| 143=>91| 219=>100| 217=>113| 225=>114| 224=>115| 267=>116| 266=>129| 314=>130|n=>n,fun| 9=>9| 4=>4| 3=>3| 5=>5| 46=>153| 146=>218| 51=>212|n=>n,fun| 1=>4|n=>n⟩
theorem Tryz.lays144:Go.Proofs.Lays.n144 Tryz.prog Tryz.lays144_ren:= {
  mixed:=by kernel_rfl
  f143:=Tryz.func91.trans (congrArg some (by kernel_rfl))
  f144:=Tryz.func75.trans (congrArg some (by kernel_rfl))
  f217:=Tryz.func113.trans (congrArg some (by kernel_rfl))
  f219:=Tryz.func100.trans (congrArg some (by kernel_rfl))
  f224:=Tryz.func115.trans (congrArg some (by kernel_rfl))
  f225:=Tryz.func114.trans (congrArg some (by kernel_rfl))
  f266:=Tryz.func129.trans (congrArg some (by kernel_rfl))
  f267:=Tryz.func116.trans (congrArg some (by kernel_rfl))
  f314:=Tryz.func130.trans (congrArg some (by kernel_rfl))
  t3:=Tryz.underlying3
  a3:=Tryz.isAgg3
  z3:=Tryz.sizeOf3
  v3:=Tryz.zeroValue3
  t4:=Tryz.underlying4
  a4:=Tryz.isAgg4
  z4:=Tryz.sizeOf4
  v4:=Tryz.zeroValue4
  t5:=Tryz.underlying5
  a5:=Tryz.isAgg5
  z5:=Tryz.sizeOf5
  v5:=Tryz.zeroValue5
  t9:=Tryz.underlying9
  a9:=Tryz.isAgg9
  z9:=Tryz.sizeOf9
  v9:=Tryz.zeroValue9
  t46:=Tryz.underlying153
  a46:=Tryz.isAgg153
  z46:=Tryz.sizeOf153
  v46:=Tryz.zeroValue153
  t51:=Tryz.underlying212
  a51:=Tryz.isAgg212
  z51:=Tryz.sizeOf212
  v51:=Tryz.zeroValue212
  t146:=Tryz.underlying218
  a146:=Tryz.isAgg218
  z146:=Tryz.sizeOf218
  v146:=Tryz.zeroValue218
  g1:=by kernel_rfl }
def Tryz.laysM144_ren:Go.Shelf.Ren:=⟨fun| 144=>75| 143=>91| 219=>100| 217=>113| 225=>114| 224=>115| 267=>116| 266=>129| 314=>130|n=>n,fun| 9=>9| 4=>4| 3=>3| 5=>5| 46=>153| 146=>218| 51=>212|n=>n,fun| 1=>4|n=>n⟩
theorem Tryz.laysM144:Go.Proofs.LaysM.n144 Tryz.prog Tryz.laysM144_ren:= {
  mixed:=by kernel_rfl
  f143:=Tryz.func91.trans (congrArg some (by kernel_rfl))
  f144:=Tryz.func75.trans (congrArg some (by kernel_rfl))
  f217:=Tryz.func113.trans (congrArg some (by kernel_rfl))
  f219:=Tryz.func100.trans (congrArg some (by kernel_rfl))
  f224:=Tryz.func115.trans (congrArg some (by kernel_rfl))
  f225:=Tryz.func114.trans (congrArg some (by kernel_rfl))
  f266:=Tryz.func129.trans (congrArg some (by kernel_rfl))
  f267:=Tryz.func116.trans (congrArg some (by kernel_rfl))
  f314:=Tryz.func130.trans (congrArg some (by kernel_rfl))
  t3:=Tryz.underlying3
  a3:=Tryz.isAgg3
  z3:=Tryz.sizeOf3
  v3:=Tryz.zeroValue3
  t4:=Tryz.underlying4
  a4:=Tryz.isAgg4
  z4:=Tryz.sizeOf4
  v4:=Tryz.zeroValue4
  t5:=Tryz.underlying5
  a5:=Tryz.isAgg5
  z5:=Tryz.sizeOf5
  v5:=Tryz.zeroValue5
  t9:=Tryz.underlying9
  a9:=Tryz.isAgg9
  z9:=Tryz.sizeOf9
  v9:=Tryz.zeroValue9
  t46:=Tryz.underlying153
  a46:=Tryz.isAgg153
  z46:=Tryz.sizeOf153
  v46:=Tryz.zeroValue153
  t51:=Tryz.underlying212
  a51:=Tryz.isAgg212
  z51:=Tryz.sizeOf212
  v51:=Tryz.zeroValue212
  t146:=Tryz.underlying218
  a146:=Tryz.isAgg218
  z146:=Tryz.sizeOf218
  v146:=Tryz.zeroValue218
  g1:=by kernel_rfl
  i3:=by kernel_rfl
  i4:=by kernel_rfl
  i5:=by kernel_rfl
  i9:=by kernel_rfl
  i46:=by kernel_rfl
  i51:=by kernel_rfl
  i146:=by kernel_rfl
  m1:=by kernel_rfl
  s1_3:=fun w h=>Go.Proofs.cell_of_shapedOpen_int (zero:= #[.int .i64 0]) (t:=3) h (of_decide_eq_true (by kernel_rfl)) (by kernel_rfl) rfl (by kernel_rfl) (by kernel_rfl) Tryz.underlying3 }
def Tryz.lays197_ren:Go.Shelf.Ren:=⟨fun| 197=>73| 260=>90|n=>n,fun| 9=>9| 21=>21| 3=>3| 4=>4| 5=>5| 105=>155| 119=>191| 0=>0| 46=>153| 139=>194| 138=>193|n=>n,fun| 3=>1| 4=>2|n=>n⟩
theorem Tryz.lays197:Go.Proofs.Lays.n197 Tryz.prog Tryz.lays197_ren:= {
  mixed:=by kernel_rfl
  f197:=Tryz.func73.trans (congrArg some (by kernel_rfl))
  f260:=Tryz.func90.trans (congrArg some (by kernel_rfl))
  t0:=Tryz.underlying0
  a0:=Tryz.isAgg0
  z0:=Tryz.sizeOf0
  v0:=Tryz.zeroValue0
  t3:=Tryz.underlying3
  a3:=Tryz.isAgg3
  z3:=Tryz.sizeOf3
  v3:=Tryz.zeroValue3
  t4:=Tryz.underlying4
  a4:=Tryz.isAgg4
  z4:=Tryz.sizeOf4
  v4:=Tryz.zeroValue4
  t5:=Tryz.underlying5
  a5:=Tryz.isAgg5
  z5:=Tryz.sizeOf5
  v5:=Tryz.zeroValue5
  t9:=Tryz.underlying9
  a9:=Tryz.isAgg9
  z9:=Tryz.sizeOf9
  v9:=Tryz.zeroValue9
  t21:=Tryz.underlying21
  a21:=Tryz.isAgg21
  z21:=Tryz.sizeOf21
  v21:=Tryz.zeroValue21
  t46:=Tryz.underlying153
  a46:=Tryz.isAgg153
  z46:=Tryz.sizeOf153
  v46:=Tryz.zeroValue153
  t105:=Tryz.underlying155
  a105:=Tryz.isAgg155
  z105:=Tryz.sizeOf155
  v105:=Tryz.zeroValue155
  t119:=Tryz.underlying191
  a119:=Tryz.isAgg191
  z119:=Tryz.sizeOf191
  t138:=Tryz.underlying193
  a138:=Tryz.isAgg193
  z138:=Tryz.sizeOf193
  v138:=Tryz.zeroValue193
  t139:=Tryz.underlying194
  a139:=Tryz.isAgg194
  z139:=Tryz.sizeOf194
  v139:=Tryz.zeroValue194
  g3:=by kernel_rfl
  g4:=by kernel_rfl }
open Go.RowKit in
theorem Tryz.strings_IndexByte (s:ByteArray) (c:Int) (w:World) :
    Calls Tryz.prog 133 #[.string s,.int .u8 c] w fun e w'=>e= .returned (.int .i64 (Lib.indexByte s.data.toList c.toNat.toUInt8))∧w'=w:=Any.strings_IndexByte Tryz.lays137 s c w
open Go.RowKit Go.Sort Go.Lib in
theorem Tryz.strconv_Itoa (n:Int) (h0 : -9223372036854775808≤n) (h1:n≤9223372036854775807) (w:World) (htab:Lib.TabIs Tryz.prog w "internal/strconv.uint64pow10" .u64 Lib.pow10Tab) :
    Calls Tryz.prog 61 #[.int .i64 n] w fun e w'=>e= .returned (.string ⟨(Lib.itoa n).toArray⟩)∧∃k os,w'=grow (w.drewN k) os:=Any.strconv_Itoa Tryz.laysM171 n h0 h1 w htab
open Go.RowKit Go.Lib in
theorem Tryz.strings_Contains (s sub:ByteArray) (m:Int) (w:World) (hs:s.size<4294967281) (hm:w.cell? ⟨4,0,none⟩=some (.int .i64 m)) :
    Calls Tryz.prog 75 #[.string s,.string sub] w fun e w'=>e= .returned (.bool (Lib.contains s.data.toList sub.data.toList))∧w'=w:=Any.strings_Contains Tryz.lays144 s sub m w hs hm
open Go.RowKit Go.Lib in
theorem Tryz.strings_Contains_shaped (s sub:ByteArray) (w:World) (h:w.ShapedOpen Tryz.prog) (hs:s.size<4294967281) :
    Calls Tryz.prog 75 #[.string s,.string sub] w fun e w'=>e= .returned (.bool (Lib.contains s.data.toList sub.data.toList))∧w'=w:=Any.strings_Contains_shaped Tryz.laysM144 s sub w h hs
open Go.RowKit Go.Lib in
theorem Tryz.utf8_DecodeRuneInString (s:ByteArray) (w:World) (hT:Lib.Utf8Tabs 1 2 w) :
    Calls Tryz.prog 73 #[.string s] w fun e w'=>e= .returned (.tuple #[.int .i32 (Lib.decodeGo s).1,.int .i64 (Lib.decodeGo s).2])∧Below w.heap.size w w':=Any.utf8_DecodeRuneInString Tryz.lays197 s w hT
end Go.Proofs
