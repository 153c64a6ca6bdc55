/- What the proof of the statement leans on (part 16). -/
import Derived.Shelf.Strings.Builder1
import Derived.Shelf.Strings.Builder2
import Derived.Shelf.Small.Utf8
import Derived.Shelf.Small.Strs
import Derived.Shelf.Small.Wraps
import Derived.Shelf.Strings.BuilderF
import Derived.Shelf.Strconv.Itoa0
import Derived.Shelf.Strconv.Itoa1
import Derived.Shelf.LaysM
import Derived.Shelf.Strconv.Itoa2
import Derived.Shelf.Strconv.Itoa3
import Derived.Shelf.Strings.Search1
import Derived.Shelf.Strings.Search2
import Derived.Shelf.Strings.Search3
import Derived.Shelf.Strings.Shaped
import Derived.Shelf.Strings.Prefix
import Derived.Shelf.Unicode.Decode
import Derived.Shelf.Strings.Runes
import Derived.Shelf.Strings.AsciiSet
import Derived.Shelf.Unicode.DecodeSlow
import Derived.Shelf.Unicode.DecodeAny
import Derived.Test.YtmehdcdbeafljaaGreatDoorProg
import Derived.Test.YtmehdcdbeafljaaGreatDoorQo

namespace Go.Proofs
open Go.Shelf
def Tryz.Ak:Go.Shelf.Ren:=⟨fun| 137=>208| 217=>192| 266=>203|n=>n,fun| 9=>9| 5=>5| 3=>3|n=>n,fun|n=>n⟩
theorem Tryz.G4:Go.Proofs.Lays.n137 Tryz.prog Tryz.Ak:= {
  mixed:=by kernel_rfl
  f137:=Tryz.func208.trans (congrArg some (by kernel_rfl))
  f217:=Tryz.func192.trans (congrArg some (by kernel_rfl))
  f266:=Tryz.func203.trans (congrArg some (by kernel_rfl))
  t3:=Tryz.underlying3
  a3:=Tryz.isAgg3
  z3:=Tryz.sizeOf3
  v3:=Tryz.zeroValue3
  t5:=Tryz.underlying5
  a5:=Tryz.isAgg5
  z5:=Tryz.sizeOf5
  v5:=Tryz.zeroValue5
  t9:=Tryz.underlying9
  a9:=Tryz.isAgg9
  z9:=Tryz.sizeOf9
  v9:=Tryz.zeroValue9 }
def Tryz.An:Go.Shelf.Ren:=⟨fun| 103=>145| 210=>173| 206=>191|n=>n,fun| 9=>9| 4=>4| 24=>118| 3=>3|n=>n,fun|n=>n⟩
theorem Tryz.G7:Go.Proofs.Lays.n103 Tryz.prog Tryz.An:= {
  mixed:=by kernel_rfl
  f103:=Tryz.func145.trans (congrArg some (by kernel_rfl))
  f206:=Tryz.func191.trans (congrArg some (by kernel_rfl))
  f210:=Tryz.func173.trans (congrArg some (by kernel_rfl))
  t3:=Tryz.underlying3
  a3:=Tryz.isAgg3
  z3:=Tryz.sizeOf3
  v3:=Tryz.zeroValue3
  t4:=Tryz.underlying4
  a4:=Tryz.isAgg4
  z4:=Tryz.sizeOf4
  v4:=Tryz.zeroValue4
  t9:=Tryz.underlying9
  a9:=Tryz.isAgg9
  z9:=Tryz.sizeOf9
  v9:=Tryz.zeroValue9
  t24:=Tryz.underlying118
  a24:=Tryz.isAgg118
  z24:=Tryz.sizeOf118
  v24:=Tryz.zeroValue118 }
def Tryz.xH:Go.Shelf.Ren:=⟨fun| 171=>100| 243=>142| 246=>91| 283=>133| 284=>134| 285=>135| 286=>136| 129=>165| 317=>164| 318=>166| 319=>167| 320=>168| 337=>182| 338=>183|n=>n,fun| 3=>3| 9=>9| 2=>2| 4=>4| 171=>240| 0=>0| 53=>128| 37=>38| 5=>5| 173=>243| 212=>264| 51=>265| 20=>20| 213=>266| 46=>254| 232=>296| 233=>297|n=>n,fun| 17=>4| 18=>11| 19=>12|n=>n⟩
theorem Tryz.Fs:Go.Proofs.LaysM.n171 Tryz.prog Tryz.xH:= {
  mixed:=by kernel_rfl
  f129:=Tryz.func165.trans (congrArg some (by kernel_rfl))
  f171:=Tryz.func100.trans (congrArg some (by kernel_rfl))
  f243:=Tryz.func142.trans (congrArg some (by kernel_rfl))
  f246:=Tryz.func91.trans (congrArg some (by kernel_rfl))
  f283:=Tryz.func133.trans (congrArg some (by kernel_rfl))
  f284:=Tryz.func134.trans (congrArg some (by kernel_rfl))
  f285:=Tryz.func135.trans (congrArg some (by kernel_rfl))
  f286:=Tryz.func136.trans (congrArg some (by kernel_rfl))
  f317:=Tryz.func164.trans (congrArg some (by kernel_rfl))
  f318:=Tryz.func166.trans (congrArg some (by kernel_rfl))
  f319:=Tryz.func167.trans (congrArg some (by kernel_rfl))
  f320:=Tryz.func168.trans (congrArg some (by kernel_rfl))
  f337:=Tryz.func182.trans (congrArg some (by kernel_rfl))
  f338:=Tryz.func183.trans (congrArg some (by kernel_rfl))
  t0:=Tryz.underlying0
  a0:=Tryz.isAgg0
  z0:=Tryz.sizeOf0
  v0:=Tryz.zeroValue0
  t2:=Tryz.underlying2
  a2:=Tryz.isAgg2
  z2:=Tryz.sizeOf2
  v2:=Tryz.zeroValue2
  t3:=Tryz.underlying3
  a3:=Tryz.isAgg3
  z3:=Tryz.sizeOf3
  v3:=Tryz.zeroValue3
  t4:=Tryz.underlying4
  a4:=Tryz.isAgg4
  z4:=Tryz.sizeOf4
  v4:=Tryz.zeroValue4
  t5:=Tryz.underlying5
  a5:=Tryz.isAgg5
  z5:=Tryz.sizeOf5
  v5:=Tryz.zeroValue5
  t9:=Tryz.underlying9
  a9:=Tryz.isAgg9
  z9:=Tryz.sizeOf9
  v9:=Tryz.zeroValue9
  t20:=Tryz.underlying20
  a20:=Tryz.isAgg20
  z20:=Tryz.sizeOf20
  v20:=Tryz.zeroValue20
  t37:=Tryz.underlying38
  a37:=Tryz.isAgg38
  z37:=Tryz.sizeOf38
  v37:=Tryz.zeroValue38
  t46:=Tryz.underlying254
  a46:=Tryz.isAgg254
  z46:=Tryz.sizeOf254
  v46:=Tryz.zeroValue254
  t51:=Tryz.underlying265
  a51:=Tryz.isAgg265
  z51:=Tryz.sizeOf265
  v51:=Tryz.zeroValue265
  t53:=Tryz.underlying128
  a53:=Tryz.isAgg128
  z53:=Tryz.sizeOf128
  v53:=Tryz.zeroValue128
  t171:=Tryz.underlying240
  a171:=Tryz.isAgg240
  z171:=Tryz.sizeOf240
  v171:=Tryz.zeroValue240
  t173:=Tryz.underlying243
  a173:=Tryz.isAgg243
  z173:=Tryz.sizeOf243
  v173:=Tryz.zeroValue243
  t212:=Tryz.underlying264
  a212:=Tryz.isAgg264
  z212:=Tryz.sizeOf264
  v212:=Tryz.zeroValue264
  t213:=Tryz.underlying266
  a213:=Tryz.isAgg266
  z213:=Tryz.sizeOf266
  t232:=Tryz.underlying296
  a232:=Tryz.isAgg296
  z232:=Tryz.sizeOf296
  v232:=Tryz.zeroValue296
  t233:=Tryz.underlying297
  a233:=Tryz.isAgg297
  z233:=Tryz.sizeOf297
  v233:=Tryz.zeroValue297
  g17:=by kernel_rfl
  g18:=by kernel_rfl
  g19:=by kernel_rfl
  i0:=by kernel_rfl
  i2:=by kernel_rfl
  i3:=by kernel_rfl
  i4:=by kernel_rfl
  i5:=by kernel_rfl
  i9:=by kernel_rfl
  i20:=by kernel_rfl
  i37:=by kernel_rfl
  i46:=by kernel_rfl
  i51:=by kernel_rfl
  i53:=by kernel_rfl
  i171:=by kernel_rfl
  i173:=by kernel_rfl
  i212:=by kernel_rfl
  i232:=by kernel_rfl
  i233:=by kernel_rfl
  m17:=by kernel_rfl
  m18:=by kernel_rfl
  m19:=by kernel_rfl }
def Tryz.Aj:Go.Shelf.Ren:=⟨fun| 144=>113| 143=>149| 219=>174| 217=>192| 225=>193| 224=>194| 267=>195| 266=>203| 314=>204|n=>n,fun| 9=>9| 4=>4| 3=>3| 5=>5| 46=>254| 146=>302| 51=>265|n=>n,fun| 1=>9|n=>n⟩
theorem Tryz.G3:Go.Proofs.Lays.n144 Tryz.prog Tryz.Aj:= {
  mixed:=by kernel_rfl
  f143:=Tryz.func149.trans (congrArg some (by kernel_rfl))
  f144:=Tryz.func113.trans (congrArg some (by kernel_rfl))
  f217:=Tryz.func192.trans (congrArg some (by kernel_rfl))
  f219:=Tryz.func174.trans (congrArg some (by kernel_rfl))
  f224:=Tryz.func194.trans (congrArg some (by kernel_rfl))
  f225:=Tryz.func193.trans (congrArg some (by kernel_rfl))
  f266:=Tryz.func203.trans (congrArg some (by kernel_rfl))
  f267:=Tryz.func195.trans (congrArg some (by kernel_rfl))
  f314:=Tryz.func204.trans (congrArg some (by kernel_rfl))
  t3:=Tryz.underlying3
  a3:=Tryz.isAgg3
  z3:=Tryz.sizeOf3
  v3:=Tryz.zeroValue3
  t4:=Tryz.underlying4
  a4:=Tryz.isAgg4
  z4:=Tryz.sizeOf4
  v4:=Tryz.zeroValue4
  t5:=Tryz.underlying5
  a5:=Tryz.isAgg5
  z5:=Tryz.sizeOf5
  v5:=Tryz.zeroValue5
  t9:=Tryz.underlying9
  a9:=Tryz.isAgg9
  z9:=Tryz.sizeOf9
  v9:=Tryz.zeroValue9
  t46:=Tryz.underlying254
  a46:=Tryz.isAgg254
  z46:=Tryz.sizeOf254
  v46:=Tryz.zeroValue254
  t51:=Tryz.underlying265
  a51:=Tryz.isAgg265
  z51:=Tryz.sizeOf265
  v51:=Tryz.zeroValue265
  t146:=Tryz.underlying302
  a146:=Tryz.isAgg302
  z146:=Tryz.sizeOf302
  v146:=Tryz.zeroValue302
  g1:=by kernel_rfl }
def Tryz.xI:Go.Shelf.Ren:=⟨fun| 144=>113| 143=>149| 219=>174| 217=>192| 225=>193| 224=>194| 267=>195| 266=>203| 314=>204|n=>n,fun| 9=>9| 4=>4| 3=>3| 5=>5| 46=>254| 146=>302| 51=>265|n=>n,fun| 1=>9|n=>n⟩
theorem Tryz.Ft:Go.Proofs.LaysM.n144 Tryz.prog Tryz.xI:= {
  mixed:=by kernel_rfl
  f143:=Tryz.func149.trans (congrArg some (by kernel_rfl))
  f144:=Tryz.func113.trans (congrArg some (by kernel_rfl))
  f217:=Tryz.func192.trans (congrArg some (by kernel_rfl))
  f219:=Tryz.func174.trans (congrArg some (by kernel_rfl))
  f224:=Tryz.func194.trans (congrArg some (by kernel_rfl))
  f225:=Tryz.func193.trans (congrArg some (by kernel_rfl))
  f266:=Tryz.func203.trans (congrArg some (by kernel_rfl))
  f267:=Tryz.func195.trans (congrArg some (by kernel_rfl))
  f314:=Tryz.func204.trans (congrArg some (by kernel_rfl))
  t3:=Tryz.underlying3
  a3:=Tryz.isAgg3
  z3:=Tryz.sizeOf3
  v3:=Tryz.zeroValue3
  t4:=Tryz.underlying4
  a4:=Tryz.isAgg4
  z4:=Tryz.sizeOf4
  v4:=Tryz.zeroValue4
  t5:=Tryz.underlying5
  a5:=Tryz.isAgg5
  z5:=Tryz.sizeOf5
  v5:=Tryz.zeroValue5
  t9:=Tryz.underlying9
  a9:=Tryz.isAgg9
  z9:=Tryz.sizeOf9
  v9:=Tryz.zeroValue9
  t46:=Tryz.underlying254
  a46:=Tryz.isAgg254
  z46:=Tryz.sizeOf254
  v46:=Tryz.zeroValue254
  t51:=Tryz.underlying265
  a51:=Tryz.isAgg265
  z51:=Tryz.sizeOf265
  v51:=Tryz.zeroValue265
  t146:=Tryz.underlying302
  a146:=Tryz.isAgg302
  z146:=Tryz.sizeOf302
  v146:=Tryz.zeroValue302
  g1:=by kernel_rfl
  i3:=by kernel_rfl
  i4:=by kernel_rfl
  i5:=by kernel_rfl
  i9:=by kernel_rfl
  i46:=by kernel_rfl
  i51:=by kernel_rfl
  i146:=by kernel_rfl
  m1:=by kernel_rfl
  s1_3:=fun w h=>Go.Proofs.cell_of_shapedOpen_int (zero:= #[.int .i64 0]) (t:=3) h (of_decide_eq_true (by kernel_rfl)) (by kernel_rfl) rfl (by kernel_rfl) (by kernel_rfl) Tryz.underlying3 }
def Tryz.Ai:Go.Shelf.Ren:=⟨fun| 197=>111| 260=>148|n=>n,fun| 9=>9| 21=>21| 3=>3| 4=>4| 5=>5| 105=>221| 119=>273| 0=>0| 46=>254| 139=>276| 138=>275|n=>n,fun| 3=>5| 4=>6|n=>n⟩
theorem Tryz.G2:Go.Proofs.Lays.n197 Tryz.prog Tryz.Ai:= {
  mixed:=by kernel_rfl
  f197:=Tryz.func111.trans (congrArg some (by kernel_rfl))
  f260:=Tryz.func148.trans (congrArg some (by kernel_rfl))
  t0:=Tryz.underlying0
  a0:=Tryz.isAgg0
  z0:=Tryz.sizeOf0
  v0:=Tryz.zeroValue0
  t3:=Tryz.underlying3
  a3:=Tryz.isAgg3
  z3:=Tryz.sizeOf3
  v3:=Tryz.zeroValue3
  t4:=Tryz.underlying4
  a4:=Tryz.isAgg4
  z4:=Tryz.sizeOf4
  v4:=Tryz.zeroValue4
  t5:=Tryz.underlying5
  a5:=Tryz.isAgg5
  z5:=Tryz.sizeOf5
  v5:=Tryz.zeroValue5
  t9:=Tryz.underlying9
  a9:=Tryz.isAgg9
  z9:=Tryz.sizeOf9
  v9:=Tryz.zeroValue9
  t21:=Tryz.underlying21
  a21:=Tryz.isAgg21
  z21:=Tryz.sizeOf21
  v21:=Tryz.zeroValue21
  t46:=Tryz.underlying254
  a46:=Tryz.isAgg254
  z46:=Tryz.sizeOf254
  v46:=Tryz.zeroValue254
  t105:=Tryz.underlying221
  a105:=Tryz.isAgg221
  z105:=Tryz.sizeOf221
  v105:=Tryz.zeroValue221
  t119:=Tryz.underlying273
  a119:=Tryz.isAgg273
  z119:=Tryz.sizeOf273
  t138:=Tryz.underlying275
  a138:=Tryz.isAgg275
  z138:=Tryz.sizeOf275
  v138:=Tryz.zeroValue275
  t139:=Tryz.underlying276
  a139:=Tryz.isAgg276
  z139:=Tryz.sizeOf276
  v139:=Tryz.zeroValue276
  g3:=by kernel_rfl
  g4:=by kernel_rfl }
open Go.RowKit in
theorem Tryz.strings_IndexByte (s:ByteArray) (c:Int) (w:World) :
    Calls Tryz.prog 208 #[.string s,.int .u8 c] w fun e w'=>e= .returned (.int .i64 (Lib.indexByte s.data.toList c.toNat.toUInt8))/\w'=w:=Any.strings_IndexByte Tryz.G4 s c w
open Go.RowKit in
theorem Tryz.strings_CutPrefix (s p:ByteArray) (w:World) :
    Calls Tryz.prog 145 #[.string s,.string p] w fun e w'=>e= .returned (.tuple #[.string ⟨(Lib.trimPrefix s.data.toList p.data.toList).toArray⟩,.bool (Lib.hasPrefix s.data.toList p.data.toList)])/\w'=w:=Any.strings_CutPrefix Tryz.G7 s p w
open Go.RowKit Go.Sort Go.Lib in
theorem Tryz.strconv_Itoa (n:Int) (h0 : -9223372036854775808<=n) (h1:n<=9223372036854775807) (w:World) (htab:Lib.TabIs Tryz.prog w "internal/strconv.uint64pow10" .u64 Lib.pow10Tab) :
    Calls Tryz.prog 100 #[.int .i64 n] w fun e w'=>e= .returned (.string ⟨(Lib.itoa n).toArray⟩)/\∃k os,w'=grow (w.drewN k) os:=Any.strconv_Itoa Tryz.Fs n h0 h1 w htab
open Go.RowKit Go.Lib in
theorem Tryz.strings_Contains (s sub:ByteArray) (m:Int) (w:World) (hs:s.size<4294967281) (hm:w.cell? ⟨9,0,none⟩=some (.int .i64 m)) :
    Calls Tryz.prog 113 #[.string s,.string sub] w fun e w'=>e= .returned (.bool (Lib.contains s.data.toList sub.data.toList))/\w'=w:=Any.strings_Contains Tryz.G3 s sub m w hs hm
open Go.RowKit Go.Lib in
theorem Tryz.strings_Contains_shaped (s sub:ByteArray) (w:World) (h:w.ShapedOpen Tryz.prog) (hs:s.size<4294967281) :
    Calls Tryz.prog 113 #[.string s,.string sub] w fun e w'=>e= .returned (.bool (Lib.contains s.data.toList sub.data.toList))/\w'=w:=Any.strings_Contains_shaped Tryz.Ft s sub w h hs
open Go.RowKit Go.Lib in
theorem Tryz.utf8_DecodeRuneInString (s:ByteArray) (w:World) (hT:Lib.Utf8Tabs 5 6 w) :
    Calls Tryz.prog 111 #[.string s] w fun e w'=>e= .returned (.tuple #[.int .i32 (Lib.decodeGo s).1,.int .i64 (Lib.decodeGo s).2])/\Below w.heap.size w w':=Any.utf8_DecodeRuneInString Tryz.G2 s w hT
end Go.Proofs
