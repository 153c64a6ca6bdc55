/- Part 16. -/
import Derived.Shelf.Strings.Builder1
import Derived.Shelf.Small.Utf8
import Derived.Shelf.Small.Strs
import Derived.Shelf.Small.Wraps
import Derived.Shelf.Strings.BuilderF
import Derived.Shelf.Strconv.Itoa0
import Derived.Shelf.Strconv.Itoa1
import Derived.Shelf.LaysM
import Derived.Shelf.Strconv.Itoa2
import Derived.Shelf.Strconv.Itoa3
import Derived.Shelf.Strings.Search1
import Derived.Shelf.Strings.Search2
import Derived.Shelf.Strings.Search3
import Derived.Shelf.Strings.Shaped
import Derived.Shelf.Strings.Prefix
import Derived.Shelf.Strings.Runes
import Derived.Shelf.Strings.AsciiSet
import Derived.Shelf.Unicode.DecodeSlow
import Derived.Shelf.Unicode.DecodeAny
import Derived.Test.YtnjahnbpnpkmhaaGreatDoorProg
import Derived.Test.YtnjahnbpnpkmhaaGreatDoorQo

namespace Go.Proofs
open Go.Shelf
def Tryz.Dm:Go.Shelf.Ren:=⟨fun| 137=>188| 217=>174| 266=>191|n=>n,fun| 9=>9| 5=>5| 3=>3|n=>n,fun|n=>n⟩
theorem Tryz.KY:Go.Proofs.Lays.n137 Tryz.prog Tryz.Dm:= {
  mixed:=by kernel_rfl
  f137:=Tryz.func188.trans (congrArg some (by kernel_rfl))
  f217:=Tryz.func174.trans (congrArg some (by kernel_rfl))
  f266:=Tryz.func191.trans (congrArg some (by kernel_rfl))
  t3:=Tryz.underlying3
  a3:=Tryz.isAgg3
  z3:=Tryz.sizeOf3
  v3:=Tryz.zeroValue3
  t5:=Tryz.underlying5
  a5:=Tryz.isAgg5
  z5:=Tryz.sizeOf5
  v5:=Tryz.zeroValue5
  t9:=Tryz.underlying9
  a9:=Tryz.isAgg9
  z9:=Tryz.sizeOf9
  v9:=Tryz.zeroValue9 }
def Tryz.Dn:Go.Shelf.Ren:=⟨fun| 103=>141| 210=>160| 206=>182|n=>n,fun| 9=>9| 4=>4| 24=>53| 3=>3|n=>n,fun|n=>n⟩
theorem Tryz.KZ:Go.Proofs.Lays.n103 Tryz.prog Tryz.Dn:= {
  mixed:=by kernel_rfl
  f103:=Tryz.func141.trans (congrArg some (by kernel_rfl))
  f206:=Tryz.func182.trans (congrArg some (by kernel_rfl))
  f210:=Tryz.func160.trans (congrArg some (by kernel_rfl))
  t3:=Tryz.underlying3
  a3:=Tryz.isAgg3
  z3:=Tryz.sizeOf3
  v3:=Tryz.zeroValue3
  t4:=Tryz.underlying4
  a4:=Tryz.isAgg4
  z4:=Tryz.sizeOf4
  v4:=Tryz.zeroValue4
  t9:=Tryz.underlying9
  a9:=Tryz.isAgg9
  z9:=Tryz.sizeOf9
  v9:=Tryz.zeroValue9
  t24:=Tryz.underlying53
  a24:=Tryz.isAgg53
  z24:=Tryz.sizeOf53
  v24:=Tryz.zeroValue53 }
def Tryz.Bv:Go.Shelf.Ren:=⟨fun| 171=>84| 243=>119| 246=>137| 283=>154| 284=>155| 285=>156| 286=>157| 129=>170| 317=>169| 318=>171| 319=>172| 320=>173| 337=>189| 338=>190|n=>n,fun| 3=>3| 9=>9| 2=>2| 4=>4| 171=>230| 0=>0| 53=>101| 37=>90| 5=>5| 173=>233| 212=>248| 51=>249| 20=>20| 213=>250| 46=>236| 232=>266| 233=>267|n=>n,fun| 17=>8| 18=>9| 19=>10|n=>n⟩
theorem Tryz.Jo:Go.Proofs.LaysM.n171 Tryz.prog Tryz.Bv:= {
  mixed:=by kernel_rfl
  f129:=Tryz.func170.trans (congrArg some (by kernel_rfl))
  f171:=Tryz.func84.trans (congrArg some (by kernel_rfl))
  f243:=Tryz.func119.trans (congrArg some (by kernel_rfl))
  f246:=Tryz.func137.trans (congrArg some (by kernel_rfl))
  f283:=Tryz.func154.trans (congrArg some (by kernel_rfl))
  f284:=Tryz.func155.trans (congrArg some (by kernel_rfl))
  f285:=Tryz.func156.trans (congrArg some (by kernel_rfl))
  f286:=Tryz.func157.trans (congrArg some (by kernel_rfl))
  f317:=Tryz.func169.trans (congrArg some (by kernel_rfl))
  f318:=Tryz.func171.trans (congrArg some (by kernel_rfl))
  f319:=Tryz.func172.trans (congrArg some (by kernel_rfl))
  f320:=Tryz.func173.trans (congrArg some (by kernel_rfl))
  f337:=Tryz.func189.trans (congrArg some (by kernel_rfl))
  f338:=Tryz.func190.trans (congrArg some (by kernel_rfl))
  t0:=Tryz.underlying0
  a0:=Tryz.isAgg0
  z0:=Tryz.sizeOf0
  v0:=Tryz.zeroValue0
  t2:=Tryz.underlying2
  a2:=Tryz.isAgg2
  z2:=Tryz.sizeOf2
  v2:=Tryz.zeroValue2
  t3:=Tryz.underlying3
  a3:=Tryz.isAgg3
  z3:=Tryz.sizeOf3
  v3:=Tryz.zeroValue3
  t4:=Tryz.underlying4
  a4:=Tryz.isAgg4
  z4:=Tryz.sizeOf4
  v4:=Tryz.zeroValue4
  t5:=Tryz.underlying5
  a5:=Tryz.isAgg5
  z5:=Tryz.sizeOf5
  v5:=Tryz.zeroValue5
  t9:=Tryz.underlying9
  a9:=Tryz.isAgg9
  z9:=Tryz.sizeOf9
  v9:=Tryz.zeroValue9
  t20:=Tryz.underlying20
  a20:=Tryz.isAgg20
  z20:=Tryz.sizeOf20
  v20:=Tryz.zeroValue20
  t37:=Tryz.underlying90
  a37:=Tryz.isAgg90
  z37:=Tryz.sizeOf90
  v37:=Tryz.zeroValue90
  t46:=Tryz.underlying236
  a46:=Tryz.isAgg236
  z46:=Tryz.sizeOf236
  v46:=Tryz.zeroValue236
  t51:=Tryz.underlying249
  a51:=Tryz.isAgg249
  z51:=Tryz.sizeOf249
  v51:=Tryz.zeroValue249
  t53:=Tryz.underlying101
  a53:=Tryz.isAgg101
  z53:=Tryz.sizeOf101
  v53:=Tryz.zeroValue101
  t171:=Tryz.underlying230
  a171:=Tryz.isAgg230
  z171:=Tryz.sizeOf230
  v171:=Tryz.zeroValue230
  t173:=Tryz.underlying233
  a173:=Tryz.isAgg233
  z173:=Tryz.sizeOf233
  v173:=Tryz.zeroValue233
  t212:=Tryz.underlying248
  a212:=Tryz.isAgg248
  z212:=Tryz.sizeOf248
  v212:=Tryz.zeroValue248
  t213:=Tryz.underlying250
  a213:=Tryz.isAgg250
  z213:=Tryz.sizeOf250
  t232:=Tryz.underlying266
  a232:=Tryz.isAgg266
  z232:=Tryz.sizeOf266
  v232:=Tryz.zeroValue266
  t233:=Tryz.underlying267
  a233:=Tryz.isAgg267
  z233:=Tryz.sizeOf267
  v233:=Tryz.zeroValue267
  g17:=by kernel_rfl
  g18:=by kernel_rfl
  g19:=by kernel_rfl
  i0:=by kernel_rfl
  i2:=by kernel_rfl
  i3:=by kernel_rfl
  i4:=by kernel_rfl
  i5:=by kernel_rfl
  i9:=by kernel_rfl
  i20:=by kernel_rfl
  i37:=by kernel_rfl
  i46:=by kernel_rfl
  i51:=by kernel_rfl
  i53:=by kernel_rfl
  i171:=by kernel_rfl
  i173:=by kernel_rfl
  i212:=by kernel_rfl
  i232:=by kernel_rfl
  i233:=by kernel_rfl
  m17:=by kernel_rfl
  m18:=by kernel_rfl
  m19:=by kernel_rfl }
def Tryz.Dl:Go.Shelf.Ren:=⟨fun| 144=>123| 143=>139| 219=>158| 217=>174| 225=>175| 224=>176| 267=>177| 266=>191| 314=>192|n=>n,fun| 9=>9| 4=>4| 3=>3| 5=>5| 46=>236| 146=>263| 51=>249|n=>n,fun| 1=>7|n=>n⟩
theorem Tryz.KX:Go.Proofs.Lays.n144 Tryz.prog Tryz.Dl:= {
  mixed:=by kernel_rfl
  f143:=Tryz.func139.trans (congrArg some (by kernel_rfl))
  f144:=Tryz.func123.trans (congrArg some (by kernel_rfl))
  f217:=Tryz.func174.trans (congrArg some (by kernel_rfl))
  f219:=Tryz.func158.trans (congrArg some (by kernel_rfl))
  f224:=Tryz.func176.trans (congrArg some (by kernel_rfl))
  f225:=Tryz.func175.trans (congrArg some (by kernel_rfl))
  f266:=Tryz.func191.trans (congrArg some (by kernel_rfl))
  f267:=Tryz.func177.trans (congrArg some (by kernel_rfl))
  f314:=Tryz.func192.trans (congrArg some (by kernel_rfl))
  t3:=Tryz.underlying3
  a3:=Tryz.isAgg3
  z3:=Tryz.sizeOf3
  v3:=Tryz.zeroValue3
  t4:=Tryz.underlying4
  a4:=Tryz.isAgg4
  z4:=Tryz.sizeOf4
  v4:=Tryz.zeroValue4
  t5:=Tryz.underlying5
  a5:=Tryz.isAgg5
  z5:=Tryz.sizeOf5
  v5:=Tryz.zeroValue5
  t9:=Tryz.underlying9
  a9:=Tryz.isAgg9
  z9:=Tryz.sizeOf9
  v9:=Tryz.zeroValue9
  t46:=Tryz.underlying236
  a46:=Tryz.isAgg236
  z46:=Tryz.sizeOf236
  v46:=Tryz.zeroValue236
  t51:=Tryz.underlying249
  a51:=Tryz.isAgg249
  z51:=Tryz.sizeOf249
  v51:=Tryz.zeroValue249
  t146:=Tryz.underlying263
  a146:=Tryz.isAgg263
  z146:=Tryz.sizeOf263
  v146:=Tryz.zeroValue263
  g1:=by kernel_rfl }
def Tryz.Bw:Go.Shelf.Ren:=⟨fun| 144=>123| 143=>139| 219=>158| 217=>174| 225=>175| 224=>176| 267=>177| 266=>191| 314=>192|n=>n,fun| 9=>9| 4=>4| 3=>3| 5=>5| 46=>236| 146=>263| 51=>249|n=>n,fun| 1=>7|n=>n⟩
theorem Tryz.Jp:Go.Proofs.LaysM.n144 Tryz.prog Tryz.Bw:= {
  mixed:=by kernel_rfl
  f143:=Tryz.func139.trans (congrArg some (by kernel_rfl))
  f144:=Tryz.func123.trans (congrArg some (by kernel_rfl))
  f217:=Tryz.func174.trans (congrArg some (by kernel_rfl))
  f219:=Tryz.func158.trans (congrArg some (by kernel_rfl))
  f224:=Tryz.func176.trans (congrArg some (by kernel_rfl))
  f225:=Tryz.func175.trans (congrArg some (by kernel_rfl))
  f266:=Tryz.func191.trans (congrArg some (by kernel_rfl))
  f267:=Tryz.func177.trans (congrArg some (by kernel_rfl))
  f314:=Tryz.func192.trans (congrArg some (by kernel_rfl))
  t3:=Tryz.underlying3
  a3:=Tryz.isAgg3
  z3:=Tryz.sizeOf3
  v3:=Tryz.zeroValue3
  t4:=Tryz.underlying4
  a4:=Tryz.isAgg4
  z4:=Tryz.sizeOf4
  v4:=Tryz.zeroValue4
  t5:=Tryz.underlying5
  a5:=Tryz.isAgg5
  z5:=Tryz.sizeOf5
  v5:=Tryz.zeroValue5
  t9:=Tryz.underlying9
  a9:=Tryz.isAgg9
  z9:=Tryz.sizeOf9
  v9:=Tryz.zeroValue9
  t46:=Tryz.underlying236
  a46:=Tryz.isAgg236
  z46:=Tryz.sizeOf236
  v46:=Tryz.zeroValue236
  t51:=Tryz.underlying249
  a51:=Tryz.isAgg249
  z51:=Tryz.sizeOf249
  v51:=Tryz.zeroValue249
  t146:=Tryz.underlying263
  a146:=Tryz.isAgg263
  z146:=Tryz.sizeOf263
  v146:=Tryz.zeroValue263
  g1:=by kernel_rfl
  i3:=by kernel_rfl
  i4:=by kernel_rfl
  i5:=by kernel_rfl
  i9:=by kernel_rfl
  i46:=by kernel_rfl
  i51:=by kernel_rfl
  i146:=by kernel_rfl
  m1:=by kernel_rfl
  s1_3:=λw h=>Go.Proofs.cell_of_shapedOpen_int (zero:= #[.int .i64 0]) (t:=3) h (of_decide_eq_true (by kernel_rfl)) (by kernel_rfl) rfl (by kernel_rfl) (by kernel_rfl) Tryz.underlying3 }
def Tryz.Dk:Go.Shelf.Ren:=⟨fun| 197=>121| 260=>138|n=>n,fun| 9=>9| 21=>21| 3=>3| 4=>4| 5=>5| 105=>199| 119=>235| 0=>0| 46=>236| 139=>239| 138=>238|n=>n,fun| 3=>5| 4=>6|n=>n⟩
theorem Tryz.KW:Go.Proofs.Lays.n197 Tryz.prog Tryz.Dk:= {
  mixed:=by kernel_rfl
  f197:=Tryz.func121.trans (congrArg some (by kernel_rfl))
  f260:=Tryz.func138.trans (congrArg some (by kernel_rfl))
  t0:=Tryz.underlying0
  a0:=Tryz.isAgg0
  z0:=Tryz.sizeOf0
  v0:=Tryz.zeroValue0
  t3:=Tryz.underlying3
  a3:=Tryz.isAgg3
  z3:=Tryz.sizeOf3
  v3:=Tryz.zeroValue3
  t4:=Tryz.underlying4
  a4:=Tryz.isAgg4
  z4:=Tryz.sizeOf4
  v4:=Tryz.zeroValue4
  t5:=Tryz.underlying5
  a5:=Tryz.isAgg5
  z5:=Tryz.sizeOf5
  v5:=Tryz.zeroValue5
  t9:=Tryz.underlying9
  a9:=Tryz.isAgg9
  z9:=Tryz.sizeOf9
  v9:=Tryz.zeroValue9
  t21:=Tryz.underlying21
  a21:=Tryz.isAgg21
  z21:=Tryz.sizeOf21
  v21:=Tryz.zeroValue21
  t46:=Tryz.underlying236
  a46:=Tryz.isAgg236
  z46:=Tryz.sizeOf236
  v46:=Tryz.zeroValue236
  t105:=Tryz.underlying199
  a105:=Tryz.isAgg199
  z105:=Tryz.sizeOf199
  v105:=Tryz.zeroValue199
  t119:=Tryz.underlying235
  a119:=Tryz.isAgg235
  z119:=Tryz.sizeOf235
  t138:=Tryz.underlying238
  a138:=Tryz.isAgg238
  z138:=Tryz.sizeOf238
  v138:=Tryz.zeroValue238
  t139:=Tryz.underlying239
  a139:=Tryz.isAgg239
  z139:=Tryz.sizeOf239
  v139:=Tryz.zeroValue239
  g3:=by kernel_rfl
  g4:=by kernel_rfl }
open Go.RowKit in
theorem nY (s:ByteArray) (c:Int) (w:World) :
    Calls Tryz.prog 188 #[.string s,.int .u8 c] w λe w'=>e= .returned (.int .i64 (Lib.indexByte s.data.toList c.toNat.toUInt8))/\w'=w:=Any.strings_IndexByte Tryz.KY s c w
open Go.RowKit in
theorem nZ (s p:ByteArray) (w:World) :
    Calls Tryz.prog 141 #[.string s,.string p] w λe w'=>e= .returned (.tuple #[.string ⟨(Lib.trimPrefix s.data.toList p.data.toList).toArray⟩,.bool (Lib.hasPrefix s.data.toList p.data.toList)])/\w'=w:=Any.strings_CutPrefix Tryz.KZ s p w
open Go.RowKit Go.Sort Go.Lib in
theorem th (n:Int) (h0 : -9223372036854775808<=n) (h1:n<=9223372036854775807) (w:World) (I:Lib.TabIs Tryz.prog w "internal/strconv.uint64pow10" .u64 Lib.pow10Tab) :
    Calls Tryz.prog 84 #[.int .i64 n] w λe w'=>e= .returned (.string ⟨(Lib.itoa n).toArray⟩)/\∃k os,w'=grow (w.drewN k) os:=Any.strconv_Itoa Tryz.Jo n h0 h1 w I
open Go.RowKit Go.Lib in
theorem oB (s sub:ByteArray) (m:Int) (w:World) (hs:s.size<4294967281) (hm:w.cell? ⟨7,0,none⟩=some (.int .i64 m)) :
    Calls Tryz.prog 123 #[.string s,.string sub] w λe w'=>e= .returned (.bool (Lib.contains s.data.toList sub.data.toList))/\w'=w:=Any.strings_Contains Tryz.KX s sub m w hs hm
open Go.RowKit Go.Lib in
theorem vH (s sub:ByteArray) (w:World) (h:w.ShapedOpen Tryz.prog) (hs:s.size<4294967281) :
    Calls Tryz.prog 123 #[.string s,.string sub] w λe w'=>e= .returned (.bool (Lib.contains s.data.toList sub.data.toList))/\w'=w:=Any.strings_Contains_shaped Tryz.Jp s sub w h hs
open Go.RowKit Go.Lib in
theorem jA (s:ByteArray) (w:World) (I:Lib.Utf8Tabs 5 6 w) :
    Calls Tryz.prog 121 #[.string s] w λe w'=>e= .returned (.tuple #[.int .i32 (Lib.decodeGo s).1,.int .i64 (Lib.decodeGo s).2])/\Below w.heap.size w w':=Any.utf8_DecodeRuneInString Tryz.KW s w I
end Go.Proofs
