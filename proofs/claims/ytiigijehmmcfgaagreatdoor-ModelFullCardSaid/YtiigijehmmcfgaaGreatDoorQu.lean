/- What the proof of the statement leans on (part 21). -/
import Derived.Shelf.Strings.Builder1
import Derived.Shelf.Strings.Builder2
import Derived.Shelf.Small.Utf8
import Derived.Shelf.Small.Strs
import Derived.Shelf.Strings.BuilderF
import Derived.Shelf.Strconv.Itoa0
import Derived.Shelf.Strconv.Itoa1
import Derived.Shelf.LaysM
import Derived.Shelf.Strconv.Itoa2
import Derived.Shelf.Strconv.Itoa3
import Derived.Shelf.Strings.Search1
import Derived.Shelf.Strings.Search2
import Derived.Shelf.Strings.Search3
import Derived.Shelf.Strings.Shaped
import Derived.Shelf.Strings.LastIndexAll
import Derived.Shelf.Strings.Prefix
import Derived.Shelf.Unicode.DecodeSlow
import Derived.Shelf.Unicode.DecodeAny
import Derived.Test.YtiigijehmmcfgaaGreatDoorProg
import Derived.Test.YtiigijehmmcfgaaGreatDoorQt

namespace Go.Proofs
open Go.Shelf
def Tryz.zL:Go.Shelf.Ren:=⟨fun| 137=>40| 217=>74| 266=>92|n=>n,fun| 9=>9| 5=>5| 3=>3|n=>n,fun|n=>n⟩
theorem Tryz.Gv:Go.Proofs.Lays.n137 Tryz.prog Tryz.zL:= {
  mixed:=by kernel_rfl
  f137:=Tryz.func40.trans (congrArg some (by kernel_rfl))
  f217:=Tryz.func74.trans (congrArg some (by kernel_rfl))
  f266:=Tryz.func92.trans (congrArg some (by kernel_rfl))
  t3:=Tryz.underlying3
  a3:=Tryz.isAgg3
  z3:=Tryz.sizeOf3
  v3:=Tryz.zeroValue3
  t5:=Tryz.underlying5
  a5:=Tryz.isAgg5
  z5:=Tryz.sizeOf5
  v5:=Tryz.zeroValue5
  t9:=Tryz.underlying9
  a9:=Tryz.isAgg9
  z9:=Tryz.sizeOf9
  v9:=Tryz.zeroValue9 }
def Tryz.xF:Go.Shelf.Ren:=⟨fun| 171=>139| 243=>149| 246=>152| 283=>157| 284=>158| 285=>159| 286=>160| 129=>169| 317=>168| 318=>170| 319=>171| 320=>172| 337=>176| 338=>177|n=>n,fun| 3=>3| 9=>9| 2=>2| 4=>4| 171=>200| 0=>0| 53=>81| 37=>34| 5=>5| 173=>203| 212=>209| 51=>130| 20=>20| 213=>210| 46=>61| 232=>213| 233=>214|n=>n,fun| 17=>5| 18=>6| 19=>7|n=>n⟩
theorem Tryz.E1:Go.Proofs.LaysM.n171 Tryz.prog Tryz.xF:= {
  mixed:=by kernel_rfl
  f129:=Tryz.func169.trans (congrArg some (by kernel_rfl))
  f171:=Tryz.func139.trans (congrArg some (by kernel_rfl))
  f243:=Tryz.func149.trans (congrArg some (by kernel_rfl))
  f246:=Tryz.func152.trans (congrArg some (by kernel_rfl))
  f283:=Tryz.func157.trans (congrArg some (by kernel_rfl))
  f284:=Tryz.func158.trans (congrArg some (by kernel_rfl))
  f285:=Tryz.func159.trans (congrArg some (by kernel_rfl))
  f286:=Tryz.func160.trans (congrArg some (by kernel_rfl))
  f317:=Tryz.func168.trans (congrArg some (by kernel_rfl))
  f318:=Tryz.func170.trans (congrArg some (by kernel_rfl))
  f319:=Tryz.func171.trans (congrArg some (by kernel_rfl))
  f320:=Tryz.func172.trans (congrArg some (by kernel_rfl))
  f337:=Tryz.func176.trans (congrArg some (by kernel_rfl))
  f338:=Tryz.func177.trans (congrArg some (by kernel_rfl))
  t0:=Tryz.underlying0
  a0:=Tryz.isAgg0
  z0:=Tryz.sizeOf0
  v0:=Tryz.zeroValue0
  t2:=Tryz.underlying2
  a2:=Tryz.isAgg2
  z2:=Tryz.sizeOf2
  v2:=Tryz.zeroValue2
  t3:=Tryz.underlying3
  a3:=Tryz.isAgg3
  z3:=Tryz.sizeOf3
  v3:=Tryz.zeroValue3
  t4:=Tryz.underlying4
  a4:=Tryz.isAgg4
  z4:=Tryz.sizeOf4
  v4:=Tryz.zeroValue4
  t5:=Tryz.underlying5
  a5:=Tryz.isAgg5
  z5:=Tryz.sizeOf5
  v5:=Tryz.zeroValue5
  t9:=Tryz.underlying9
  a9:=Tryz.isAgg9
  z9:=Tryz.sizeOf9
  v9:=Tryz.zeroValue9
  t20:=Tryz.underlying20
  a20:=Tryz.isAgg20
  z20:=Tryz.sizeOf20
  v20:=Tryz.zeroValue20
  t37:=Tryz.underlying34
  a37:=Tryz.isAgg34
  z37:=Tryz.sizeOf34
  v37:=Tryz.zeroValue34
  t46:=Tryz.underlying61
  a46:=Tryz.isAgg61
  z46:=Tryz.sizeOf61
  v46:=Tryz.zeroValue61
  t51:=Tryz.underlying130
  a51:=Tryz.isAgg130
  z51:=Tryz.sizeOf130
  v51:=Tryz.zeroValue130
  t53:=Tryz.underlying81
  a53:=Tryz.isAgg81
  z53:=Tryz.sizeOf81
  v53:=Tryz.zeroValue81
  t171:=Tryz.underlying200
  a171:=Tryz.isAgg200
  z171:=Tryz.sizeOf200
  v171:=Tryz.zeroValue200
  t173:=Tryz.underlying203
  a173:=Tryz.isAgg203
  z173:=Tryz.sizeOf203
  v173:=Tryz.zeroValue203
  t212:=Tryz.underlying209
  a212:=Tryz.isAgg209
  z212:=Tryz.sizeOf209
  v212:=Tryz.zeroValue209
  t213:=Tryz.underlying210
  a213:=Tryz.isAgg210
  z213:=Tryz.sizeOf210
  t232:=Tryz.underlying213
  a232:=Tryz.isAgg213
  z232:=Tryz.sizeOf213
  v232:=Tryz.zeroValue213
  t233:=Tryz.underlying214
  a233:=Tryz.isAgg214
  z233:=Tryz.sizeOf214
  v233:=Tryz.zeroValue214
  g17:=by kernel_rfl
  g18:=by kernel_rfl
  g19:=by kernel_rfl
  i0:=by kernel_rfl
  i2:=by kernel_rfl
  i3:=by kernel_rfl
  i4:=by kernel_rfl
  i5:=by kernel_rfl
  i9:=by kernel_rfl
  i20:=by kernel_rfl
  i37:=by kernel_rfl
  i46:=by kernel_rfl
  i51:=by kernel_rfl
  i53:=by kernel_rfl
  i171:=by kernel_rfl
  i173:=by kernel_rfl
  i212:=by kernel_rfl
  i232:=by kernel_rfl
  i233:=by kernel_rfl
  m17:=by kernel_rfl
  m18:=by kernel_rfl
  m19:=by kernel_rfl }
def Tryz.zK:Go.Shelf.Ren:=⟨fun| 144=>144| 143=>150| 219=>153| 217=>74| 225=>161| 224=>162| 267=>163| 266=>92| 314=>173|n=>n,fun| 9=>9| 4=>4| 3=>3| 5=>5| 46=>61| 146=>131| 51=>130|n=>n,fun| 1=>2|n=>n⟩
theorem Tryz.Gu:Go.Proofs.Lays.n144 Tryz.prog Tryz.zK:= {
  mixed:=by kernel_rfl
  f143:=Tryz.func150.trans (congrArg some (by kernel_rfl))
  f144:=Tryz.func144.trans (congrArg some (by kernel_rfl))
  f217:=Tryz.func74.trans (congrArg some (by kernel_rfl))
  f219:=Tryz.func153.trans (congrArg some (by kernel_rfl))
  f224:=Tryz.func162.trans (congrArg some (by kernel_rfl))
  f225:=Tryz.func161.trans (congrArg some (by kernel_rfl))
  f266:=Tryz.func92.trans (congrArg some (by kernel_rfl))
  f267:=Tryz.func163.trans (congrArg some (by kernel_rfl))
  f314:=Tryz.func173.trans (congrArg some (by kernel_rfl))
  t3:=Tryz.underlying3
  a3:=Tryz.isAgg3
  z3:=Tryz.sizeOf3
  v3:=Tryz.zeroValue3
  t4:=Tryz.underlying4
  a4:=Tryz.isAgg4
  z4:=Tryz.sizeOf4
  v4:=Tryz.zeroValue4
  t5:=Tryz.underlying5
  a5:=Tryz.isAgg5
  z5:=Tryz.sizeOf5
  v5:=Tryz.zeroValue5
  t9:=Tryz.underlying9
  a9:=Tryz.isAgg9
  z9:=Tryz.sizeOf9
  v9:=Tryz.zeroValue9
  t46:=Tryz.underlying61
  a46:=Tryz.isAgg61
  z46:=Tryz.sizeOf61
  v46:=Tryz.zeroValue61
  t51:=Tryz.underlying130
  a51:=Tryz.isAgg130
  z51:=Tryz.sizeOf130
  v51:=Tryz.zeroValue130
  t146:=Tryz.underlying131
  a146:=Tryz.isAgg131
  z146:=Tryz.sizeOf131
  v146:=Tryz.zeroValue131
  g1:=by kernel_rfl }
def Tryz.xG:Go.Shelf.Ren:=⟨fun| 144=>144| 143=>150| 219=>153| 217=>74| 225=>161| 224=>162| 267=>163| 266=>92| 314=>173|n=>n,fun| 9=>9| 4=>4| 3=>3| 5=>5| 46=>61| 146=>131| 51=>130|n=>n,fun| 1=>2|n=>n⟩
theorem Tryz.E2:Go.Proofs.LaysM.n144 Tryz.prog Tryz.xG:= {
  mixed:=by kernel_rfl
  f143:=Tryz.func150.trans (congrArg some (by kernel_rfl))
  f144:=Tryz.func144.trans (congrArg some (by kernel_rfl))
  f217:=Tryz.func74.trans (congrArg some (by kernel_rfl))
  f219:=Tryz.func153.trans (congrArg some (by kernel_rfl))
  f224:=Tryz.func162.trans (congrArg some (by kernel_rfl))
  f225:=Tryz.func161.trans (congrArg some (by kernel_rfl))
  f266:=Tryz.func92.trans (congrArg some (by kernel_rfl))
  f267:=Tryz.func163.trans (congrArg some (by kernel_rfl))
  f314:=Tryz.func173.trans (congrArg some (by kernel_rfl))
  t3:=Tryz.underlying3
  a3:=Tryz.isAgg3
  z3:=Tryz.sizeOf3
  v3:=Tryz.zeroValue3
  t4:=Tryz.underlying4
  a4:=Tryz.isAgg4
  z4:=Tryz.sizeOf4
  v4:=Tryz.zeroValue4
  t5:=Tryz.underlying5
  a5:=Tryz.isAgg5
  z5:=Tryz.sizeOf5
  v5:=Tryz.zeroValue5
  t9:=Tryz.underlying9
  a9:=Tryz.isAgg9
  z9:=Tryz.sizeOf9
  v9:=Tryz.zeroValue9
  t46:=Tryz.underlying61
  a46:=Tryz.isAgg61
  z46:=Tryz.sizeOf61
  v46:=Tryz.zeroValue61
  t51:=Tryz.underlying130
  a51:=Tryz.isAgg130
  z51:=Tryz.sizeOf130
  v51:=Tryz.zeroValue130
  t146:=Tryz.underlying131
  a146:=Tryz.isAgg131
  z146:=Tryz.sizeOf131
  v146:=Tryz.zeroValue131
  g1:=by kernel_rfl
  i3:=by kernel_rfl
  i4:=by kernel_rfl
  i5:=by kernel_rfl
  i9:=by kernel_rfl
  i46:=by kernel_rfl
  i51:=by kernel_rfl
  i146:=by kernel_rfl
  m1:=by kernel_rfl
  s1_3:=fun w h=>Go.Proofs.cell_of_shapedOpen_int (zero:= #[.int .i64 0]) (t:=3) h (of_decide_eq_true (by kernel_rfl)) (by kernel_rfl) rfl (by kernel_rfl) (by kernel_rfl) Tryz.underlying3 }
def Tryz.zH:Go.Shelf.Ren:=⟨fun| 197=>83| 260=>94|n=>n,fun| 9=>9| 21=>21| 3=>3| 4=>4| 5=>5| 105=>67| 119=>57| 0=>0| 46=>61| 139=>60| 138=>59|n=>n,fun| 3=>0| 4=>1|n=>n⟩
theorem Tryz.Gr:Go.Proofs.Lays.n197 Tryz.prog Tryz.zH:= {
  mixed:=by kernel_rfl
  f197:=Tryz.func83.trans (congrArg some (by kernel_rfl))
  f260:=Tryz.func94.trans (congrArg some (by kernel_rfl))
  t0:=Tryz.underlying0
  a0:=Tryz.isAgg0
  z0:=Tryz.sizeOf0
  v0:=Tryz.zeroValue0
  t3:=Tryz.underlying3
  a3:=Tryz.isAgg3
  z3:=Tryz.sizeOf3
  v3:=Tryz.zeroValue3
  t4:=Tryz.underlying4
  a4:=Tryz.isAgg4
  z4:=Tryz.sizeOf4
  v4:=Tryz.zeroValue4
  t5:=Tryz.underlying5
  a5:=Tryz.isAgg5
  z5:=Tryz.sizeOf5
  v5:=Tryz.zeroValue5
  t9:=Tryz.underlying9
  a9:=Tryz.isAgg9
  z9:=Tryz.sizeOf9
  v9:=Tryz.zeroValue9
  t21:=Tryz.underlying21
  a21:=Tryz.isAgg21
  z21:=Tryz.sizeOf21
  v21:=Tryz.zeroValue21
  t46:=Tryz.underlying61
  a46:=Tryz.isAgg61
  z46:=Tryz.sizeOf61
  v46:=Tryz.zeroValue61
  t105:=Tryz.underlying67
  a105:=Tryz.isAgg67
  z105:=Tryz.sizeOf67
  v105:=Tryz.zeroValue67
  t119:=Tryz.underlying57
  a119:=Tryz.isAgg57
  z119:=Tryz.sizeOf57
  t138:=Tryz.underlying59
  a138:=Tryz.isAgg59
  z138:=Tryz.sizeOf59
  v138:=Tryz.zeroValue59
  t139:=Tryz.underlying60
  a139:=Tryz.isAgg60
  z139:=Tryz.sizeOf60
  v139:=Tryz.zeroValue60
  g3:=by kernel_rfl
  g4:=by kernel_rfl }
open Go.RowKit in
theorem Tryz.strings_IndexByte (s:ByteArray) (c:Int) (w:World) :
    Calls Tryz.prog 40 #[.string s,.int .u8 c] w fun e w'=>e= .returned (.int .i64 (Lib.indexByte s.data.toList c.toNat.toUInt8))/\w'=w:=Any.strings_IndexByte Tryz.Gv s c w
open Go.RowKit Go.Sort Go.Lib in
theorem Tryz.strconv_Itoa (n:Int) (h0 : -9223372036854775808<=n) (h1:n<=9223372036854775807) (w:World) (htab:Lib.TabIs Tryz.prog w "internal/strconv.uint64pow10" .u64 Lib.pow10Tab) :
    Calls Tryz.prog 139 #[.int .i64 n] w fun e w'=>e= .returned (.string ⟨(Lib.itoa n).toArray⟩)/\∃k os,w'=grow (w.drewN k) os:=Any.strconv_Itoa Tryz.E1 n h0 h1 w htab
open Go.RowKit Go.Lib in
theorem Tryz.strings_Contains (s sub:ByteArray) (m:Int) (w:World) (hs:s.size<4294967281) (hm:w.cell? ⟨2,0,none⟩=some (.int .i64 m)) :
    Calls Tryz.prog 144 #[.string s,.string sub] w fun e w'=>e= .returned (.bool (Lib.contains s.data.toList sub.data.toList))/\w'=w:=Any.strings_Contains Tryz.Gu s sub m w hs hm
open Go.RowKit Go.Lib in
theorem Tryz.strings_Contains_shaped (s sub:ByteArray) (w:World) (h:w.ShapedOpen Tryz.prog) (hs:s.size<4294967281) :
    Calls Tryz.prog 144 #[.string s,.string sub] w fun e w'=>e= .returned (.bool (Lib.contains s.data.toList sub.data.toList))/\w'=w:=Any.strings_Contains_shaped Tryz.E2 s sub w h hs
open Go.RowKit Go.Lib in
theorem Tryz.utf8_DecodeRuneInString (s:ByteArray) (w:World) (hT:Lib.Utf8Tabs 0 1 w) :
    Calls Tryz.prog 83 #[.string s] w fun e w'=>e= .returned (.tuple #[.int .i32 (Lib.decodeGo s).1,.int .i64 (Lib.decodeGo s).2])/\Below w.heap.size w w':=Any.utf8_DecodeRuneInString Tryz.Gr s w hT
end Go.Proofs
