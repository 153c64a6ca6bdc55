/- What the proof of the statement leans on (part 21). -/
import Derived.Shelf.Strings.Builder1
import Derived.Shelf.Strings.Builder2
import Derived.Shelf.Strings.OnBuilder
import Derived.Shelf.Small.Utf8
import Derived.Shelf.Small.Strs
import Derived.Shelf.Strings.BuilderF
import Derived.Shelf.Strings.BuilderK
import Derived.Shelf.Strings.Builder2Cap
import Derived.Shelf.Strconv.Itoa0
import Derived.Shelf.Strconv.Itoa1
import Derived.Shelf.LaysM
import Derived.Shelf.Strconv.Itoa2
import Derived.Shelf.Strconv.Itoa3
import Derived.Shelf.Strings.Search1
import Derived.Shelf.Strings.Search2
import Derived.Shelf.Strings.Search3
import Derived.Shelf.Strings.Cut
import Derived.Shelf.Strings.Shaped
import Derived.Shelf.Strings.LastIndexAll
import Derived.Shelf.Strings.Prefix
import Derived.Shelf.Unicode.Decode
import Derived.Shelf.Unicode.DecodeSlow
import Derived.Shelf.Unicode.DecodeAny
import Derived.Test.YtdihgdeciopfpaaGreatDoorProg
import Derived.Test.YtdihgdeciopfpaaGreatDoorQt

namespace Go.Proofs
open Go.Shelf
def Tryz.zN:Go.Shelf.Ren:=⟨fun| 137=>73| 217=>127| 266=>198|n=>n,fun| 9=>9| 5=>5| 3=>3|n=>n,fun|n=>n⟩
theorem Tryz.Ic:Go.Proofs.Lays.n137 Tryz.prog Tryz.zN:= {
  mixed:=by kernel_rfl
  f137:=Tryz.func73.trans (congrArg some (by kernel_rfl))
  f217:=Tryz.func127.trans (congrArg some (by kernel_rfl))
  f266:=Tryz.func198.trans (congrArg some (by kernel_rfl))
  t3:=Tryz.underlying3
  a3:=Tryz.isAgg3
  z3:=Tryz.sizeOf3
  v3:=Tryz.zeroValue3
  t5:=Tryz.underlying5
  a5:=Tryz.isAgg5
  z5:=Tryz.sizeOf5
  v5:=Tryz.zeroValue5
  t9:=Tryz.underlying9
  a9:=Tryz.isAgg9
  z9:=Tryz.sizeOf9
  v9:=Tryz.zeroValue9 }
def Tryz.wJ:Go.Shelf.Ren:=⟨fun| 171=>70| 243=>126| 246=>197| 283=>245| 284=>246| 285=>247| 286=>248| 129=>291| 317=>290| 318=>292| 319=>293| 320=>294| 337=>334| 338=>335|n=>n,fun| 3=>3| 9=>9| 2=>2| 4=>4| 171=>369| 0=>0| 53=>236| 37=>110| 5=>5| 173=>372| 212=>403| 51=>374| 20=>20| 213=>404| 46=>321| 232=>431| 233=>432|n=>n,fun| 17=>11| 18=>13| 19=>14|n=>n⟩
theorem Tryz.FZ:Go.Proofs.LaysM.n171 Tryz.prog Tryz.wJ:= {
  mixed:=by kernel_rfl
  f129:=Tryz.func291.trans (congrArg some (by kernel_rfl))
  f171:=Tryz.func70.trans (congrArg some (by kernel_rfl))
  f243:=Tryz.func126.trans (congrArg some (by kernel_rfl))
  f246:=Tryz.func197.trans (congrArg some (by kernel_rfl))
  f283:=Tryz.func245.trans (congrArg some (by kernel_rfl))
  f284:=Tryz.func246.trans (congrArg some (by kernel_rfl))
  f285:=Tryz.func247.trans (congrArg some (by kernel_rfl))
  f286:=Tryz.func248.trans (congrArg some (by kernel_rfl))
  f317:=Tryz.func290.trans (congrArg some (by kernel_rfl))
  f318:=Tryz.func292.trans (congrArg some (by kernel_rfl))
  f319:=Tryz.func293.trans (congrArg some (by kernel_rfl))
  f320:=Tryz.func294.trans (congrArg some (by kernel_rfl))
  f337:=Tryz.func334.trans (congrArg some (by kernel_rfl))
  f338:=Tryz.func335.trans (congrArg some (by kernel_rfl))
  t0:=Tryz.underlying0
  a0:=Tryz.isAgg0
  z0:=Tryz.sizeOf0
  v0:=Tryz.zeroValue0
  t2:=Tryz.underlying2
  a2:=Tryz.isAgg2
  z2:=Tryz.sizeOf2
  v2:=Tryz.zeroValue2
  t3:=Tryz.underlying3
  a3:=Tryz.isAgg3
  z3:=Tryz.sizeOf3
  v3:=Tryz.zeroValue3
  t4:=Tryz.underlying4
  a4:=Tryz.isAgg4
  z4:=Tryz.sizeOf4
  v4:=Tryz.zeroValue4
  t5:=Tryz.underlying5
  a5:=Tryz.isAgg5
  z5:=Tryz.sizeOf5
  v5:=Tryz.zeroValue5
  t9:=Tryz.underlying9
  a9:=Tryz.isAgg9
  z9:=Tryz.sizeOf9
  v9:=Tryz.zeroValue9
  t20:=Tryz.underlying20
  a20:=Tryz.isAgg20
  z20:=Tryz.sizeOf20
  v20:=Tryz.zeroValue20
  t37:=Tryz.underlying110
  a37:=Tryz.isAgg110
  z37:=Tryz.sizeOf110
  v37:=Tryz.zeroValue110
  t46:=Tryz.underlying321
  a46:=Tryz.isAgg321
  z46:=Tryz.sizeOf321
  v46:=Tryz.zeroValue321
  t51:=Tryz.underlying374
  a51:=Tryz.isAgg374
  z51:=Tryz.sizeOf374
  v51:=Tryz.zeroValue374
  t53:=Tryz.underlying236
  a53:=Tryz.isAgg236
  z53:=Tryz.sizeOf236
  v53:=Tryz.zeroValue236
  t171:=Tryz.underlying369
  a171:=Tryz.isAgg369
  z171:=Tryz.sizeOf369
  v171:=Tryz.zeroValue369
  t173:=Tryz.underlying372
  a173:=Tryz.isAgg372
  z173:=Tryz.sizeOf372
  v173:=Tryz.zeroValue372
  t212:=Tryz.underlying403
  a212:=Tryz.isAgg403
  z212:=Tryz.sizeOf403
  v212:=Tryz.zeroValue403
  t213:=Tryz.underlying404
  a213:=Tryz.isAgg404
  z213:=Tryz.sizeOf404
  t232:=Tryz.underlying431
  a232:=Tryz.isAgg431
  z232:=Tryz.sizeOf431
  v232:=Tryz.zeroValue431
  t233:=Tryz.underlying432
  a233:=Tryz.isAgg432
  z233:=Tryz.sizeOf432
  v233:=Tryz.zeroValue432
  g17:=by kernel_rfl
  g18:=by kernel_rfl
  g19:=by kernel_rfl
  i0:=by kernel_rfl
  i2:=by kernel_rfl
  i3:=by kernel_rfl
  i4:=by kernel_rfl
  i5:=by kernel_rfl
  i9:=by kernel_rfl
  i20:=by kernel_rfl
  i37:=by kernel_rfl
  i46:=by kernel_rfl
  i51:=by kernel_rfl
  i53:=by kernel_rfl
  i171:=by kernel_rfl
  i173:=by kernel_rfl
  i212:=by kernel_rfl
  i232:=by kernel_rfl
  i233:=by kernel_rfl
  m17:=by kernel_rfl
  m18:=by kernel_rfl
  m19:=by kernel_rfl }
def Tryz.zL:Go.Shelf.Ren:=⟨fun| 144=>285| 143=>298| 219=>128| 217=>127| 225=>199| 224=>200| 267=>201| 266=>198| 314=>249|n=>n,fun| 9=>9| 4=>4| 3=>3| 5=>5| 46=>321| 146=>375| 51=>374|n=>n,fun| 1=>2|n=>n⟩
theorem Tryz.Ia:Go.Proofs.Lays.n144 Tryz.prog Tryz.zL:= {
  mixed:=by kernel_rfl
  f143:=Tryz.func298.trans (congrArg some (by kernel_rfl))
  f144:=Tryz.func285.trans (congrArg some (by kernel_rfl))
  f217:=Tryz.func127.trans (congrArg some (by kernel_rfl))
  f219:=Tryz.func128.trans (congrArg some (by kernel_rfl))
  f224:=Tryz.func200.trans (congrArg some (by kernel_rfl))
  f225:=Tryz.func199.trans (congrArg some (by kernel_rfl))
  f266:=Tryz.func198.trans (congrArg some (by kernel_rfl))
  f267:=Tryz.func201.trans (congrArg some (by kernel_rfl))
  f314:=Tryz.func249.trans (congrArg some (by kernel_rfl))
  t3:=Tryz.underlying3
  a3:=Tryz.isAgg3
  z3:=Tryz.sizeOf3
  v3:=Tryz.zeroValue3
  t4:=Tryz.underlying4
  a4:=Tryz.isAgg4
  z4:=Tryz.sizeOf4
  v4:=Tryz.zeroValue4
  t5:=Tryz.underlying5
  a5:=Tryz.isAgg5
  z5:=Tryz.sizeOf5
  v5:=Tryz.zeroValue5
  t9:=Tryz.underlying9
  a9:=Tryz.isAgg9
  z9:=Tryz.sizeOf9
  v9:=Tryz.zeroValue9
  t46:=Tryz.underlying321
  a46:=Tryz.isAgg321
  z46:=Tryz.sizeOf321
  v46:=Tryz.zeroValue321
  t51:=Tryz.underlying374
  a51:=Tryz.isAgg374
  z51:=Tryz.sizeOf374
  v51:=Tryz.zeroValue374
  t146:=Tryz.underlying375
  a146:=Tryz.isAgg375
  z146:=Tryz.sizeOf375
  v146:=Tryz.zeroValue375
  g1:=by kernel_rfl }
def Tryz.wK:Go.Shelf.Ren:=⟨fun| 144=>285| 143=>298| 219=>128| 217=>127| 225=>199| 224=>200| 267=>201| 266=>198| 314=>249|n=>n,fun| 9=>9| 4=>4| 3=>3| 5=>5| 46=>321| 146=>375| 51=>374|n=>n,fun| 1=>2|n=>n⟩
theorem Tryz.F0:Go.Proofs.LaysM.n144 Tryz.prog Tryz.wK:= {
  mixed:=by kernel_rfl
  f143:=Tryz.func298.trans (congrArg some (by kernel_rfl))
  f144:=Tryz.func285.trans (congrArg some (by kernel_rfl))
  f217:=Tryz.func127.trans (congrArg some (by kernel_rfl))
  f219:=Tryz.func128.trans (congrArg some (by kernel_rfl))
  f224:=Tryz.func200.trans (congrArg some (by kernel_rfl))
  f225:=Tryz.func199.trans (congrArg some (by kernel_rfl))
  f266:=Tryz.func198.trans (congrArg some (by kernel_rfl))
  f267:=Tryz.func201.trans (congrArg some (by kernel_rfl))
  f314:=Tryz.func249.trans (congrArg some (by kernel_rfl))
  t3:=Tryz.underlying3
  a3:=Tryz.isAgg3
  z3:=Tryz.sizeOf3
  v3:=Tryz.zeroValue3
  t4:=Tryz.underlying4
  a4:=Tryz.isAgg4
  z4:=Tryz.sizeOf4
  v4:=Tryz.zeroValue4
  t5:=Tryz.underlying5
  a5:=Tryz.isAgg5
  z5:=Tryz.sizeOf5
  v5:=Tryz.zeroValue5
  t9:=Tryz.underlying9
  a9:=Tryz.isAgg9
  z9:=Tryz.sizeOf9
  v9:=Tryz.zeroValue9
  t46:=Tryz.underlying321
  a46:=Tryz.isAgg321
  z46:=Tryz.sizeOf321
  v46:=Tryz.zeroValue321
  t51:=Tryz.underlying374
  a51:=Tryz.isAgg374
  z51:=Tryz.sizeOf374
  v51:=Tryz.zeroValue374
  t146:=Tryz.underlying375
  a146:=Tryz.isAgg375
  z146:=Tryz.sizeOf375
  v146:=Tryz.zeroValue375
  g1:=by kernel_rfl
  i3:=by kernel_rfl
  i4:=by kernel_rfl
  i5:=by kernel_rfl
  i9:=by kernel_rfl
  i46:=by kernel_rfl
  i51:=by kernel_rfl
  i146:=by kernel_rfl
  m1:=by kernel_rfl
  s1_3:=fun w h=>Go.Proofs.cell_of_shapedOpen_int (zero:= #[.int .i64 0]) (t:=3) h (of_decide_eq_true (by kernel_rfl)) (by kernel_rfl) rfl (by kernel_rfl) (by kernel_rfl) Tryz.underlying3 }
def Tryz.zI:Go.Shelf.Ren:=⟨fun| 197=>150| 260=>210|n=>n,fun| 9=>9| 21=>21| 3=>3| 4=>4| 5=>5| 105=>250| 119=>336| 0=>0| 46=>321| 139=>339| 138=>338|n=>n,fun| 3=>6| 4=>7|n=>n⟩
theorem Tryz.H7:Go.Proofs.Lays.n197 Tryz.prog Tryz.zI:= {
  mixed:=by kernel_rfl
  f197:=Tryz.func150.trans (congrArg some (by kernel_rfl))
  f260:=Tryz.func210.trans (congrArg some (by kernel_rfl))
  t0:=Tryz.underlying0
  a0:=Tryz.isAgg0
  z0:=Tryz.sizeOf0
  v0:=Tryz.zeroValue0
  t3:=Tryz.underlying3
  a3:=Tryz.isAgg3
  z3:=Tryz.sizeOf3
  v3:=Tryz.zeroValue3
  t4:=Tryz.underlying4
  a4:=Tryz.isAgg4
  z4:=Tryz.sizeOf4
  v4:=Tryz.zeroValue4
  t5:=Tryz.underlying5
  a5:=Tryz.isAgg5
  z5:=Tryz.sizeOf5
  v5:=Tryz.zeroValue5
  t9:=Tryz.underlying9
  a9:=Tryz.isAgg9
  z9:=Tryz.sizeOf9
  v9:=Tryz.zeroValue9
  t21:=Tryz.underlying21
  a21:=Tryz.isAgg21
  z21:=Tryz.sizeOf21
  v21:=Tryz.zeroValue21
  t46:=Tryz.underlying321
  a46:=Tryz.isAgg321
  z46:=Tryz.sizeOf321
  v46:=Tryz.zeroValue321
  t105:=Tryz.underlying250
  a105:=Tryz.isAgg250
  z105:=Tryz.sizeOf250
  v105:=Tryz.zeroValue250
  t119:=Tryz.underlying336
  a119:=Tryz.isAgg336
  z119:=Tryz.sizeOf336
  t138:=Tryz.underlying338
  a138:=Tryz.isAgg338
  z138:=Tryz.sizeOf338
  v138:=Tryz.zeroValue338
  t139:=Tryz.underlying339
  a139:=Tryz.isAgg339
  z139:=Tryz.sizeOf339
  v139:=Tryz.zeroValue339
  g3:=by kernel_rfl
  g4:=by kernel_rfl }
open Go.RowKit in
theorem Tryz.strings_IndexByte (s:ByteArray) (c:Int) (w:World) :
    Calls Tryz.prog 73 #[.string s,.int .u8 c] w fun e w'=>e= .returned (.int .i64 (Lib.indexByte s.data.toList c.toNat.toUInt8))/\w'=w:=Any.strings_IndexByte Tryz.Ic s c w
open Go.RowKit Go.Sort Go.Lib in
theorem Tryz.strconv_Itoa (n:Int) (h0 : -9223372036854775808<=n) (h1:n<=9223372036854775807) (w:World) (htab:Lib.TabIs Tryz.prog w "internal/strconv.uint64pow10" .u64 Lib.pow10Tab) :
    Calls Tryz.prog 70 #[.int .i64 n] w fun e w'=>e= .returned (.string ⟨(Lib.itoa n).toArray⟩)/\∃k os,w'=grow (w.drewN k) os:=Any.strconv_Itoa Tryz.FZ n h0 h1 w htab
open Go.RowKit Go.Lib in
theorem Tryz.strings_Contains (s sub:ByteArray) (m:Int) (w:World) (hs:s.size<4294967281) (hm:w.cell? ⟨2,0,none⟩=some (.int .i64 m)) :
    Calls Tryz.prog 285 #[.string s,.string sub] w fun e w'=>e= .returned (.bool (Lib.contains s.data.toList sub.data.toList))/\w'=w:=Any.strings_Contains Tryz.Ia s sub m w hs hm
open Go.RowKit Go.Lib in
theorem Tryz.strings_Contains_shaped (s sub:ByteArray) (w:World) (h:w.ShapedOpen Tryz.prog) (hs:s.size<4294967281) :
    Calls Tryz.prog 285 #[.string s,.string sub] w fun e w'=>e= .returned (.bool (Lib.contains s.data.toList sub.data.toList))/\w'=w:=Any.strings_Contains_shaped Tryz.F0 s sub w h hs
open Go.RowKit Go.Lib in
theorem Tryz.utf8_DecodeRuneInString (s:ByteArray) (w:World) (hT:Lib.Utf8Tabs 6 7 w) :
    Calls Tryz.prog 150 #[.string s] w fun e w'=>e= .returned (.tuple #[.int .i32 (Lib.decodeGo s).1,.int .i64 (Lib.decodeGo s).2])/\Below w.heap.size w w':=Any.utf8_DecodeRuneInString Tryz.H7 s w hT
end Go.Proofs
