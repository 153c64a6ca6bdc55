/- What the proof of the statement leans on (part 18). -/
import Derived.Shelf.Small.Utf8
import Derived.Shelf.Small.Strs
import Derived.Shelf.Small.Wraps
import Derived.Shelf.Strconv.Itoa0
import Derived.Shelf.Strconv.Itoa1
import Derived.Shelf.LaysM
import Derived.Shelf.Strconv.Itoa2
import Derived.Shelf.Strconv.Itoa3
import Derived.Shelf.Strconv.Itoa4
import Derived.Shelf.Strconv.ParseIntEmpty
import Derived.Shelf.Strconv.Clone
import Derived.Shelf.Strconv.SyntaxError
import Derived.Shelf.LaysC
import Derived.Shelf.Strconv.ToError
import Derived.Shelf.Strconv.Lower
import Derived.Shelf.Strconv.ParseUint10
import Derived.Shelf.Strconv.ParseUint10Empty
import Derived.Shelf.Strconv.ParseUint10Any
import Derived.Shelf.Strconv.ParseInt10
import Derived.Shelf.Strconv.RangeError
import Derived.Shelf.Strconv.ToErrorRange
import Derived.Shelf.Strconv.ParseUintEmpty
import Derived.Shelf.Strconv.ParseUint10b64
import Derived.Shelf.Strconv.ParseUint10b32
import Derived.Shelf.Strconv.ParseUint10b16
import Derived.Shelf.Strconv.ParseUint10b8
import Derived.Shelf.Strconv.ParseUint10At
import Derived.Shelf.Strconv.ParseInt10At64
import Derived.Shelf.Strconv.ParseInt10At32
import Derived.Shelf.Strconv.ParseInt10At16
import Derived.Shelf.Strconv.ParseInt10At8
import Derived.Shelf.Strconv.ParseInt10All
import Derived.Shelf.Strconv.ParseIntPublic10
import Derived.Shelf.Strconv.ErrVarParseInt
import Derived.Shelf.Strings.Search1
import Derived.Shelf.Strings.Search2
import Derived.Shelf.Strings.Search3
import Derived.Shelf.Strings.Shaped
import Derived.Shelf.Strings.Prefix
import Derived.Shelf.Strings.Runes
import Derived.Shelf.Strings.AsciiSet
import Derived.Shelf.Unicode.DecodeSlow
import Derived.Shelf.Unicode.DecodeAny
import Derived.Test.YtdgckfkoihcmjaaGreatDoorProg
import Derived.Test.YtdgckfkoihcmjaaGreatDoorQq

namespace Go.Proofs
open Go.Shelf
def Tryz.A3:Go.Shelf.Ren:=⟨fun| 137=>200| 217=>178| 266=>193|n=>n,fun| 9=>9| 5=>5| 3=>3|n=>n,fun|n=>n⟩
theorem Tryz.Ja:Go.Proofs.Lays.n137 Tryz.prog Tryz.A3:= {
  mixed:=by kernel_rfl
  f137:=Tryz.func200.trans (congrArg some (by kernel_rfl))
  f217:=Tryz.func178.trans (congrArg some (by kernel_rfl))
  f266:=Tryz.func193.trans (congrArg some (by kernel_rfl))
  t3:=Tryz.underlying3
  a3:=Tryz.isAgg3
  z3:=Tryz.sizeOf3
  v3:=Tryz.zeroValue3
  t5:=Tryz.underlying5
  a5:=Tryz.isAgg5
  z5:=Tryz.sizeOf5
  v5:=Tryz.zeroValue5
  t9:=Tryz.underlying9
  a9:=Tryz.isAgg9
  z9:=Tryz.sizeOf9
  v9:=Tryz.zeroValue9 }
def Tryz.A6:Go.Shelf.Ren:=⟨fun| 103=>157| 210=>174| 206=>188|n=>n,fun| 9=>9| 4=>4| 24=>102| 3=>3|n=>n,fun|n=>n⟩
theorem Tryz.Jd:Go.Proofs.Lays.n103 Tryz.prog Tryz.A6:= {
  mixed:=by kernel_rfl
  f103:=Tryz.func157.trans (congrArg some (by kernel_rfl))
  f206:=Tryz.func188.trans (congrArg some (by kernel_rfl))
  f210:=Tryz.func174.trans (congrArg some (by kernel_rfl))
  t3:=Tryz.underlying3
  a3:=Tryz.isAgg3
  z3:=Tryz.sizeOf3
  v3:=Tryz.zeroValue3
  t4:=Tryz.underlying4
  a4:=Tryz.isAgg4
  z4:=Tryz.sizeOf4
  v4:=Tryz.zeroValue4
  t9:=Tryz.underlying9
  a9:=Tryz.isAgg9
  z9:=Tryz.sizeOf9
  v9:=Tryz.zeroValue9
  t24:=Tryz.underlying102
  a24:=Tryz.isAgg102
  z24:=Tryz.sizeOf102
  v24:=Tryz.zeroValue102 }
def Tryz.yK:Go.Shelf.Ren:=⟨fun| 171=>100| 243=>141| 246=>77| 283=>116| 284=>117| 285=>118| 286=>119| 129=>149| 317=>148| 318=>150| 319=>151| 320=>152| 337=>170| 338=>171|n=>n,fun| 3=>3| 9=>9| 2=>2| 4=>4| 171=>218| 0=>0| 53=>130| 37=>106| 5=>5| 173=>221| 212=>244| 51=>245| 20=>20| 213=>246| 46=>230| 232=>274| 233=>275|n=>n,fun| 17=>4| 18=>11| 19=>12|n=>n⟩
theorem Tryz.GW:Go.Proofs.LaysM.n171 Tryz.prog Tryz.yK:= {
  mixed:=by kernel_rfl
  f129:=Tryz.func149.trans (congrArg some (by kernel_rfl))
  f171:=Tryz.func100.trans (congrArg some (by kernel_rfl))
  f243:=Tryz.func141.trans (congrArg some (by kernel_rfl))
  f246:=Tryz.func77.trans (congrArg some (by kernel_rfl))
  f283:=Tryz.func116.trans (congrArg some (by kernel_rfl))
  f284:=Tryz.func117.trans (congrArg some (by kernel_rfl))
  f285:=Tryz.func118.trans (congrArg some (by kernel_rfl))
  f286:=Tryz.func119.trans (congrArg some (by kernel_rfl))
  f317:=Tryz.func148.trans (congrArg some (by kernel_rfl))
  f318:=Tryz.func150.trans (congrArg some (by kernel_rfl))
  f319:=Tryz.func151.trans (congrArg some (by kernel_rfl))
  f320:=Tryz.func152.trans (congrArg some (by kernel_rfl))
  f337:=Tryz.func170.trans (congrArg some (by kernel_rfl))
  f338:=Tryz.func171.trans (congrArg some (by kernel_rfl))
  t0:=Tryz.underlying0
  a0:=Tryz.isAgg0
  z0:=Tryz.sizeOf0
  v0:=Tryz.zeroValue0
  t2:=Tryz.underlying2
  a2:=Tryz.isAgg2
  z2:=Tryz.sizeOf2
  v2:=Tryz.zeroValue2
  t3:=Tryz.underlying3
  a3:=Tryz.isAgg3
  z3:=Tryz.sizeOf3
  v3:=Tryz.zeroValue3
  t4:=Tryz.underlying4
  a4:=Tryz.isAgg4
  z4:=Tryz.sizeOf4
  v4:=Tryz.zeroValue4
  t5:=Tryz.underlying5
  a5:=Tryz.isAgg5
  z5:=Tryz.sizeOf5
  v5:=Tryz.zeroValue5
  t9:=Tryz.underlying9
  a9:=Tryz.isAgg9
  z9:=Tryz.sizeOf9
  v9:=Tryz.zeroValue9
  t20:=Tryz.underlying20
  a20:=Tryz.isAgg20
  z20:=Tryz.sizeOf20
  v20:=Tryz.zeroValue20
  t37:=Tryz.underlying106
  a37:=Tryz.isAgg106
  z37:=Tryz.sizeOf106
  v37:=Tryz.zeroValue106
  t46:=Tryz.underlying230
  a46:=Tryz.isAgg230
  z46:=Tryz.sizeOf230
  v46:=Tryz.zeroValue230
  t51:=Tryz.underlying245
  a51:=Tryz.isAgg245
  z51:=Tryz.sizeOf245
  v51:=Tryz.zeroValue245
  t53:=Tryz.underlying130
  a53:=Tryz.isAgg130
  z53:=Tryz.sizeOf130
  v53:=Tryz.zeroValue130
  t171:=Tryz.underlying218
  a171:=Tryz.isAgg218
  z171:=Tryz.sizeOf218
  v171:=Tryz.zeroValue218
  t173:=Tryz.underlying221
  a173:=Tryz.isAgg221
  z173:=Tryz.sizeOf221
  v173:=Tryz.zeroValue221
  t212:=Tryz.underlying244
  a212:=Tryz.isAgg244
  z212:=Tryz.sizeOf244
  v212:=Tryz.zeroValue244
  t213:=Tryz.underlying246
  a213:=Tryz.isAgg246
  z213:=Tryz.sizeOf246
  t232:=Tryz.underlying274
  a232:=Tryz.isAgg274
  z232:=Tryz.sizeOf274
  v232:=Tryz.zeroValue274
  t233:=Tryz.underlying275
  a233:=Tryz.isAgg275
  z233:=Tryz.sizeOf275
  v233:=Tryz.zeroValue275
  g17:=by kernel_rfl
  g18:=by kernel_rfl
  g19:=by kernel_rfl
  i0:=by kernel_rfl
  i2:=by kernel_rfl
  i3:=by kernel_rfl
  i4:=by kernel_rfl
  i5:=by kernel_rfl
  i9:=by kernel_rfl
  i20:=by kernel_rfl
  i37:=by kernel_rfl
  i46:=by kernel_rfl
  i51:=by kernel_rfl
  i53:=by kernel_rfl
  i171:=by kernel_rfl
  i173:=by kernel_rfl
  i212:=by kernel_rfl
  i232:=by kernel_rfl
  i233:=by kernel_rfl
  m17:=by kernel_rfl
  m18:=by kernel_rfl
  m19:=by kernel_rfl }
def Tryz.A2:Go.Shelf.Ren:=⟨fun| 144=>107| 143=>143| 219=>168| 217=>178| 225=>179| 224=>180| 267=>181| 266=>193| 314=>194|n=>n,fun| 9=>9| 4=>4| 3=>3| 5=>5| 46=>230| 146=>287| 51=>245|n=>n,fun| 1=>7|n=>n⟩
theorem Tryz.I9:Go.Proofs.Lays.n144 Tryz.prog Tryz.A2:= {
  mixed:=by kernel_rfl
  f143:=Tryz.func143.trans (congrArg some (by kernel_rfl))
  f144:=Tryz.func107.trans (congrArg some (by kernel_rfl))
  f217:=Tryz.func178.trans (congrArg some (by kernel_rfl))
  f219:=Tryz.func168.trans (congrArg some (by kernel_rfl))
  f224:=Tryz.func180.trans (congrArg some (by kernel_rfl))
  f225:=Tryz.func179.trans (congrArg some (by kernel_rfl))
  f266:=Tryz.func193.trans (congrArg some (by kernel_rfl))
  f267:=Tryz.func181.trans (congrArg some (by kernel_rfl))
  f314:=Tryz.func194.trans (congrArg some (by kernel_rfl))
  t3:=Tryz.underlying3
  a3:=Tryz.isAgg3
  z3:=Tryz.sizeOf3
  v3:=Tryz.zeroValue3
  t4:=Tryz.underlying4
  a4:=Tryz.isAgg4
  z4:=Tryz.sizeOf4
  v4:=Tryz.zeroValue4
  t5:=Tryz.underlying5
  a5:=Tryz.isAgg5
  z5:=Tryz.sizeOf5
  v5:=Tryz.zeroValue5
  t9:=Tryz.underlying9
  a9:=Tryz.isAgg9
  z9:=Tryz.sizeOf9
  v9:=Tryz.zeroValue9
  t46:=Tryz.underlying230
  a46:=Tryz.isAgg230
  z46:=Tryz.sizeOf230
  v46:=Tryz.zeroValue230
  t51:=Tryz.underlying245
  a51:=Tryz.isAgg245
  z51:=Tryz.sizeOf245
  v51:=Tryz.zeroValue245
  t146:=Tryz.underlying287
  a146:=Tryz.isAgg287
  z146:=Tryz.sizeOf287
  v146:=Tryz.zeroValue287
  g1:=by kernel_rfl }
def Tryz.yL:Go.Shelf.Ren:=⟨fun| 144=>107| 143=>143| 219=>168| 217=>178| 225=>179| 224=>180| 267=>181| 266=>193| 314=>194|n=>n,fun| 9=>9| 4=>4| 3=>3| 5=>5| 46=>230| 146=>287| 51=>245|n=>n,fun| 1=>7|n=>n⟩
theorem Tryz.GX:Go.Proofs.LaysM.n144 Tryz.prog Tryz.yL:= {
  mixed:=by kernel_rfl
  f143:=Tryz.func143.trans (congrArg some (by kernel_rfl))
  f144:=Tryz.func107.trans (congrArg some (by kernel_rfl))
  f217:=Tryz.func178.trans (congrArg some (by kernel_rfl))
  f219:=Tryz.func168.trans (congrArg some (by kernel_rfl))
  f224:=Tryz.func180.trans (congrArg some (by kernel_rfl))
  f225:=Tryz.func179.trans (congrArg some (by kernel_rfl))
  f266:=Tryz.func193.trans (congrArg some (by kernel_rfl))
  f267:=Tryz.func181.trans (congrArg some (by kernel_rfl))
  f314:=Tryz.func194.trans (congrArg some (by kernel_rfl))
  t3:=Tryz.underlying3
  a3:=Tryz.isAgg3
  z3:=Tryz.sizeOf3
  v3:=Tryz.zeroValue3
  t4:=Tryz.underlying4
  a4:=Tryz.isAgg4
  z4:=Tryz.sizeOf4
  v4:=Tryz.zeroValue4
  t5:=Tryz.underlying5
  a5:=Tryz.isAgg5
  z5:=Tryz.sizeOf5
  v5:=Tryz.zeroValue5
  t9:=Tryz.underlying9
  a9:=Tryz.isAgg9
  z9:=Tryz.sizeOf9
  v9:=Tryz.zeroValue9
  t46:=Tryz.underlying230
  a46:=Tryz.isAgg230
  z46:=Tryz.sizeOf230
  v46:=Tryz.zeroValue230
  t51:=Tryz.underlying245
  a51:=Tryz.isAgg245
  z51:=Tryz.sizeOf245
  v51:=Tryz.zeroValue245
  t146:=Tryz.underlying287
  a146:=Tryz.isAgg287
  z146:=Tryz.sizeOf287
  v146:=Tryz.zeroValue287
  g1:=by kernel_rfl
  i3:=by kernel_rfl
  i4:=by kernel_rfl
  i5:=by kernel_rfl
  i9:=by kernel_rfl
  i46:=by kernel_rfl
  i51:=by kernel_rfl
  i146:=by kernel_rfl
  m1:=by kernel_rfl
  s1_3:=fun w h=>Go.Proofs.cell_of_shapedOpen_int (zero:= #[.int .i64 0]) (t:=3) h (of_decide_eq_true (by kernel_rfl)) (by kernel_rfl) rfl (by kernel_rfl) (by kernel_rfl) Tryz.underlying3 }
def Tryz.A1:Go.Shelf.Ren:=⟨fun| 197=>105| 260=>142|n=>n,fun| 9=>9| 21=>21| 3=>3| 4=>4| 5=>5| 105=>208| 119=>262| 0=>0| 46=>230| 139=>265| 138=>264|n=>n,fun| 3=>8| 4=>9|n=>n⟩
theorem Tryz.I6:Go.Proofs.Lays.n197 Tryz.prog Tryz.A1:= {
  mixed:=by kernel_rfl
  f197:=Tryz.func105.trans (congrArg some (by kernel_rfl))
  f260:=Tryz.func142.trans (congrArg some (by kernel_rfl))
  t0:=Tryz.underlying0
  a0:=Tryz.isAgg0
  z0:=Tryz.sizeOf0
  v0:=Tryz.zeroValue0
  t3:=Tryz.underlying3
  a3:=Tryz.isAgg3
  z3:=Tryz.sizeOf3
  v3:=Tryz.zeroValue3
  t4:=Tryz.underlying4
  a4:=Tryz.isAgg4
  z4:=Tryz.sizeOf4
  v4:=Tryz.zeroValue4
  t5:=Tryz.underlying5
  a5:=Tryz.isAgg5
  z5:=Tryz.sizeOf5
  v5:=Tryz.zeroValue5
  t9:=Tryz.underlying9
  a9:=Tryz.isAgg9
  z9:=Tryz.sizeOf9
  v9:=Tryz.zeroValue9
  t21:=Tryz.underlying21
  a21:=Tryz.isAgg21
  z21:=Tryz.sizeOf21
  v21:=Tryz.zeroValue21
  t46:=Tryz.underlying230
  a46:=Tryz.isAgg230
  z46:=Tryz.sizeOf230
  v46:=Tryz.zeroValue230
  t105:=Tryz.underlying208
  a105:=Tryz.isAgg208
  z105:=Tryz.sizeOf208
  v105:=Tryz.zeroValue208
  t119:=Tryz.underlying262
  a119:=Tryz.isAgg262
  z119:=Tryz.sizeOf262
  t138:=Tryz.underlying264
  a138:=Tryz.isAgg264
  z138:=Tryz.sizeOf264
  v138:=Tryz.zeroValue264
  t139:=Tryz.underlying265
  a139:=Tryz.isAgg265
  z139:=Tryz.sizeOf265
  v139:=Tryz.zeroValue265
  g3:=by kernel_rfl
  g4:=by kernel_rfl }
open Go.RowKit in
theorem Tryz.strings_IndexByte (s:ByteArray) (c:Int) (w:World) :
    Calls Tryz.prog 200 #[.string s,.int .u8 c] w fun e w'=>e= .returned (.int .i64 (Lib.indexByte s.data.toList c.toNat.toUInt8))/\w'=w:=Any.strings_IndexByte Tryz.Ja s c w
open Go.RowKit in
theorem Tryz.strings_CutPrefix (s p:ByteArray) (w:World) :
    Calls Tryz.prog 157 #[.string s,.string p] w fun e w'=>e= .returned (.tuple #[.string ⟨(Lib.trimPrefix s.data.toList p.data.toList).toArray⟩,.bool (Lib.hasPrefix s.data.toList p.data.toList)])/\w'=w:=Any.strings_CutPrefix Tryz.Jd s p w
open Go.RowKit Go.Sort Go.Lib in
theorem Tryz.strconv_Itoa (n:Int) (h0 : -9223372036854775808<=n) (h1:n<=9223372036854775807) (w:World) (htab:Lib.TabIs Tryz.prog w "internal/strconv.uint64pow10" .u64 Lib.pow10Tab) :
    Calls Tryz.prog 100 #[.int .i64 n] w fun e w'=>e= .returned (.string ⟨(Lib.itoa n).toArray⟩)/\∃k os,w'=grow (w.drewN k) os:=Any.strconv_Itoa Tryz.GW n h0 h1 w htab
open Go.RowKit Go.Lib in
theorem Tryz.strings_Contains (s sub:ByteArray) (m:Int) (w:World) (hs:s.size<4294967281) (hm:w.cell? ⟨7,0,none⟩=some (.int .i64 m)) :
    Calls Tryz.prog 107 #[.string s,.string sub] w fun e w'=>e= .returned (.bool (Lib.contains s.data.toList sub.data.toList))/\w'=w:=Any.strings_Contains Tryz.I9 s sub m w hs hm
open Go.RowKit Go.Lib in
theorem Tryz.strings_Contains_shaped (s sub:ByteArray) (w:World) (h:w.ShapedOpen Tryz.prog) (hs:s.size<4294967281) :
    Calls Tryz.prog 107 #[.string s,.string sub] w fun e w'=>e= .returned (.bool (Lib.contains s.data.toList sub.data.toList))/\w'=w:=Any.strings_Contains_shaped Tryz.GX s sub w h hs
open Go.RowKit Go.Lib in
theorem Tryz.utf8_DecodeRuneInString (s:ByteArray) (w:World) (hT:Lib.Utf8Tabs 8 9 w) :
    Calls Tryz.prog 105 #[.string s] w fun e w'=>e= .returned (.tuple #[.int .i32 (Lib.decodeGo s).1,.int .i64 (Lib.decodeGo s).2])/\Below w.heap.size w w':=Any.utf8_DecodeRuneInString Tryz.I6 s w hT
end Go.Proofs
