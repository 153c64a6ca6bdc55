/- What the proof of the statement leans on (part 23). -/
import Derived.Shelf.Strings.Builder1
import Derived.Shelf.Strings.Builder2
import Derived.Shelf.Strings.OnBuilder
import Derived.Shelf.Small.Utf8
import Derived.Shelf.Small.Strs
import Derived.Shelf.Strings.BuilderF
import Derived.Shelf.Strings.BuilderK
import Derived.Shelf.Strings.Builder2Cap
import Derived.Shelf.Strconv.Atoi
import Derived.Shelf.Strconv.Itoa0
import Derived.Shelf.Strconv.Itoa1
import Derived.Shelf.LaysM
import Derived.Shelf.Strconv.Itoa2
import Derived.Shelf.Strconv.Itoa3
import Derived.Shelf.Strconv.AtoiErrFast
import Derived.Shelf.Strconv.AtoiFail
import Derived.Shelf.Strconv.AtoiLong
import Derived.Shelf.Strconv.AtoiInnerAll
import Derived.Shelf.Strconv.AtoiAll
import Derived.Shelf.Strings.Search1
import Derived.Shelf.Strings.Search2
import Derived.Shelf.Strings.Search3
import Derived.Shelf.Strings.Cut
import Derived.Shelf.Strings.Shaped
import Derived.Shelf.Strings.LastIndexAll
import Derived.Shelf.Strings.Prefix
import Derived.Shelf.Unicode.Decode
import Derived.Shelf.Unicode.DecodeSlow
import Derived.Shelf.Unicode.DecodeAny
import Derived.Test.YtckomlgchbkekaaGreatDoorProg
import Derived.Test.YtckomlgchbkekaaGreatDoorQv

namespace Go.Proofs
open Go.Shelf
def Tryz.AS:Go.Shelf.Ren:=⟨fun| 137=>72| 217=>124| 266=>180|n=>n,fun| 9=>9| 5=>5| 3=>3|n=>n,fun|n=>n⟩
theorem Tryz.IX:Go.Proofs.Lays.n137 Tryz.prog Tryz.AS:= {
  mixed:=by kernel_rfl
  f137:=Tryz.func72.trans (congrArg some (by kernel_rfl))
  f217:=Tryz.func124.trans (congrArg some (by kernel_rfl))
  f266:=Tryz.func180.trans (congrArg some (by kernel_rfl))
  t3:=Tryz.underlying3
  a3:=Tryz.isAgg3
  z3:=Tryz.sizeOf3
  v3:=Tryz.zeroValue3
  t5:=Tryz.underlying5
  a5:=Tryz.isAgg5
  z5:=Tryz.sizeOf5
  v5:=Tryz.zeroValue5
  t9:=Tryz.underlying9
  a9:=Tryz.isAgg9
  z9:=Tryz.sizeOf9
  v9:=Tryz.zeroValue9 }
def Tryz.xW:Go.Shelf.Ren:=⟨fun| 171=>20| 243=>48| 246=>78| 283=>129| 284=>130| 285=>131| 286=>132| 129=>190| 317=>189| 318=>191| 319=>192| 320=>193| 337=>253| 338=>254|n=>n,fun| 3=>3| 9=>9| 2=>2| 4=>4| 171=>202| 0=>0| 53=>106| 37=>61| 5=>5| 173=>205| 212=>288| 51=>289| 20=>20| 213=>290| 46=>280| 232=>415| 233=>416|n=>n,fun| 17=>2| 18=>12| 19=>13|n=>n⟩
theorem Tryz.GU:Go.Proofs.LaysM.n171 Tryz.prog Tryz.xW:= {
  mixed:=by kernel_rfl
  f129:=Tryz.func190.trans (congrArg some (by kernel_rfl))
  f171:=Tryz.func20.trans (congrArg some (by kernel_rfl))
  f243:=Tryz.func48.trans (congrArg some (by kernel_rfl))
  f246:=Tryz.func78.trans (congrArg some (by kernel_rfl))
  f283:=Tryz.func129.trans (congrArg some (by kernel_rfl))
  f284:=Tryz.func130.trans (congrArg some (by kernel_rfl))
  f285:=Tryz.func131.trans (congrArg some (by kernel_rfl))
  f286:=Tryz.func132.trans (congrArg some (by kernel_rfl))
  f317:=Tryz.func189.trans (congrArg some (by kernel_rfl))
  f318:=Tryz.func191.trans (congrArg some (by kernel_rfl))
  f319:=Tryz.func192.trans (congrArg some (by kernel_rfl))
  f320:=Tryz.func193.trans (congrArg some (by kernel_rfl))
  f337:=Tryz.func253.trans (congrArg some (by kernel_rfl))
  f338:=Tryz.func254.trans (congrArg some (by kernel_rfl))
  t0:=Tryz.underlying0
  a0:=Tryz.isAgg0
  z0:=Tryz.sizeOf0
  v0:=Tryz.zeroValue0
  t2:=Tryz.underlying2
  a2:=Tryz.isAgg2
  z2:=Tryz.sizeOf2
  v2:=Tryz.zeroValue2
  t3:=Tryz.underlying3
  a3:=Tryz.isAgg3
  z3:=Tryz.sizeOf3
  v3:=Tryz.zeroValue3
  t4:=Tryz.underlying4
  a4:=Tryz.isAgg4
  z4:=Tryz.sizeOf4
  v4:=Tryz.zeroValue4
  t5:=Tryz.underlying5
  a5:=Tryz.isAgg5
  z5:=Tryz.sizeOf5
  v5:=Tryz.zeroValue5
  t9:=Tryz.underlying9
  a9:=Tryz.isAgg9
  z9:=Tryz.sizeOf9
  v9:=Tryz.zeroValue9
  t20:=Tryz.underlying20
  a20:=Tryz.isAgg20
  z20:=Tryz.sizeOf20
  v20:=Tryz.zeroValue20
  t37:=Tryz.underlying61
  a37:=Tryz.isAgg61
  z37:=Tryz.sizeOf61
  v37:=Tryz.zeroValue61
  t46:=Tryz.underlying280
  a46:=Tryz.isAgg280
  z46:=Tryz.sizeOf280
  v46:=Tryz.zeroValue280
  t51:=Tryz.underlying289
  a51:=Tryz.isAgg289
  z51:=Tryz.sizeOf289
  v51:=Tryz.zeroValue289
  t53:=Tryz.underlying106
  a53:=Tryz.isAgg106
  z53:=Tryz.sizeOf106
  v53:=Tryz.zeroValue106
  t171:=Tryz.underlying202
  a171:=Tryz.isAgg202
  z171:=Tryz.sizeOf202
  v171:=Tryz.zeroValue202
  t173:=Tryz.underlying205
  a173:=Tryz.isAgg205
  z173:=Tryz.sizeOf205
  v173:=Tryz.zeroValue205
  t212:=Tryz.underlying288
  a212:=Tryz.isAgg288
  z212:=Tryz.sizeOf288
  v212:=Tryz.zeroValue288
  t213:=Tryz.underlying290
  a213:=Tryz.isAgg290
  z213:=Tryz.sizeOf290
  t232:=Tryz.underlying415
  a232:=Tryz.isAgg415
  z232:=Tryz.sizeOf415
  v232:=Tryz.zeroValue415
  t233:=Tryz.underlying416
  a233:=Tryz.isAgg416
  z233:=Tryz.sizeOf416
  v233:=Tryz.zeroValue416
  g17:=by kernel_rfl
  g18:=by kernel_rfl
  g19:=by kernel_rfl
  i0:=by kernel_rfl
  i2:=by kernel_rfl
  i3:=by kernel_rfl
  i4:=by kernel_rfl
  i5:=by kernel_rfl
  i9:=by kernel_rfl
  i20:=by kernel_rfl
  i37:=by kernel_rfl
  i46:=by kernel_rfl
  i51:=by kernel_rfl
  i53:=by kernel_rfl
  i171:=by kernel_rfl
  i173:=by kernel_rfl
  i212:=by kernel_rfl
  i232:=by kernel_rfl
  i233:=by kernel_rfl
  m17:=by kernel_rfl
  m18:=by kernel_rfl
  m19:=by kernel_rfl }
def Tryz.AP:Go.Shelf.Ren:=⟨fun| 197=>195| 260=>255|n=>n,fun| 9=>9| 21=>21| 3=>3| 4=>4| 5=>5| 105=>293| 119=>377| 0=>0| 46=>280| 139=>380| 138=>379|n=>n,fun| 3=>9| 4=>10|n=>n⟩
theorem Tryz.IU:Go.Proofs.Lays.n197 Tryz.prog Tryz.AP:= {
  mixed:=by kernel_rfl
  f197:=Tryz.func195.trans (congrArg some (by kernel_rfl))
  f260:=Tryz.func255.trans (congrArg some (by kernel_rfl))
  t0:=Tryz.underlying0
  a0:=Tryz.isAgg0
  z0:=Tryz.sizeOf0
  v0:=Tryz.zeroValue0
  t3:=Tryz.underlying3
  a3:=Tryz.isAgg3
  z3:=Tryz.sizeOf3
  v3:=Tryz.zeroValue3
  t4:=Tryz.underlying4
  a4:=Tryz.isAgg4
  z4:=Tryz.sizeOf4
  v4:=Tryz.zeroValue4
  t5:=Tryz.underlying5
  a5:=Tryz.isAgg5
  z5:=Tryz.sizeOf5
  v5:=Tryz.zeroValue5
  t9:=Tryz.underlying9
  a9:=Tryz.isAgg9
  z9:=Tryz.sizeOf9
  v9:=Tryz.zeroValue9
  t21:=Tryz.underlying21
  a21:=Tryz.isAgg21
  z21:=Tryz.sizeOf21
  v21:=Tryz.zeroValue21
  t46:=Tryz.underlying280
  a46:=Tryz.isAgg280
  z46:=Tryz.sizeOf280
  v46:=Tryz.zeroValue280
  t105:=Tryz.underlying293
  a105:=Tryz.isAgg293
  z105:=Tryz.sizeOf293
  v105:=Tryz.zeroValue293
  t119:=Tryz.underlying377
  a119:=Tryz.isAgg377
  z119:=Tryz.sizeOf377
  t138:=Tryz.underlying379
  a138:=Tryz.isAgg379
  z138:=Tryz.sizeOf379
  v138:=Tryz.zeroValue379
  t139:=Tryz.underlying380
  a139:=Tryz.isAgg380
  z139:=Tryz.sizeOf380
  v139:=Tryz.zeroValue380
  g3:=by kernel_rfl
  g4:=by kernel_rfl }
open Go.RowKit in
theorem Tryz.strings_IndexByte (s:ByteArray) (c:Int) (w:World) :
    Calls Tryz.prog 72 #[.string s,.int .u8 c] w fun e w'=>e= .returned (.int .i64 (Lib.indexByte s.data.toList c.toNat.toUInt8))/\w'=w:=Any.strings_IndexByte Tryz.IX s c w
open Go.RowKit Go.Sort Go.Lib in
theorem Tryz.strconv_Itoa (n:Int) (h0 : -9223372036854775808<=n) (h1:n<=9223372036854775807) (w:World) (htab:Lib.TabIs Tryz.prog w "internal/strconv.uint64pow10" .u64 Lib.pow10Tab) :
    Calls Tryz.prog 20 #[.int .i64 n] w fun e w'=>e= .returned (.string ⟨(Lib.itoa n).toArray⟩)/\∃k os,w'=grow (w.drewN k) os:=Any.strconv_Itoa Tryz.GU n h0 h1 w htab
open Go.RowKit Go.Lib in
theorem Tryz.utf8_DecodeRuneInString (s:ByteArray) (w:World) (hT:Lib.Utf8Tabs 9 10 w) :
    Calls Tryz.prog 195 #[.string s] w fun e w'=>e= .returned (.tuple #[.int .i32 (Lib.decodeGo s).1,.int .i64 (Lib.decodeGo s).2])/\Below w.heap.size w w':=Any.utf8_DecodeRuneInString Tryz.IU s w hT
end Go.Proofs
