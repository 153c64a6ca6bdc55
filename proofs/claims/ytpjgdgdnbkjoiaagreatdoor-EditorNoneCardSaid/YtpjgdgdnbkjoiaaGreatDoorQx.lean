/- What the proof of the statement leans on (part 24). -/
import Derived.Shelf.Strings.Builder1
import Derived.Shelf.Strings.Builder2
import Derived.Shelf.Strings.OnBuilder
import Derived.Shelf.Small.Utf8
import Derived.Shelf.Small.Strs
import Derived.Shelf.Strings.BuilderF
import Derived.Shelf.Strings.BuilderK
import Derived.Shelf.Strings.Builder2Cap
import Derived.Shelf.Strconv.Itoa0
import Derived.Shelf.Strconv.Itoa1
import Derived.Shelf.LaysM
import Derived.Shelf.Strconv.Itoa2
import Derived.Shelf.Strconv.Itoa3
import Derived.Shelf.Strings.Search1
import Derived.Shelf.Strings.Search2
import Derived.Shelf.Strings.Search3
import Derived.Shelf.Strings.Shaped
import Derived.Shelf.Strings.LastIndexAll
import Derived.Shelf.Strings.Prefix
import Derived.Shelf.Unicode.Decode
import Derived.Shelf.Unicode.DecodeSlow
import Derived.Shelf.Unicode.DecodeAny
import Derived.Test.YtpjgdgdnbkjoiaaGreatDoorProg
import Derived.Test.YtpjgdgdnbkjoiaaGreatDoorQw

namespace Go.Proofs
open Go.Shelf
def Tryz.Cw:Go.Shelf.Ren:=⟨fun| 137=>107| 217=>160| 266=>194|n=>n,fun| 9=>9| 5=>5| 3=>3|n=>n,fun|n=>n⟩
theorem Tryz.KL:Go.Proofs.Lays.n137 Tryz.prog Tryz.Cw:= {
  mixed:=by kernel_rfl
  f137:=Tryz.func107.trans (congrArg some (by kernel_rfl))
  f217:=Tryz.func160.trans (congrArg some (by kernel_rfl))
  f266:=Tryz.func194.trans (congrArg some (by kernel_rfl))
  t3:=Tryz.underlying3
  a3:=Tryz.isAgg3
  z3:=Tryz.sizeOf3
  v3:=Tryz.zeroValue3
  t5:=Tryz.underlying5
  a5:=Tryz.isAgg5
  z5:=Tryz.sizeOf5
  v5:=Tryz.zeroValue5
  t9:=Tryz.underlying9
  a9:=Tryz.isAgg9
  z9:=Tryz.sizeOf9
  v9:=Tryz.zeroValue9 }
def Tryz.AQ:Go.Shelf.Ren:=⟨fun| 171=>135| 243=>183| 246=>203| 283=>213| 284=>214| 285=>215| 286=>216| 129=>230| 317=>229| 318=>231| 319=>232| 320=>233| 337=>237| 338=>238|n=>n,fun| 3=>3| 9=>9| 2=>2| 4=>4| 171=>274| 0=>0| 53=>146| 37=>216| 5=>5| 173=>277| 212=>290| 51=>280| 20=>20| 213=>291| 46=>246| 232=>294| 233=>295|n=>n,fun| 17=>5| 18=>6| 19=>7|n=>n⟩
theorem Tryz.IY:Go.Proofs.LaysM.n171 Tryz.prog Tryz.AQ:= {
  mixed:=by kernel_rfl
  f129:=Tryz.func230.trans (congrArg some (by kernel_rfl))
  f171:=Tryz.func135.trans (congrArg some (by kernel_rfl))
  f243:=Tryz.func183.trans (congrArg some (by kernel_rfl))
  f246:=Tryz.func203.trans (congrArg some (by kernel_rfl))
  f283:=Tryz.func213.trans (congrArg some (by kernel_rfl))
  f284:=Tryz.func214.trans (congrArg some (by kernel_rfl))
  f285:=Tryz.func215.trans (congrArg some (by kernel_rfl))
  f286:=Tryz.func216.trans (congrArg some (by kernel_rfl))
  f317:=Tryz.func229.trans (congrArg some (by kernel_rfl))
  f318:=Tryz.func231.trans (congrArg some (by kernel_rfl))
  f319:=Tryz.func232.trans (congrArg some (by kernel_rfl))
  f320:=Tryz.func233.trans (congrArg some (by kernel_rfl))
  f337:=Tryz.func237.trans (congrArg some (by kernel_rfl))
  f338:=Tryz.func238.trans (congrArg some (by kernel_rfl))
  t0:=Tryz.underlying0
  a0:=Tryz.isAgg0
  z0:=Tryz.sizeOf0
  v0:=Tryz.zeroValue0
  t2:=Tryz.underlying2
  a2:=Tryz.isAgg2
  z2:=Tryz.sizeOf2
  v2:=Tryz.zeroValue2
  t3:=Tryz.underlying3
  a3:=Tryz.isAgg3
  z3:=Tryz.sizeOf3
  v3:=Tryz.zeroValue3
  t4:=Tryz.underlying4
  a4:=Tryz.isAgg4
  z4:=Tryz.sizeOf4
  v4:=Tryz.zeroValue4
  t5:=Tryz.underlying5
  a5:=Tryz.isAgg5
  z5:=Tryz.sizeOf5
  v5:=Tryz.zeroValue5
  t9:=Tryz.underlying9
  a9:=Tryz.isAgg9
  z9:=Tryz.sizeOf9
  v9:=Tryz.zeroValue9
  t20:=Tryz.underlying20
  a20:=Tryz.isAgg20
  z20:=Tryz.sizeOf20
  v20:=Tryz.zeroValue20
  t37:=Tryz.underlying216
  a37:=Tryz.isAgg216
  z37:=Tryz.sizeOf216
  v37:=Tryz.zeroValue216
  t46:=Tryz.underlying246
  a46:=Tryz.isAgg246
  z46:=Tryz.sizeOf246
  v46:=Tryz.zeroValue246
  t51:=Tryz.underlying280
  a51:=Tryz.isAgg280
  z51:=Tryz.sizeOf280
  v51:=Tryz.zeroValue280
  t53:=Tryz.underlying146
  a53:=Tryz.isAgg146
  z53:=Tryz.sizeOf146
  v53:=Tryz.zeroValue146
  t171:=Tryz.underlying274
  a171:=Tryz.isAgg274
  z171:=Tryz.sizeOf274
  v171:=Tryz.zeroValue274
  t173:=Tryz.underlying277
  a173:=Tryz.isAgg277
  z173:=Tryz.sizeOf277
  v173:=Tryz.zeroValue277
  t212:=Tryz.underlying290
  a212:=Tryz.isAgg290
  z212:=Tryz.sizeOf290
  v212:=Tryz.zeroValue290
  t213:=Tryz.underlying291
  a213:=Tryz.isAgg291
  z213:=Tryz.sizeOf291
  t232:=Tryz.underlying294
  a232:=Tryz.isAgg294
  z232:=Tryz.sizeOf294
  v232:=Tryz.zeroValue294
  t233:=Tryz.underlying295
  a233:=Tryz.isAgg295
  z233:=Tryz.sizeOf295
  v233:=Tryz.zeroValue295
  g17:=by kernel_rfl
  g18:=by kernel_rfl
  g19:=by kernel_rfl
  i0:=by kernel_rfl
  i2:=by kernel_rfl
  i3:=by kernel_rfl
  i4:=by kernel_rfl
  i5:=by kernel_rfl
  i9:=by kernel_rfl
  i20:=by kernel_rfl
  i37:=by kernel_rfl
  i46:=by kernel_rfl
  i51:=by kernel_rfl
  i53:=by kernel_rfl
  i171:=by kernel_rfl
  i173:=by kernel_rfl
  i212:=by kernel_rfl
  i232:=by kernel_rfl
  i233:=by kernel_rfl
  m17:=by kernel_rfl
  m18:=by kernel_rfl
  m19:=by kernel_rfl }
def Tryz.Cv:Go.Shelf.Ren:=⟨fun| 144=>177| 143=>200| 219=>209| 217=>160| 225=>222| 224=>223| 267=>224| 266=>194| 314=>234|n=>n,fun| 9=>9| 4=>4| 3=>3| 5=>5| 46=>246| 146=>281| 51=>280|n=>n,fun| 1=>1|n=>n⟩
theorem Tryz.KK:Go.Proofs.Lays.n144 Tryz.prog Tryz.Cv:= {
  mixed:=by kernel_rfl
  f143:=Tryz.func200.trans (congrArg some (by kernel_rfl))
  f144:=Tryz.func177.trans (congrArg some (by kernel_rfl))
  f217:=Tryz.func160.trans (congrArg some (by kernel_rfl))
  f219:=Tryz.func209.trans (congrArg some (by kernel_rfl))
  f224:=Tryz.func223.trans (congrArg some (by kernel_rfl))
  f225:=Tryz.func222.trans (congrArg some (by kernel_rfl))
  f266:=Tryz.func194.trans (congrArg some (by kernel_rfl))
  f267:=Tryz.func224.trans (congrArg some (by kernel_rfl))
  f314:=Tryz.func234.trans (congrArg some (by kernel_rfl))
  t3:=Tryz.underlying3
  a3:=Tryz.isAgg3
  z3:=Tryz.sizeOf3
  v3:=Tryz.zeroValue3
  t4:=Tryz.underlying4
  a4:=Tryz.isAgg4
  z4:=Tryz.sizeOf4
  v4:=Tryz.zeroValue4
  t5:=Tryz.underlying5
  a5:=Tryz.isAgg5
  z5:=Tryz.sizeOf5
  v5:=Tryz.zeroValue5
  t9:=Tryz.underlying9
  a9:=Tryz.isAgg9
  z9:=Tryz.sizeOf9
  v9:=Tryz.zeroValue9
  t46:=Tryz.underlying246
  a46:=Tryz.isAgg246
  z46:=Tryz.sizeOf246
  v46:=Tryz.zeroValue246
  t51:=Tryz.underlying280
  a51:=Tryz.isAgg280
  z51:=Tryz.sizeOf280
  v51:=Tryz.zeroValue280
  t146:=Tryz.underlying281
  a146:=Tryz.isAgg281
  z146:=Tryz.sizeOf281
  v146:=Tryz.zeroValue281
  g1:=by kernel_rfl }
def Tryz.AR:Go.Shelf.Ren:=⟨fun| 144=>177| 143=>200| 219=>209| 217=>160| 225=>222| 224=>223| 267=>224| 266=>194| 314=>234|n=>n,fun| 9=>9| 4=>4| 3=>3| 5=>5| 46=>246| 146=>281| 51=>280|n=>n,fun| 1=>1|n=>n⟩
theorem Tryz.IZ:Go.Proofs.LaysM.n144 Tryz.prog Tryz.AR:= {
  mixed:=by kernel_rfl
  f143:=Tryz.func200.trans (congrArg some (by kernel_rfl))
  f144:=Tryz.func177.trans (congrArg some (by kernel_rfl))
  f217:=Tryz.func160.trans (congrArg some (by kernel_rfl))
  f219:=Tryz.func209.trans (congrArg some (by kernel_rfl))
  f224:=Tryz.func223.trans (congrArg some (by kernel_rfl))
  f225:=Tryz.func222.trans (congrArg some (by kernel_rfl))
  f266:=Tryz.func194.trans (congrArg some (by kernel_rfl))
  f267:=Tryz.func224.trans (congrArg some (by kernel_rfl))
  f314:=Tryz.func234.trans (congrArg some (by kernel_rfl))
  t3:=Tryz.underlying3
  a3:=Tryz.isAgg3
  z3:=Tryz.sizeOf3
  v3:=Tryz.zeroValue3
  t4:=Tryz.underlying4
  a4:=Tryz.isAgg4
  z4:=Tryz.sizeOf4
  v4:=Tryz.zeroValue4
  t5:=Tryz.underlying5
  a5:=Tryz.isAgg5
  z5:=Tryz.sizeOf5
  v5:=Tryz.zeroValue5
  t9:=Tryz.underlying9
  a9:=Tryz.isAgg9
  z9:=Tryz.sizeOf9
  v9:=Tryz.zeroValue9
  t46:=Tryz.underlying246
  a46:=Tryz.isAgg246
  z46:=Tryz.sizeOf246
  v46:=Tryz.zeroValue246
  t51:=Tryz.underlying280
  a51:=Tryz.isAgg280
  z51:=Tryz.sizeOf280
  v51:=Tryz.zeroValue280
  t146:=Tryz.underlying281
  a146:=Tryz.isAgg281
  z146:=Tryz.sizeOf281
  v146:=Tryz.zeroValue281
  g1:=by kernel_rfl
  i3:=by kernel_rfl
  i4:=by kernel_rfl
  i5:=by kernel_rfl
  i9:=by kernel_rfl
  i46:=by kernel_rfl
  i51:=by kernel_rfl
  i146:=by kernel_rfl
  m1:=by kernel_rfl
  s1_3:=fun w h=>Go.Proofs.cell_of_shapedOpen_int (zero:= #[.int .i64 0]) (t:=3) h (of_decide_eq_true (by kernel_rfl)) (by kernel_rfl) rfl (by kernel_rfl) (by kernel_rfl) Tryz.underlying3 }
def Tryz.Cs:Go.Shelf.Ren:=⟨fun| 197=>175| 260=>199|n=>n,fun| 9=>9| 21=>21| 3=>3| 4=>4| 5=>5| 105=>231| 119=>268| 0=>0| 46=>246| 139=>271| 138=>270|n=>n,fun| 3=>2| 4=>3|n=>n⟩
theorem Tryz.KH:Go.Proofs.Lays.n197 Tryz.prog Tryz.Cs:= {
  mixed:=by kernel_rfl
  f197:=Tryz.func175.trans (congrArg some (by kernel_rfl))
  f260:=Tryz.func199.trans (congrArg some (by kernel_rfl))
  t0:=Tryz.underlying0
  a0:=Tryz.isAgg0
  z0:=Tryz.sizeOf0
  v0:=Tryz.zeroValue0
  t3:=Tryz.underlying3
  a3:=Tryz.isAgg3
  z3:=Tryz.sizeOf3
  v3:=Tryz.zeroValue3
  t4:=Tryz.underlying4
  a4:=Tryz.isAgg4
  z4:=Tryz.sizeOf4
  v4:=Tryz.zeroValue4
  t5:=Tryz.underlying5
  a5:=Tryz.isAgg5
  z5:=Tryz.sizeOf5
  v5:=Tryz.zeroValue5
  t9:=Tryz.underlying9
  a9:=Tryz.isAgg9
  z9:=Tryz.sizeOf9
  v9:=Tryz.zeroValue9
  t21:=Tryz.underlying21
  a21:=Tryz.isAgg21
  z21:=Tryz.sizeOf21
  v21:=Tryz.zeroValue21
  t46:=Tryz.underlying246
  a46:=Tryz.isAgg246
  z46:=Tryz.sizeOf246
  v46:=Tryz.zeroValue246
  t105:=Tryz.underlying231
  a105:=Tryz.isAgg231
  z105:=Tryz.sizeOf231
  v105:=Tryz.zeroValue231
  t119:=Tryz.underlying268
  a119:=Tryz.isAgg268
  z119:=Tryz.sizeOf268
  t138:=Tryz.underlying270
  a138:=Tryz.isAgg270
  z138:=Tryz.sizeOf270
  v138:=Tryz.zeroValue270
  t139:=Tryz.underlying271
  a139:=Tryz.isAgg271
  z139:=Tryz.sizeOf271
  v139:=Tryz.zeroValue271
  g3:=by kernel_rfl
  g4:=by kernel_rfl }
open Go.RowKit in
theorem Tryz.strings_IndexByte (s:ByteArray) (c:Int) (w:World) :
    Calls Tryz.prog 107 #[.string s,.int .u8 c] w fun e w'=>e= .returned (.int .i64 (Lib.indexByte s.data.toList c.toNat.toUInt8))/\w'=w:=Any.strings_IndexByte Tryz.KL s c w
open Go.RowKit Go.Sort Go.Lib in
theorem Tryz.strconv_Itoa (n:Int) (h0 : -9223372036854775808<=n) (h1:n<=9223372036854775807) (w:World) (htab:Lib.TabIs Tryz.prog w "internal/strconv.uint64pow10" .u64 Lib.pow10Tab) :
    Calls Tryz.prog 135 #[.int .i64 n] w fun e w'=>e= .returned (.string ⟨(Lib.itoa n).toArray⟩)/\∃k os,w'=grow (w.drewN k) os:=Any.strconv_Itoa Tryz.IY n h0 h1 w htab
open Go.RowKit Go.Lib in
theorem Tryz.strings_Contains (s sub:ByteArray) (m:Int) (w:World) (hs:s.size<4294967281) (hm:w.cell? ⟨1,0,none⟩=some (.int .i64 m)) :
    Calls Tryz.prog 177 #[.string s,.string sub] w fun e w'=>e= .returned (.bool (Lib.contains s.data.toList sub.data.toList))/\w'=w:=Any.strings_Contains Tryz.KK s sub m w hs hm
open Go.RowKit Go.Lib in
theorem Tryz.strings_Contains_shaped (s sub:ByteArray) (w:World) (h:w.ShapedOpen Tryz.prog) (hs:s.size<4294967281) :
    Calls Tryz.prog 177 #[.string s,.string sub] w fun e w'=>e= .returned (.bool (Lib.contains s.data.toList sub.data.toList))/\w'=w:=Any.strings_Contains_shaped Tryz.IZ s sub w h hs
open Go.RowKit Go.Lib in
theorem Tryz.utf8_DecodeRuneInString (s:ByteArray) (w:World) (hT:Lib.Utf8Tabs 2 3 w) :
    Calls Tryz.prog 175 #[.string s] w fun e w'=>e= .returned (.tuple #[.int .i32 (Lib.decodeGo s).1,.int .i64 (Lib.decodeGo s).2])/\Below w.heap.size w w':=Any.utf8_DecodeRuneInString Tryz.KH s w hT
end Go.Proofs
