/- What the proof of the statement leans on (part 17). -/
import Derived.Shelf.Small.Strs
import Derived.Shelf.Strconv.Itoa0
import Derived.Shelf.Strconv.Itoa1
import Derived.Shelf.LaysM
import Derived.Shelf.Strconv.Itoa2
import Derived.Shelf.Strconv.Itoa3
import Derived.Shelf.Strings.Search1
import Derived.Test.YtbbjkiigpdjaaaaDoorProg
import Derived.Test.YtbbjkiigpdjaaaaDoorQp

namespace Go.Proofs
open Go.Shelf
def Tryd.wj:Go.Shelf.Ren:=⟨fun| 137=>91| 217=>94| 266=>95|n=>n,fun| 9=>9| 5=>5| 3=>3|n=>n,fun|n=>n⟩
theorem Tryd.Cc:Go.Proofs.Lays.n137 Tryd.prog Tryd.wj:= {
  mixed:=by kernel_rfl
  f137:=Tryd.func91.trans (congrArg some (by kernel_rfl))
  f217:=Tryd.func94.trans (congrArg some (by kernel_rfl))
  f266:=Tryd.func95.trans (congrArg some (by kernel_rfl))
  t3:=Tryd.underlying3
  a3:=Tryd.isAgg3
  z3:=Tryd.sizeOf3
  v3:=Tryd.zeroValue3
  t5:=Tryd.underlying5
  a5:=Tryd.isAgg5
  z5:=Tryd.sizeOf5
  v5:=Tryd.zeroValue5
  t9:=Tryd.underlying9
  a9:=Tryd.isAgg9
  z9:=Tryd.sizeOf9
  v9:=Tryd.zeroValue9 }
def Tryd.uI:Go.Shelf.Ren:=⟨fun| 171=>52| 243=>67| 246=>72| 283=>76| 284=>77| 285=>78| 286=>79| 129=>85| 317=>84| 318=>86| 319=>87| 320=>88| 337=>92| 338=>93|n=>n,fun| 3=>3| 9=>9| 2=>2| 4=>4| 171=>144| 0=>0| 53=>45| 37=>119| 5=>5| 173=>147| 212=>153| 51=>154| 20=>20| 213=>155| 46=>157| 232=>162| 233=>163|n=>n,fun| 17=>1| 18=>2| 19=>3|n=>n⟩
theorem Tryd.A3:Go.Proofs.LaysM.n171 Tryd.prog Tryd.uI:= {
  mixed:=by kernel_rfl
  f129:=Tryd.func85.trans (congrArg some (by kernel_rfl))
  f171:=Tryd.func52.trans (congrArg some (by kernel_rfl))
  f243:=Tryd.func67.trans (congrArg some (by kernel_rfl))
  f246:=Tryd.func72.trans (congrArg some (by kernel_rfl))
  f283:=Tryd.func76.trans (congrArg some (by kernel_rfl))
  f284:=Tryd.func77.trans (congrArg some (by kernel_rfl))
  f285:=Tryd.func78.trans (congrArg some (by kernel_rfl))
  f286:=Tryd.func79.trans (congrArg some (by kernel_rfl))
  f317:=Tryd.func84.trans (congrArg some (by kernel_rfl))
  f318:=Tryd.func86.trans (congrArg some (by kernel_rfl))
  f319:=Tryd.func87.trans (congrArg some (by kernel_rfl))
  f320:=Tryd.func88.trans (congrArg some (by kernel_rfl))
  f337:=Tryd.func92.trans (congrArg some (by kernel_rfl))
  f338:=Tryd.func93.trans (congrArg some (by kernel_rfl))
  t0:=Tryd.underlying0
  a0:=Tryd.isAgg0
  z0:=Tryd.sizeOf0
  v0:=Tryd.zeroValue0
  t2:=Tryd.underlying2
  a2:=Tryd.isAgg2
  z2:=Tryd.sizeOf2
  v2:=Tryd.zeroValue2
  t3:=Tryd.underlying3
  a3:=Tryd.isAgg3
  z3:=Tryd.sizeOf3
  v3:=Tryd.zeroValue3
  t4:=Tryd.underlying4
  a4:=Tryd.isAgg4
  z4:=Tryd.sizeOf4
  v4:=Tryd.zeroValue4
  t5:=Tryd.underlying5
  a5:=Tryd.isAgg5
  z5:=Tryd.sizeOf5
  v5:=Tryd.zeroValue5
  t9:=Tryd.underlying9
  a9:=Tryd.isAgg9
  z9:=Tryd.sizeOf9
  v9:=Tryd.zeroValue9
  t20:=Tryd.underlying20
  a20:=Tryd.isAgg20
  z20:=Tryd.sizeOf20
  v20:=Tryd.zeroValue20
  t37:=Tryd.underlying119
  a37:=Tryd.isAgg119
  z37:=Tryd.sizeOf119
  v37:=Tryd.zeroValue119
  t46:=Tryd.underlying157
  a46:=Tryd.isAgg157
  z46:=Tryd.sizeOf157
  v46:=Tryd.zeroValue157
  t51:=Tryd.underlying154
  a51:=Tryd.isAgg154
  z51:=Tryd.sizeOf154
  v51:=Tryd.zeroValue154
  t53:=Tryd.underlying45
  a53:=Tryd.isAgg45
  z53:=Tryd.sizeOf45
  v53:=Tryd.zeroValue45
  t171:=Tryd.underlying144
  a171:=Tryd.isAgg144
  z171:=Tryd.sizeOf144
  v171:=Tryd.zeroValue144
  t173:=Tryd.underlying147
  a173:=Tryd.isAgg147
  z173:=Tryd.sizeOf147
  v173:=Tryd.zeroValue147
  t212:=Tryd.underlying153
  a212:=Tryd.isAgg153
  z212:=Tryd.sizeOf153
  v212:=Tryd.zeroValue153
  t213:=Tryd.underlying155
  a213:=Tryd.isAgg155
  z213:=Tryd.sizeOf155
  t232:=Tryd.underlying162
  a232:=Tryd.isAgg162
  z232:=Tryd.sizeOf162
  v232:=Tryd.zeroValue162
  t233:=Tryd.underlying163
  a233:=Tryd.isAgg163
  z233:=Tryd.sizeOf163
  v233:=Tryd.zeroValue163
  g17:=by kernel_rfl
  g18:=by kernel_rfl
  g19:=by kernel_rfl
  i0:=by kernel_rfl
  i2:=by kernel_rfl
  i3:=by kernel_rfl
  i4:=by kernel_rfl
  i5:=by kernel_rfl
  i9:=by kernel_rfl
  i20:=by kernel_rfl
  i37:=by kernel_rfl
  i46:=by kernel_rfl
  i51:=by kernel_rfl
  i53:=by kernel_rfl
  i171:=by kernel_rfl
  i173:=by kernel_rfl
  i212:=by kernel_rfl
  i232:=by kernel_rfl
  i233:=by kernel_rfl
  m17:=by kernel_rfl
  m18:=by kernel_rfl
  m19:=by kernel_rfl }
open Go.RowKit in
theorem Tryd.strings_IndexByte (s:ByteArray) (c:Int) (w:World) :
    Calls Tryd.prog 91 #[.string s,.int .u8 c] w fun e w'=>e= .returned (.int .i64 (Lib.indexByte s.data.toList c.toNat.toUInt8))/\w'=w:=Any.strings_IndexByte Tryd.Cc s c w
open Go.RowKit Go.Sort Go.Lib in
theorem Tryd.strconv_Itoa (n:Int) (h0 : -9223372036854775808<=n) (h1:n<=9223372036854775807) (w:World) (htab:Lib.TabIs Tryd.prog w "internal/strconv.uint64pow10" .u64 Lib.pow10Tab) :
    Calls Tryd.prog 52 #[.int .i64 n] w fun e w'=>e= .returned (.string ⟨(Lib.itoa n).toArray⟩)/\∃k os,w'=grow (w.drewN k) os:=Any.strconv_Itoa Tryd.A3 n h0 h1 w htab
end Go.Proofs
