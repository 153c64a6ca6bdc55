/- What the proof of the statement leans on (part 9). -/
import Derived.Shelf.Strings.Builder1
import Derived.Shelf.Small.Bits
import Derived.Shelf.Small.Strs
import Derived.Shelf.Strconv.Itoa0
import Derived.Shelf.Strconv.Itoa1
import Derived.Shelf.LaysM
import Derived.Shelf.Strconv.Itoa2
import Derived.Shelf.Strconv.Itoa3
import Derived.Shelf.Strings.Search1
import Derived.Shelf.Strings.Search2
import Derived.Shelf.Strings.Search3
import Derived.Shelf.Strings.Shaped
import Derived.Shelf.Sort.Plain
import Derived.Shelf.Strings.Prefix
import Derived.Shelf.Unicode.Decode
import Derived.Shelf.Unicode.DecodeSlow
import Derived.Shelf.Unicode.DecodeAny
import Derived.Ground.Names2Prog
import Derived.Shelf.Slices.Clone
import Derived.Shelf.Slices.CompactS
import Derived.Shelf.Slices.Cells
import Derived.Ground.SlgnProg
import Derived.Shelf.SlicesE.Clone
import Derived.Test.YtfegacfjgjaghaaGreatDoorProg
import Derived.Test.YtfegacfjgjaghaaGreatDoorQh

namespace Go.Proofs
open Go.Shelf
def Tryz.lays137_ren:Go.Shelf.Ren:=⟨fun| 137=>153| 217=>131| 266=>147|n=>n,fun| 9=>9| 5=>5| 3=>3|n=>n,fun|n=>n⟩
theorem Tryz.lays137:Go.Proofs.Lays.n137 Tryz.prog Tryz.lays137_ren:= {
  mixed:=by kernel_rfl
  f137:=Tryz.func153.trans (congrArg some (by kernel_rfl))
  f217:=Tryz.func131.trans (congrArg some (by kernel_rfl))
  f266:=Tryz.func147.trans (congrArg some (by kernel_rfl))
  t3:=Tryz.underlying3
  a3:=Tryz.isAgg3
  z3:=Tryz.sizeOf3
  v3:=Tryz.zeroValue3
  t5:=Tryz.underlying5
  a5:=Tryz.isAgg5
  z5:=Tryz.sizeOf5
  v5:=Tryz.zeroValue5
  t9:=Tryz.underlying9
  a9:=Tryz.isAgg9
  z9:=Tryz.sizeOf9
  v9:=Tryz.zeroValue9 }
def Tryz.laysM171_ren:Go.Shelf.Ren:=⟨fun| 171=>67| 243=>90| 246=>111| 283=>127| 284=>128| 285=>129| 286=>130| 129=>103| 317=>143| 318=>144| 319=>145| 320=>146| 337=>154| 338=>155|n=>n,fun| 3=>3| 9=>9| 2=>2| 4=>4| 171=>208| 0=>0| 53=>77| 37=>33| 5=>5| 173=>210| 212=>223| 51=>176| 20=>20| 213=>224| 46=>150| 232=>230| 233=>231|n=>n,fun| 17=>6| 18=>7| 19=>8|n=>n⟩
theorem Tryz.laysM171:Go.Proofs.LaysM.n171 Tryz.prog Tryz.laysM171_ren:= {
  mixed:=by kernel_rfl
  f129:=Tryz.func103.trans (congrArg some (by kernel_rfl))
  f171:=Tryz.func67.trans (congrArg some (by kernel_rfl))
  f243:=Tryz.func90.trans (congrArg some (by kernel_rfl))
  f246:=Tryz.func111.trans (congrArg some (by kernel_rfl))
  f283:=Tryz.func127.trans (congrArg some (by kernel_rfl))
  f284:=Tryz.func128.trans (congrArg some (by kernel_rfl))
  f285:=Tryz.func129.trans (congrArg some (by kernel_rfl))
  f286:=Tryz.func130.trans (congrArg some (by kernel_rfl))
  f317:=Tryz.func143.trans (congrArg some (by kernel_rfl))
  f318:=Tryz.func144.trans (congrArg some (by kernel_rfl))
  f319:=Tryz.func145.trans (congrArg some (by kernel_rfl))
  f320:=Tryz.func146.trans (congrArg some (by kernel_rfl))
  f337:=Tryz.func154.trans (congrArg some (by kernel_rfl))
  f338:=Tryz.func155.trans (congrArg some (by kernel_rfl))
  t0:=Tryz.underlying0
  a0:=Tryz.isAgg0
  z0:=Tryz.sizeOf0
  v0:=Tryz.zeroValue0
  t2:=Tryz.underlying2
  a2:=Tryz.isAgg2
  z2:=Tryz.sizeOf2
  v2:=Tryz.zeroValue2
  t3:=Tryz.underlying3
  a3:=Tryz.isAgg3
  z3:=Tryz.sizeOf3
  v3:=Tryz.zeroValue3
  t4:=Tryz.underlying4
  a4:=Tryz.isAgg4
  z4:=Tryz.sizeOf4
  v4:=Tryz.zeroValue4
  t5:=Tryz.underlying5
  a5:=Tryz.isAgg5
  z5:=Tryz.sizeOf5
  v5:=Tryz.zeroValue5
  t9:=Tryz.underlying9
  a9:=Tryz.isAgg9
  z9:=Tryz.sizeOf9
  v9:=Tryz.zeroValue9
  t20:=Tryz.underlying20
  a20:=Tryz.isAgg20
  z20:=Tryz.sizeOf20
  v20:=Tryz.zeroValue20
  t37:=Tryz.underlying33
  a37:=Tryz.isAgg33
  z37:=Tryz.sizeOf33
  v37:=Tryz.zeroValue33
  t46:=Tryz.underlying150
  a46:=Tryz.isAgg150
  z46:=Tryz.sizeOf150
  v46:=Tryz.zeroValue150
  t51:=Tryz.underlying176
  a51:=Tryz.isAgg176
  z51:=Tryz.sizeOf176
  v51:=Tryz.zeroValue176
  t53:=Tryz.underlying77
  a53:=Tryz.isAgg77
  z53:=Tryz.sizeOf77
  v53:=Tryz.zeroValue77
  t171:=Tryz.underlying208
  a171:=Tryz.isAgg208
  z171:=Tryz.sizeOf208
  v171:=Tryz.zeroValue208
  t173:=Tryz.underlying210
  a173:=Tryz.isAgg210
  z173:=Tryz.sizeOf210
  v173:=Tryz.zeroValue210
  t212:=Tryz.underlying223
  a212:=Tryz.isAgg223
  z212:=Tryz.sizeOf223
  v212:=Tryz.zeroValue223
  t213:=Tryz.underlying224
  a213:=Tryz.isAgg224
  z213:=Tryz.sizeOf224
  t232:=Tryz.underlying230
  a232:=Tryz.isAgg230
  z232:=Tryz.sizeOf230
  v232:=Tryz.zeroValue230
  t233:=Tryz.underlying231
  a233:=Tryz.isAgg231
  z233:=Tryz.sizeOf231
  v233:=Tryz.zeroValue231
  g17:=by kernel_rfl
  g18:=by kernel_rfl
  g19:=by kernel_rfl
  i0:=by kernel_rfl
  i2:=by kernel_rfl
  i3:=by kernel_rfl
  i4:=by kernel_rfl
  i5:=by kernel_rfl
  i9:=by kernel_rfl
  i20:=by kernel_rfl
  i37:=by kernel_rfl
  i46:=by kernel_rfl
  i51:=by kernel_rfl
  i53:=by kernel_rfl
  i171:=by kernel_rfl
  i173:=by kernel_rfl
  i212:=by kernel_rfl
  i232:=by kernel_rfl
  i233:=by kernel_rfl
  m17:=by kernel_rfl
  m18:=by kernel_rfl
  m19:=by kernel_rfl }
def Tryz.lays144_ren:Go.Shelf.Ren:=⟨fun| 144=>74| 143=>92| 219=>112| 217=>131| 225=>132| 224=>133| 267=>134| 266=>147| 314=>148|n=>n,fun| 9=>9| 4=>4| 3=>3| 5=>5| 46=>150| 146=>226| 51=>176|n=>n,fun| 1=>5|n=>n⟩
theorem Tryz.lays144:Go.Proofs.Lays.n144 Tryz.prog Tryz.lays144_ren:= {
  mixed:=by kernel_rfl
  f143:=Tryz.func92.trans (congrArg some (by kernel_rfl))
  f144:=Tryz.func74.trans (congrArg some (by kernel_rfl))
  f217:=Tryz.func131.trans (congrArg some (by kernel_rfl))
  f219:=Tryz.func112.trans (congrArg some (by kernel_rfl))
  f224:=Tryz.func133.trans (congrArg some (by kernel_rfl))
  f225:=Tryz.func132.trans (congrArg some (by kernel_rfl))
  f266:=Tryz.func147.trans (congrArg some (by kernel_rfl))
  f267:=Tryz.func134.trans (congrArg some (by kernel_rfl))
  f314:=Tryz.func148.trans (congrArg some (by kernel_rfl))
  t3:=Tryz.underlying3
  a3:=Tryz.isAgg3
  z3:=Tryz.sizeOf3
  v3:=Tryz.zeroValue3
  t4:=Tryz.underlying4
  a4:=Tryz.isAgg4
  z4:=Tryz.sizeOf4
  v4:=Tryz.zeroValue4
  t5:=Tryz.underlying5
  a5:=Tryz.isAgg5
  z5:=Tryz.sizeOf5
  v5:=Tryz.zeroValue5
  t9:=Tryz.underlying9
  a9:=Tryz.isAgg9
  z9:=Tryz.sizeOf9
  v9:=Tryz.zeroValue9
  t46:=Tryz.underlying150
  a46:=Tryz.isAgg150
  z46:=Tryz.sizeOf150
  v46:=Tryz.zeroValue150
  t51:=Tryz.underlying176
  a51:=Tryz.isAgg176
  z51:=Tryz.sizeOf176
  v51:=Tryz.zeroValue176
  t146:=Tryz.underlying226
  a146:=Tryz.isAgg226
  z146:=Tryz.sizeOf226
  v146:=Tryz.zeroValue226
  g1:=by kernel_rfl }
def Tryz.laysM144_ren:Go.Shelf.Ren:=⟨fun| 144=>74| 143=>92| 219=>112| 217=>131| 225=>132| 224=>133| 267=>134| 266=>147| 314=>148|n=>n,fun| 9=>9| 4=>4| 3=>3| 5=>5| 46=>150| 146=>226| 51=>176|n=>n,fun| 1=>5|n=>n⟩
theorem Tryz.laysM144:Go.Proofs.LaysM.n144 Tryz.prog Tryz.laysM144_ren:= {
  mixed:=by kernel_rfl
  f143:=Tryz.func92.trans (congrArg some (by kernel_rfl))
  f144:=Tryz.func74.trans (congrArg some (by kernel_rfl))
  f217:=Tryz.func131.trans (congrArg some (by kernel_rfl))
  f219:=Tryz.func112.trans (congrArg some (by kernel_rfl))
  f224:=Tryz.func133.trans (congrArg some (by kernel_rfl))
  f225:=Tryz.func132.trans (congrArg some (by kernel_rfl))
  f266:=Tryz.func147.trans (congrArg some (by kernel_rfl))
  f267:=Tryz.func134.trans (congrArg some (by kernel_rfl))
  f314:=Tryz.func148.trans (congrArg some (by kernel_rfl))
  t3:=Tryz.underlying3
  a3:=Tryz.isAgg3
  z3:=Tryz.sizeOf3
  v3:=Tryz.zeroValue3
  t4:=Tryz.underlying4
  a4:=Tryz.isAgg4
  z4:=Tryz.sizeOf4
  v4:=Tryz.zeroValue4
  t5:=Tryz.underlying5
  a5:=Tryz.isAgg5
  z5:=Tryz.sizeOf5
  v5:=Tryz.zeroValue5
  t9:=Tryz.underlying9
  a9:=Tryz.isAgg9
  z9:=Tryz.sizeOf9
  v9:=Tryz.zeroValue9
  t46:=Tryz.underlying150
  a46:=Tryz.isAgg150
  z46:=Tryz.sizeOf150
  v46:=Tryz.zeroValue150
  t51:=Tryz.underlying176
  a51:=Tryz.isAgg176
  z51:=Tryz.sizeOf176
  v51:=Tryz.zeroValue176
  t146:=Tryz.underlying226
  a146:=Tryz.isAgg226
  z146:=Tryz.sizeOf226
  v146:=Tryz.zeroValue226
  g1:=by kernel_rfl
  i3:=by kernel_rfl
  i4:=by kernel_rfl
  i5:=by kernel_rfl
  i9:=by kernel_rfl
  i46:=by kernel_rfl
  i51:=by kernel_rfl
  i146:=by kernel_rfl
  m1:=by kernel_rfl
  s1_3:=fun w h=>Go.Proofs.cell_of_shapedOpen_int (zero:= #[.int .i64 0]) (t:=3) h (of_decide_eq_true (by kernel_rfl)) (by kernel_rfl) rfl (by kernel_rfl) (by kernel_rfl) Tryz.underlying3 }
def Tryz.lays190_ren:Go.Shelf.Ren:=⟨fun| 190=>51| 125=>76| 258=>75| 128=>102| 129=>103| 302=>93| 303=>94| 304=>95| 305=>96| 306=>97| 307=>98| 308=>99| 309=>100| 310=>101| 333=>113| 329=>114| 330=>115| 334=>116| 335=>117| 336=>118| 344=>135|n=>n,fun| 31=>22| 9=>9| 3=>3| 46=>150| 0=>0| 51=>176| 53=>77| 4=>4| 183=>170| 182=>169| 131=>104| 5=>5| 218=>196| 222=>200| 228=>213| 229=>214|n=>n,fun|n=>n⟩
theorem Tryz.lays190:Go.Proofs.Lays.n190 Tryz.prog Tryz.lays190_ren:= {
  mixed:=by kernel_rfl
  f125:=Tryz.func76.trans (congrArg some (by kernel_rfl))
  f128:=Tryz.func102.trans (congrArg some (by kernel_rfl))
  f129:=Tryz.func103.trans (congrArg some (by kernel_rfl))
  f190:=Tryz.func51.trans (congrArg some (by kernel_rfl))
  f258:=Tryz.func75.trans (congrArg some (by kernel_rfl))
  f302:=Tryz.func93.trans (congrArg some (by kernel_rfl))
  f303:=Tryz.func94.trans (congrArg some (by kernel_rfl))
  f304:=Tryz.func95.trans (congrArg some (by kernel_rfl))
  f305:=Tryz.func96.trans (congrArg some (by kernel_rfl))
  f306:=Tryz.func97.trans (congrArg some (by kernel_rfl))
  f307:=Tryz.func98.trans (congrArg some (by kernel_rfl))
  f308:=Tryz.func99.trans (congrArg some (by kernel_rfl))
  f309:=Tryz.func100.trans (congrArg some (by kernel_rfl))
  f310:=Tryz.func101.trans (congrArg some (by kernel_rfl))
  f329:=Tryz.func114.trans (congrArg some (by kernel_rfl))
  f330:=Tryz.func115.trans (congrArg some (by kernel_rfl))
  f333:=Tryz.func113.trans (congrArg some (by kernel_rfl))
  f334:=Tryz.func116.trans (congrArg some (by kernel_rfl))
  f335:=Tryz.func117.trans (congrArg some (by kernel_rfl))
  f336:=Tryz.func118.trans (congrArg some (by kernel_rfl))
  f344:=Tryz.func135.trans (congrArg some (by kernel_rfl))
  t0:=Tryz.underlying0
  a0:=Tryz.isAgg0
  z0:=Tryz.sizeOf0
  v0:=Tryz.zeroValue0
  t3:=Tryz.underlying3
  a3:=Tryz.isAgg3
  z3:=Tryz.sizeOf3
  v3:=Tryz.zeroValue3
  t4:=Tryz.underlying4
  a4:=Tryz.isAgg4
  z4:=Tryz.sizeOf4
  v4:=Tryz.zeroValue4
  t5:=Tryz.underlying5
  a5:=Tryz.isAgg5
  z5:=Tryz.sizeOf5
  v5:=Tryz.zeroValue5
  t9:=Tryz.underlying9
  a9:=Tryz.isAgg9
  z9:=Tryz.sizeOf9
  v9:=Tryz.zeroValue9
  t31:=Tryz.underlying22
  a31:=Tryz.isAgg22
  z31:=Tryz.sizeOf22
  v31:=Tryz.zeroValue22
  t46:=Tryz.underlying150
  a46:=Tryz.isAgg150
  z46:=Tryz.sizeOf150
  v46:=Tryz.zeroValue150
  t51:=Tryz.underlying176
  a51:=Tryz.isAgg176
  z51:=Tryz.sizeOf176
  v51:=Tryz.zeroValue176
  t53:=Tryz.underlying77
  a53:=Tryz.isAgg77
  z53:=Tryz.sizeOf77
  v53:=Tryz.zeroValue77
  t131:=Tryz.underlying104
  a131:=Tryz.isAgg104
  z131:=Tryz.sizeOf104
  v131:=Tryz.zeroValue104
  t182:=Tryz.underlying169
  a182:=Tryz.isAgg169
  z182:=Tryz.sizeOf169
  v182:=Tryz.zeroValue169
  t183:=Tryz.underlying170
  a183:=Tryz.isAgg170
  z183:=Tryz.sizeOf170
  v183:=Tryz.zeroValue170
  t218:=Tryz.underlying196
  a218:=Tryz.isAgg196
  z218:=Tryz.sizeOf196
  v218:=Tryz.zeroValue196
  t222:=Tryz.underlying200
  a222:=Tryz.isAgg200
  z222:=Tryz.sizeOf200
  v222:=Tryz.zeroValue200
  t228:=Tryz.underlying213
  a228:=Tryz.isAgg213
  z228:=Tryz.sizeOf213
  v228:=Tryz.zeroValue213
  t229:=Tryz.underlying214
  a229:=Tryz.isAgg214
  z229:=Tryz.sizeOf214
  v229:=Tryz.zeroValue214 }
def Tryz.lays99_ren:Go.Shelf.Ren:=⟨fun| 99=>28| 206=>53|n=>n,fun| 9=>9| 4=>4| 3=>3|n=>n,fun|n=>n⟩
theorem Tryz.lays99:Go.Proofs.Lays.n99 Tryz.prog Tryz.lays99_ren:= {
  mixed:=by kernel_rfl
  f99:=Tryz.func28.trans (congrArg some (by kernel_rfl))
  f206:=Tryz.func53.trans (congrArg some (by kernel_rfl))
  t3:=Tryz.underlying3
  a3:=Tryz.isAgg3
  z3:=Tryz.sizeOf3
  v3:=Tryz.zeroValue3
  t4:=Tryz.underlying4
  a4:=Tryz.isAgg4
  z4:=Tryz.sizeOf4
  v4:=Tryz.zeroValue4
  t9:=Tryz.underlying9
  a9:=Tryz.isAgg9
  z9:=Tryz.sizeOf9
  v9:=Tryz.zeroValue9 }
def Tryz.lays197_ren:Go.Shelf.Ren:=⟨fun| 197=>72| 260=>91|n=>n,fun| 9=>9| 21=>21| 3=>3| 4=>4| 5=>5| 105=>144| 119=>192| 0=>0| 46=>150| 139=>195| 138=>194|n=>n,fun| 3=>2| 4=>3|n=>n⟩
theorem Tryz.lays197:Go.Proofs.Lays.n197 Tryz.prog Tryz.lays197_ren:= {
  mixed:=by kernel_rfl
  f197:=Tryz.func72.trans (congrArg some (by kernel_rfl))
  f260:=Tryz.func91.trans (congrArg some (by kernel_rfl))
  t0:=Tryz.underlying0
  a0:=Tryz.isAgg0
  z0:=Tryz.sizeOf0
  v0:=Tryz.zeroValue0
  t3:=Tryz.underlying3
  a3:=Tryz.isAgg3
  z3:=Tryz.sizeOf3
  v3:=Tryz.zeroValue3
  t4:=Tryz.underlying4
  a4:=Tryz.isAgg4
  z4:=Tryz.sizeOf4
  v4:=Tryz.zeroValue4
  t5:=Tryz.underlying5
  a5:=Tryz.isAgg5
  z5:=Tryz.sizeOf5
  v5:=Tryz.zeroValue5
  t9:=Tryz.underlying9
  a9:=Tryz.isAgg9
  z9:=Tryz.sizeOf9
  v9:=Tryz.zeroValue9
  t21:=Tryz.underlying21
  a21:=Tryz.isAgg21
  z21:=Tryz.sizeOf21
  v21:=Tryz.zeroValue21
  t46:=Tryz.underlying150
  a46:=Tryz.isAgg150
  z46:=Tryz.sizeOf150
  v46:=Tryz.zeroValue150
  t105:=Tryz.underlying144
  a105:=Tryz.isAgg144
  z105:=Tryz.sizeOf144
  v105:=Tryz.zeroValue144
  t119:=Tryz.underlying192
  a119:=Tryz.isAgg192
  z119:=Tryz.sizeOf192
  t138:=Tryz.underlying194
  a138:=Tryz.isAgg194
  z138:=Tryz.sizeOf194
  v138:=Tryz.zeroValue194
  t139:=Tryz.underlying195
  a139:=Tryz.isAgg195
  z139:=Tryz.sizeOf195
  v139:=Tryz.zeroValue195
  g3:=by kernel_rfl
  g4:=by kernel_rfl }
def Tryz.lays194_ren:Go.Shelf.Ren:=⟨fun| 194=>52|n=>n,fun| 31=>22| 9=>9| 3=>3| 4=>4| 0=>0|n=>n,fun|n=>n⟩
theorem Tryz.lays194:Go.Proofs.Lays.n194 Tryz.prog Tryz.lays194_ren:= {
  mixed:=by kernel_rfl
  f194:=Tryz.func52.trans (congrArg some (by kernel_rfl))
  t0:=Tryz.underlying0
  a0:=Tryz.isAgg0
  z0:=Tryz.sizeOf0
  v0:=Tryz.zeroValue0
  t3:=Tryz.underlying3
  a3:=Tryz.isAgg3
  z3:=Tryz.sizeOf3
  v3:=Tryz.zeroValue3
  t4:=Tryz.underlying4
  a4:=Tryz.isAgg4
  z4:=Tryz.sizeOf4
  v4:=Tryz.zeroValue4
  t9:=Tryz.underlying9
  a9:=Tryz.isAgg9
  z9:=Tryz.sizeOf9
  v9:=Tryz.zeroValue9
  t31:=Tryz.underlying22
  a31:=Tryz.isAgg22
  z31:=Tryz.sizeOf22
  v31:=Tryz.zeroValue22 }
open Go.RowKit in
theorem Tryz.strings_IndexByte (s:ByteArray) (c:Int) (w:World) :
    Calls Tryz.prog 153 #[.string s,.int .u8 c] w fun e w'=>e= .returned (.int .i64 (Lib.indexByte s.data.toList c.toNat.toUInt8))∧w'=w:=Any.strings_IndexByte Tryz.lays137 s c w
open Go.RowKit Go.Sort Go.Lib in
theorem Tryz.strconv_Itoa (n:Int) (h0 : -9223372036854775808≤n) (h1:n≤9223372036854775807) (w:World) (htab:Lib.TabIs Tryz.prog w "internal/strconv.uint64pow10" .u64 Lib.pow10Tab) :
    Calls Tryz.prog 67 #[.int .i64 n] w fun e w'=>e= .returned (.string ⟨(Lib.itoa n).toArray⟩)∧∃k os,w'=grow (w.drewN k) os:=Any.strconv_Itoa Tryz.laysM171 n h0 h1 w htab
open Go.RowKit Go.Lib in
theorem Tryz.strings_Contains (s sub:ByteArray) (m:Int) (w:World) (hs:s.size<4294967281) (hm:w.cell? ⟨5,0,none⟩=some (.int .i64 m)) :
    Calls Tryz.prog 74 #[.string s,.string sub] w fun e w'=>e= .returned (.bool (Lib.contains s.data.toList sub.data.toList))∧w'=w:=Any.strings_Contains Tryz.lays144 s sub m w hs hm
open Go.RowKit Go.Lib in
theorem Tryz.strings_Contains_shaped (s sub:ByteArray) (w:World) (h:w.ShapedOpen Tryz.prog) (hs:s.size<4294967281) :
    Calls Tryz.prog 74 #[.string s,.string sub] w fun e w'=>e= .returned (.bool (Lib.contains s.data.toList sub.data.toList))∧w'=w:=Any.strings_Contains_shaped Tryz.laysM144 s sub w h hs
open Go.Sort Go.RowKit in
theorem Tryz.slices_Sort_string (blk off cap:Nat) (ss:List (List UInt8)) (w:World) (hH:Holds encStr w blk off ss.toArray) (hblk:blk<w.heap.size) (hsz:ss.length<4611686018427387904) :
    Calls Tryz.prog 51 #[.slice (some ⟨blk,off,none⟩) ss.length cap] w fun e w' =>
      e= .returned (.tuple #[])∧∃n os,w'=grow (putRow encStr (Sort.ahead w n) blk off (ss.mergeSort fun x y=>decide (x≤y)).toArray) os:=Any.slices_Sort_string Tryz.lays190 blk off cap ss w hH hblk hsz
open Go.RowKit Go.Lib in
theorem Tryz.strings_HasPrefix (s p:ByteArray) (w:World) :
    Calls Tryz.prog 28 #[.string s,.string p] w fun e w'=>e= .returned (.bool (Lib.hasPrefix s.data.toList p.data.toList))∧w'=w:=Any.strings_HasPrefix Tryz.lays99 s p w
open Go.RowKit Go.Lib in
theorem Tryz.utf8_DecodeRuneInString (s:ByteArray) (w:World) (hT:Lib.Utf8Tabs 2 3 w) :
    Calls Tryz.prog 72 #[.string s] w fun e w'=>e= .returned (.tuple #[.int .i32 (Lib.decodeGo s).1,.int .i64 (Lib.decodeGo s).2])∧Below w.heap.size w w':=Any.utf8_DecodeRuneInString Tryz.lays197 s w hT
open Go.RowKit Go.Lib Go.Sort in
theorem Tryz.slices_Compact_string (blk off cap:Nat) (zs:List (List UInt8)) (w:World) (hH:Holds encStr w blk off zs.toArray) (hsz:zs.length≤9223372036854775807) (hcap:zs.length≤cap) :
    Calls Tryz.prog 52 #[.slice (some ⟨blk,off,none⟩) zs.length cap] w fun e w'=>e= .returned (.slice (some ⟨blk,off,none⟩) (Lib.compact zs).length cap)∧∃q,w'=putRow encStr (Sort.ahead w q) blk off (Lib.compact zs++List.replicate (zs.length-(Lib.compact zs).length) []).toArray:=Any.slices_Compact_string Tryz.lays194 blk off cap zs w hH hsz hcap
open Go.RowKit Go.Lib Go.Sort in
theorem Tryz.slices_Compact_string_empty (a:Option Addr) (cap:Nat) (w:World) :
    Calls Tryz.prog 52 #[.slice a 0 cap] w fun e w'=>e= .returned (.slice a 0 cap)∧w'=w:=Any.slices_Compact_string_empty Tryz.lays194 a cap w
end Go.Proofs
