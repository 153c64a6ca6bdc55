/- What the proof of the statement leans on (part 28). -/
import Derived.Shelf.Strings.Builder1
import Derived.Shelf.Strings.Builder2
import Derived.Shelf.Small.Utf8
import Derived.Shelf.Small.Strs
import Derived.Shelf.Small.Wraps
import Derived.Shelf.Strings.BuilderF
import Derived.Shelf.Strconv.Itoa0
import Derived.Shelf.Strconv.Itoa1
import Derived.Shelf.LaysM
import Derived.Shelf.Strconv.Itoa2
import Derived.Shelf.Strconv.Itoa3
import Derived.Shelf.Strconv.Itoa4
import Derived.Shelf.Strconv.ParseIntEmpty
import Derived.Shelf.Strconv.Clone
import Derived.Shelf.Strconv.SyntaxError
import Derived.Shelf.LaysC
import Derived.Shelf.Strconv.ToError
import Derived.Shelf.Strconv.Lower
import Derived.Shelf.Strconv.ParseUint10
import Derived.Shelf.Strconv.ParseUint10Empty
import Derived.Shelf.Strconv.ParseUint10Any
import Derived.Shelf.Strconv.ParseInt10
import Derived.Shelf.Strconv.RangeError
import Derived.Shelf.Strconv.ToErrorRange
import Derived.Shelf.Strconv.ParseUintEmpty
import Derived.Shelf.Strconv.ParseUint10b64
import Derived.Shelf.Strconv.ParseUint10b32
import Derived.Shelf.Strconv.ParseUint10b16
import Derived.Shelf.Strconv.ParseUint10b8
import Derived.Shelf.Strconv.ParseUint10At
import Derived.Shelf.Strconv.ParseInt10At64
import Derived.Shelf.Strconv.ParseInt10At32
import Derived.Shelf.Strconv.ParseInt10At16
import Derived.Shelf.Strconv.ParseInt10At8
import Derived.Shelf.Strconv.ParseInt10All
import Derived.Shelf.Strconv.ParseIntPublic10
import Derived.Shelf.Strconv.ErrVarParseInt
import Derived.Shelf.Strings.Search1
import Derived.Shelf.Strings.Search2
import Derived.Shelf.Strings.Search3
import Derived.Shelf.Strings.Shaped
import Derived.Shelf.Strings.Prefix
import Derived.Shelf.Unicode.Decode
import Derived.Shelf.Strings.Runes
import Derived.Shelf.Strings.AsciiSet
import Derived.Shelf.Unicode.DecodeSlow
import Derived.Shelf.Unicode.DecodeAny
import Derived.Test.YtmehdcdbeafljaaGreatDoorProg
import Derived.Below
import Derived.KernelRfl
import Derived.Test.YtmehdcdbeafljaaGreatDoorQza

namespace Go.Proofs
open Go.Shelf
def Tryz.Am:Go.Shelf.Ren:=⟨fun| 106=>121| 213=>157| 265=>180|n=>n,fun| 9=>9| 3=>3|n=>n,fun|n=>n⟩
theorem Tryz.G6:Go.Proofs.Lays.n106 Tryz.prog Tryz.Am:= {
  mixed:=by kernel_rfl
  f106:=Tryz.func121.trans (congrArg some (by kernel_rfl))
  f213:=Tryz.func157.trans (congrArg some (by kernel_rfl))
  f265:=Tryz.func180.trans (congrArg some (by kernel_rfl))
  t3:=Tryz.underlying3
  a3:=Tryz.isAgg3
  z3:=Tryz.sizeOf3
  v3:=Tryz.zeroValue3
  t9:=Tryz.underlying9
  a9:=Tryz.isAgg9
  z9:=Tryz.sizeOf9
  v9:=Tryz.zeroValue9 }
def Tryz.Al:Go.Shelf.Ren:=⟨fun| 121=>46| 214=>92|n=>n,fun| 4=>4| 9=>9|n=>n,fun|n=>n⟩
theorem Tryz.G5:Go.Proofs.Lays.n121 Tryz.prog Tryz.Al:= {
  mixed:=by kernel_rfl
  f121:=Tryz.func46.trans (congrArg some (by kernel_rfl))
  f214:=Tryz.func92.trans (congrArg some (by kernel_rfl))
  t4:=Tryz.underlying4
  a4:=Tryz.isAgg4
  z4:=Tryz.sizeOf4
  v4:=Tryz.zeroValue4
  t9:=Tryz.underlying9
  a9:=Tryz.isAgg9
  z9:=Tryz.sizeOf9
  v9:=Tryz.zeroValue9 }
def Tryz.xG:Go.Shelf.Ren:=⟨fun| 173=>45| 246=>91| 283=>133| 284=>134| 285=>135| 286=>136| 129=>165| 317=>164| 318=>166| 319=>167| 320=>168| 337=>182| 338=>183|n=>n,fun| 2=>2| 3=>3| 9=>9| 4=>4| 171=>240| 0=>0| 53=>128| 37=>38| 5=>5| 173=>243| 212=>264| 51=>265| 20=>20| 213=>266| 46=>254| 232=>296| 233=>297|n=>n,fun| 17=>4| 18=>11| 19=>12|n=>n⟩
theorem Tryz.Fq:Go.Proofs.LaysM.n173 Tryz.prog Tryz.xG:= {
  mixed:=by kernel_rfl
  f129:=Tryz.func165.trans (congrArg some (by kernel_rfl))
  f173:=Tryz.func45.trans (congrArg some (by kernel_rfl))
  f246:=Tryz.func91.trans (congrArg some (by kernel_rfl))
  f283:=Tryz.func133.trans (congrArg some (by kernel_rfl))
  f284:=Tryz.func134.trans (congrArg some (by kernel_rfl))
  f285:=Tryz.func135.trans (congrArg some (by kernel_rfl))
  f286:=Tryz.func136.trans (congrArg some (by kernel_rfl))
  f317:=Tryz.func164.trans (congrArg some (by kernel_rfl))
  f318:=Tryz.func166.trans (congrArg some (by kernel_rfl))
  f319:=Tryz.func167.trans (congrArg some (by kernel_rfl))
  f320:=Tryz.func168.trans (congrArg some (by kernel_rfl))
  f337:=Tryz.func182.trans (congrArg some (by kernel_rfl))
  f338:=Tryz.func183.trans (congrArg some (by kernel_rfl))
  t0:=Tryz.underlying0
  a0:=Tryz.isAgg0
  z0:=Tryz.sizeOf0
  v0:=Tryz.zeroValue0
  t2:=Tryz.underlying2
  a2:=Tryz.isAgg2
  z2:=Tryz.sizeOf2
  v2:=Tryz.zeroValue2
  t3:=Tryz.underlying3
  a3:=Tryz.isAgg3
  z3:=Tryz.sizeOf3
  v3:=Tryz.zeroValue3
  t4:=Tryz.underlying4
  a4:=Tryz.isAgg4
  z4:=Tryz.sizeOf4
  v4:=Tryz.zeroValue4
  t5:=Tryz.underlying5
  a5:=Tryz.isAgg5
  z5:=Tryz.sizeOf5
  v5:=Tryz.zeroValue5
  t9:=Tryz.underlying9
  a9:=Tryz.isAgg9
  z9:=Tryz.sizeOf9
  v9:=Tryz.zeroValue9
  t20:=Tryz.underlying20
  a20:=Tryz.isAgg20
  z20:=Tryz.sizeOf20
  v20:=Tryz.zeroValue20
  t37:=Tryz.underlying38
  a37:=Tryz.isAgg38
  z37:=Tryz.sizeOf38
  v37:=Tryz.zeroValue38
  t46:=Tryz.underlying254
  a46:=Tryz.isAgg254
  z46:=Tryz.sizeOf254
  v46:=Tryz.zeroValue254
  t51:=Tryz.underlying265
  a51:=Tryz.isAgg265
  z51:=Tryz.sizeOf265
  v51:=Tryz.zeroValue265
  t53:=Tryz.underlying128
  a53:=Tryz.isAgg128
  z53:=Tryz.sizeOf128
  v53:=Tryz.zeroValue128
  t171:=Tryz.underlying240
  a171:=Tryz.isAgg240
  z171:=Tryz.sizeOf240
  v171:=Tryz.zeroValue240
  t173:=Tryz.underlying243
  a173:=Tryz.isAgg243
  z173:=Tryz.sizeOf243
  v173:=Tryz.zeroValue243
  t212:=Tryz.underlying264
  a212:=Tryz.isAgg264
  z212:=Tryz.sizeOf264
  v212:=Tryz.zeroValue264
  t213:=Tryz.underlying266
  a213:=Tryz.isAgg266
  z213:=Tryz.sizeOf266
  t232:=Tryz.underlying296
  a232:=Tryz.isAgg296
  z232:=Tryz.sizeOf296
  v232:=Tryz.zeroValue296
  t233:=Tryz.underlying297
  a233:=Tryz.isAgg297
  z233:=Tryz.sizeOf297
  v233:=Tryz.zeroValue297
  g17:=by kernel_rfl
  g18:=by kernel_rfl
  g19:=by kernel_rfl
  i0:=by kernel_rfl
  i2:=by kernel_rfl
  i3:=by kernel_rfl
  i4:=by kernel_rfl
  i5:=by kernel_rfl
  i9:=by kernel_rfl
  i20:=by kernel_rfl
  i37:=by kernel_rfl
  i46:=by kernel_rfl
  i51:=by kernel_rfl
  i53:=by kernel_rfl
  i171:=by kernel_rfl
  i173:=by kernel_rfl
  i212:=by kernel_rfl
  i232:=by kernel_rfl
  i233:=by kernel_rfl
  m17:=by kernel_rfl
  m18:=by kernel_rfl
  m19:=by kernel_rfl }
def Tryz.xJ:Go.Shelf.Ren:=⟨fun| 174=>69| 247=>114| 245=>115| 287=>150| 279=>151| 280=>152| 281=>153| 282=>154| 321=>175| 322=>176| 316=>177| 171=>100| 205=>178| 243=>142| 246=>91| 283=>133| 284=>134| 285=>135| 286=>136| 129=>165| 317=>164| 318=>166| 319=>167| 320=>168| 337=>182| 338=>183|n=>n,fun| 9=>9| 3=>3| 2=>2| 75=>171| 85=>172| 4=>4| 167=>251| 5=>5| 53=>128| 175=>252| 46=>254| 168=>255| 37=>38| 0=>0| 210=>279| 21=>21| 127=>248| 145=>295| 143=>293| 171=>240| 173=>243| 212=>264| 51=>265| 20=>20| 213=>266| 232=>296| 233=>297| 80=>210|n=>n,fun| 15=>7| 16=>8| 17=>4| 18=>11| 19=>12|n=>n⟩
theorem Tryz.tD:Go.Proofs.LaysC.n174 Tryz.prog Tryz.xJ:= {
  mixed:=by kernel_rfl
  f129:=Tryz.func165.trans (congrArg some (by kernel_rfl))
  f171:=Tryz.func100.trans (congrArg some (by kernel_rfl))
  f174:=Tryz.func69.trans (congrArg some (by kernel_rfl))
  f205:=Tryz.func178.trans (congrArg some (by kernel_rfl))
  f243:=Tryz.func142.trans (congrArg some (by kernel_rfl))
  f245:=Tryz.func115.trans (congrArg some (by kernel_rfl))
  f246:=Tryz.func91.trans (congrArg some (by kernel_rfl))
  f247:=Tryz.func114.trans (congrArg some (by kernel_rfl))
  f279:=Tryz.func151.trans (congrArg some (by kernel_rfl))
  f280:=Tryz.func152.trans (congrArg some (by kernel_rfl))
  f281:=Tryz.func153.trans (congrArg some (by kernel_rfl))
  f282:=Tryz.func154.trans (congrArg some (by kernel_rfl))
  f283:=Tryz.func133.trans (congrArg some (by kernel_rfl))
  f284:=Tryz.func134.trans (congrArg some (by kernel_rfl))
  f285:=Tryz.func135.trans (congrArg some (by kernel_rfl))
  f286:=Tryz.func136.trans (congrArg some (by kernel_rfl))
  f287:=Tryz.func150.trans (congrArg some (by kernel_rfl))
  f316:=Tryz.func177.trans (congrArg some (by kernel_rfl))
  f317:=Tryz.func164.trans (congrArg some (by kernel_rfl))
  f318:=Tryz.func166.trans (congrArg some (by kernel_rfl))
  f319:=Tryz.func167.trans (congrArg some (by kernel_rfl))
  f320:=Tryz.func168.trans (congrArg some (by kernel_rfl))
  f321:=Tryz.func175.trans (congrArg some (by kernel_rfl))
  f322:=Tryz.func176.trans (congrArg some (by kernel_rfl))
  f337:=Tryz.func182.trans (congrArg some (by kernel_rfl))
  f338:=Tryz.func183.trans (congrArg some (by kernel_rfl))
  t0:=Tryz.underlying0
  a0:=Tryz.isAgg0
  z0:=Tryz.sizeOf0
  v0:=Tryz.zeroValue0
  t2:=Tryz.underlying2
  a2:=Tryz.isAgg2
  z2:=Tryz.sizeOf2
  v2:=Tryz.zeroValue2
  t3:=Tryz.underlying3
  a3:=Tryz.isAgg3
  z3:=Tryz.sizeOf3
  v3:=Tryz.zeroValue3
  t4:=Tryz.underlying4
  a4:=Tryz.isAgg4
  z4:=Tryz.sizeOf4
  v4:=Tryz.zeroValue4
  t5:=Tryz.underlying5
  a5:=Tryz.isAgg5
  z5:=Tryz.sizeOf5
  v5:=Tryz.zeroValue5
  t9:=Tryz.underlying9
  a9:=Tryz.isAgg9
  z9:=Tryz.sizeOf9
  v9:=Tryz.zeroValue9
  t20:=Tryz.underlying20
  a20:=Tryz.isAgg20
  z20:=Tryz.sizeOf20
  v20:=Tryz.zeroValue20
  t21:=Tryz.underlying21
  a21:=Tryz.isAgg21
  z21:=Tryz.sizeOf21
  v21:=Tryz.zeroValue21
  t37:=Tryz.underlying38
  a37:=Tryz.isAgg38
  z37:=Tryz.sizeOf38
  v37:=Tryz.zeroValue38
  t46:=Tryz.underlying254
  a46:=Tryz.isAgg254
  z46:=Tryz.sizeOf254
  v46:=Tryz.zeroValue254
  t51:=Tryz.underlying265
  a51:=Tryz.isAgg265
  z51:=Tryz.sizeOf265
  v51:=Tryz.zeroValue265
  t53:=Tryz.underlying128
  a53:=Tryz.isAgg128
  z53:=Tryz.sizeOf128
  v53:=Tryz.zeroValue128
  t75:=Tryz.underlying171
  a75:=Tryz.isAgg171
  z75:=Tryz.sizeOf171
  v75:=Tryz.zeroValue171
  t85:=Tryz.underlying172
  a85:=Tryz.isAgg172
  z85:=Tryz.sizeOf172
  v85:=Tryz.zeroValue172
  t127:=Tryz.underlying248
  a127:=Tryz.isAgg248
  z127:=Tryz.sizeOf248
  v127:=Tryz.zeroValue248
  t143:=Tryz.underlying293
  a143:=Tryz.isAgg293
  z143:=Tryz.sizeOf293
  v143:=Tryz.zeroValue293
  t145:=Tryz.underlying295
  a145:=Tryz.isAgg295
  z145:=Tryz.sizeOf295
  v145:=Tryz.zeroValue295
  t167:=Tryz.underlying251
  a167:=Tryz.isAgg251
  z167:=Tryz.sizeOf251
  v167:=Tryz.zeroValue251
  t168:=Tryz.underlying255
  a168:=Tryz.isAgg255
  z168:=Tryz.sizeOf255
  v168:=Tryz.zeroValue255
  t171:=Tryz.underlying240
  a171:=Tryz.isAgg240
  z171:=Tryz.sizeOf240
  v171:=Tryz.zeroValue240
  t173:=Tryz.underlying243
  a173:=Tryz.isAgg243
  z173:=Tryz.sizeOf243
  v173:=Tryz.zeroValue243
  t175:=Tryz.underlying252
  a175:=Tryz.isAgg252
  z175:=Tryz.sizeOf252
  v175:=Tryz.zeroValue252
  t210:=Tryz.underlying279
  a210:=Tryz.isAgg279
  z210:=Tryz.sizeOf279
  v210:=Tryz.zeroValue279
  t212:=Tryz.underlying264
  a212:=Tryz.isAgg264
  z212:=Tryz.sizeOf264
  v212:=Tryz.zeroValue264
  t213:=Tryz.underlying266
  a213:=Tryz.isAgg266
  z213:=Tryz.sizeOf266
  t232:=Tryz.underlying296
  a232:=Tryz.isAgg296
  z232:=Tryz.sizeOf296
  v232:=Tryz.zeroValue296
  t233:=Tryz.underlying297
  a233:=Tryz.isAgg297
  z233:=Tryz.sizeOf297
  v233:=Tryz.zeroValue297
  g15:=by kernel_rfl
  g16:=by kernel_rfl
  g17:=by kernel_rfl
  g18:=by kernel_rfl
  g19:=by kernel_rfl
  t80:=Tryz.underlying210
  a80:=Tryz.isAgg210
  z80:=Tryz.sizeOf210
  v80:=Tryz.zeroValue210
  i0:=by kernel_rfl
  i2:=by kernel_rfl
  i3:=by kernel_rfl
  i4:=by kernel_rfl
  i5:=by kernel_rfl
  i9:=by kernel_rfl
  i20:=by kernel_rfl
  i21:=by kernel_rfl
  i37:=by kernel_rfl
  i46:=by kernel_rfl
  i51:=by kernel_rfl
  i53:=by kernel_rfl
  i75:=by kernel_rfl
  i80:=by kernel_rfl
  i85:=by kernel_rfl
  i127:=by kernel_rfl
  i143:=by kernel_rfl
  i145:=by kernel_rfl
  i167:=by kernel_rfl
  i168:=by kernel_rfl
  i171:=by kernel_rfl
  i173:=by kernel_rfl
  i175:=by kernel_rfl
  i210:=by kernel_rfl
  i212:=by kernel_rfl
  i232:=by kernel_rfl
  i233:=by kernel_rfl
  m15:=by kernel_rfl
  m16:=by kernel_rfl
  m17:=by kernel_rfl
  m18:=by kernel_rfl
  m19:=by kernel_rfl
  c0:=by kernel_rfl
  c2:=by kernel_rfl
  c3:=by kernel_rfl
  c4:=by kernel_rfl
  c5:=by kernel_rfl
  c9:=by kernel_rfl
  c20:=by kernel_rfl
  c21:=by kernel_rfl
  c37:=by kernel_rfl
  c46:=by kernel_rfl
  c51:=by kernel_rfl
  c53:=by kernel_rfl
  c75:=by kernel_rfl
  c80:=by kernel_rfl
  c85:=by kernel_rfl
  c127:=by kernel_rfl
  c143:=by kernel_rfl
  c145:=by kernel_rfl
  c167:=by kernel_rfl
  c168:=by kernel_rfl
  c171:=by kernel_rfl
  c173:=by kernel_rfl
  c175:=by kernel_rfl
  c210:=by kernel_rfl
  c212:=by kernel_rfl
  c213:=by kernel_rfl
  c232:=by kernel_rfl
  c233:=by kernel_rfl }
open Go.RowKit in
theorem Tryz.strings_Compare (a b:ByteArray) (w:World) :
    Calls Tryz.prog 121 #[.string a,.string b] w fun e w'=>e= .returned (.int .i64 (Lib.compareBytes a.data.toList b.data.toList))/\w'=w:=Any.strings_Compare Tryz.G6 a b w
open Go.RowKit in
theorem Tryz.strconv_FormatBool (b:Bool) (w:World) :
    Calls Tryz.prog 46 #[.bool b] w fun e w'=>e= .returned (.string ⟨(Lib.formatBool b).toArray⟩)/\w'=w:=Any.strconv_FormatBool Tryz.G5 b w
open Go.RowKit Go.Sort Go.Lib in
theorem Tryz.strconv_FormatInt_10 (n:Int) (h0 : -9223372036854775808<=n) (h1:n<=9223372036854775807) (w:World) (htab:Lib.TabIs Tryz.prog w "internal/strconv.uint64pow10" .u64 Lib.pow10Tab) :
    Calls Tryz.prog 45 #[.int .i64 n,.int .i64 10] w fun e w'=>e= .returned (.string ⟨(Lib.itoa n).toArray⟩)/\∃k os,w'=grow (w.drewN k) os:=Any.strconv_FormatInt_10 Tryz.Fq n h0 h1 w htab
open Go.RowKit in
theorem Tryz.strconv_ParseInt_10_at64_ok (s:ByteArray) (hmax:s.size<=9223372036854775806) (v:Int) (h:Lib.parseIntB 64 s.data.toList= .ok v) (w:World) :
    Calls Tryz.prog 69 #[.string s,.int .i64 10,.int .i64 64] w fun e w'=>e= .returned (.tuple #[.int .i64 v,.nilIface])/\(w'=w\/∃t,w'=Lib.bytesWorld w 5 t):=Any.strconv_ParseInt_10_at64_ok Tryz.tD s hmax v h w
open Go.RowKit in
theorem Tryz.strconv_ParseInt_10_at64_syntax_var (s:ByteArray) (hlim:s.size<=281474976710656) (h:Lib.parseIntB 64 s.data.toList= .syntax) (tp:TypeId) (p:Value) (w:World) (hvar:w.var? Tryz.prog "strconv.ErrSyntax" =some #[.iface tp p]) :
    Calls Tryz.prog 69 #[.string s,.int .i64 10,.int .i64 64] w fun e w'=>∃N,e= .returned (.tuple #[.int .i64 (0),.iface 255 (.pointer (some ⟨N,0,none⟩))])/\w.heap.size<=N/\w'.heap[N]? =some (.cells #[.string ⟨#[80,97,114,115,101,73,110,116]⟩,.string s,.iface tp p] 279 (0,0))/\Below w.heap.size w w':=Any.strconv_ParseInt_10_at64_syntax_var Tryz.tD s hlim h tp p w hvar
open Go.RowKit in
theorem Tryz.strconv_ParseInt_10_at64_range_var (s:ByteArray) (hlim:s.size<=281474976710656) (h:Lib.parseIntB 64 s.data.toList= .range) (tp:TypeId) (p:Value) (w:World) (hvar:w.var? Tryz.prog "strconv.ErrRange" =some #[.iface tp p]) :
    Calls Tryz.prog 69 #[.string s,.int .i64 10,.int .i64 64] w fun e w'=>∃N,e= .returned (.tuple #[.int .i64 (Lib.intSat 64 s.data.toList),.iface 255 (.pointer (some ⟨N,0,none⟩))])/\w.heap.size<=N/\w'.heap[N]? =some (.cells #[.string ⟨#[80,97,114,115,101,73,110,116]⟩,.string s,.iface tp p] 279 (0,0))/\Below w.heap.size w w':=Any.strconv_ParseInt_10_at64_range_var Tryz.tD s hlim h tp p w hvar
end Go.Proofs
namespace Go.Proofs.YtmehdcdbeafljaaGreatDoor
open Go.Proofs.Tryz
open Go Go.Lw
set_option maxRecDepth 20000
section
variable {h hb:aA}{rb B d m:Nat}{O:Nat->Prop}{ev nv:Value}{env:List Bd}{t:By}{l:List Tr}
theorem wT (a b:By):ah Tryz.prog 121 #[.string (bs a),.string (bs b)] h (cM fun r h'=>r= .int .i64 (Lib.compareBytes a b)/\h'=h) :=
 ah.rZ fun w=>Tryz.strings_Compare (bs a) (bs b) w
theorem yw (ih:JL hb rb B d) (I:oK hb rb B O h m ev env) (hm:m<=d) (hn:fq h O nv (.mk 5 t l)) (hc:Cl cN (.mk 5 t l)) (hw:(Tr.mk 5 t l).wt<=1000000) :
 ah Tryz.prog 78 #[.pointer (some ⟨rb,0,none⟩),ev,nv] h (cM fun r h'=>IU rb O h (yZ (bE d) m env t l) r h'):=by
 obtain⟨na,nn,nc,rfl,hR,hks⟩:=mg hn;have hkn:=hks.len;subst hkn;obtain⟨hl1,hl2⟩:=ux hc (by decide);have hl1:2<=l.length:=hl1;obtain⟨b0,o0,k0,t0,a0,n0,c0,ha0,hb0,hr0,hk0⟩:=gE hks (i:=0) (by omega);have hrl:=I.AS;refine ah.of func78 rfl rfl ?_;refine xr func78 rfl ?_;refine xo rfl (az.eR rfl) ?_;rintro _ h1 ⟨rfl,k5,e1,z1⟩;refine xo rfl (az.aQ H.gw) ?_;rintro _ h2 ⟨rfl,k6,e2,z2⟩;have e12:=e1.trans e2;have k5:bh h2 h.size 25 [.int .i64 5,.string (bs t),.slice na l.length nc]:=k5.ax e2;have m2:=cW O h h2;have I2:=I.vV m2 e12 (iH I.lt e12.size);have o1:=iL B d m env (l.getD 0 cP) I.mB I.ok (de hw 0);have hih:=ih I2 hm (hk0.mv (m2.qV e12)) (hc.wu 0) (de hw 0);unfold yZ;generalize bE d m env (l.getD 0 cP)=o at hih o1 ⊢;obtain⟨v,e,m'⟩:=o;obtain⟨hm',hvk,hlt⟩:=o1;dsimp only at hm' hvk hlt ⊢;refine aN 1 [0,1,2,5,6,7] rfl ?_;refine bl func78 2 rfl ?_;refine xp rfl (af (off:=2) underlying25 rfl rfl H.eX rfl) ?_;refine xp rfl (ai H.jm rfl (k5.cell (i:=2) rfl)) ?_;refine xp rfl (aj.aH underlying23 H.aY rfl rfl 0 rfl ha0 (by omega)) ?_;refine xp rfl (aj.aE H.bN H.aY rfl (e12.rowAt (fun k=>k) hr0) (by first|rfl|(simp;done)|(simp;omega))) ?_;refine xo rfl (aq (vs:=[_,_,_]) func36 rfl H.n7 rfl (ah.bq (hih))) ?_;rintro _ h3 ⟨v3,rfl,hv3,b3,e3⟩;dsimp only at hv3 b3;obtain⟨nk,nt,xa,xn,xc,ea,en,ec,rfl,hbd3,hR3,hen3⟩:=dz.get hv3;refine aV 3 rfl ?_;refine xo rfl (az.aQ H.gw) ?_;rintro _ h4 ⟨rfl,k8,e4,z4⟩;refine RW.bB rfl rfl rfl (az.au H.aW rfl rfl k8 (by first|rfl|(simp;done)|(simp;omega)) (by first|decide|exact of_decide_eq_true rfl|(simp;done)|(simp;omega)) (gm)) ?_;rintro _ h5 ⟨rfl,k85,x5,z5⟩;have k85:bh h5 h3.size 52 (kI v.kind v.num v.iu v.self nk nt xa xn xc ea en ec):=k85;have e35:aC h3 h5:=aC.only e4 x5 (Nat.le_refl _);have E25:Ext (fun b=>b=rb) h2 h5:=e3.trans (e35.mono fun _ _ q=>q.elim);have E05:Ext (fun b=>b=rb) h h5:=(e12.mono fun _ _ q=>q.elim).trans E25;have zz:=And.intro e3.size (And.intro e35.size e12.size);have m23:=cW (upTo O h h2) h3 h5;obtain⟨O3,hO3⟩:∃O3,O3=upTo (upTo O h h2) h3 h5:=⟨_,rfl⟩
 have l3:∀b,O3 b->b<h5.size:=fun b q=>by
  rw[hO3] at q
  rcases q with (q|q)|q
  · have:=I.lt b q;omega
  · omega
  · omega
 have m3:iP h O O3:=by
  rw[hO3]
  exact⟨fun b q=>.inl (.inl q),fun b q=>by
   rcases q with (q|q)|q
   · exact .inl q
   · exact .inr q.1
   · exact .inr (by omega)⟩
 have b5:=b3.ax e35;have hR5:=eV.mv hR3 (m23.qV e35);rw[<-hO3] at hR5;have hbd5:=eN.mv hbd3 (m23.qV e35);rw[<-hO3] at hbd5;have hen5:=hen3.mv (m23.qV e35);rw[<-hO3] at hen5;have o6:O3 h1.size:=by rw[hO3];exact .inl (.inr (by omega))
 have k55:=k5.ext E25 (by omega);have k65:=k6.ext E25 (by omega);have I5:oK hb rb B O3 h5 m' ev env:=I.next m3 hm' E05 b5 l3
 refine aN 1 [0,1,2,5,6,7,8,9] rfl ?_;refine av rfl ?_;refine bf func78 2 [0,1,2,5,6,7,8,9,24] rfl ?_;refine aM rfl rfl (fun he=>?_) (fun he=>?_)
 · rw[if_pos he];refine xr func78 rfl ?_;refine xp rfl (aG (H.eo ) rfl) ?_;refine aV 1 rfl ?_;refine RW.bB rfl rfl rfl (az.au H.aW rfl rfl k65 (by first|rfl|(simp;done)|(simp;omega)) (by first|decide|exact of_decide_eq_true rfl|(simp;done)|(simp;omega)) (by first|decide|simp[Value.oneCell'])) ?_;rintro _ h6 ⟨rfl,k66,x6,z6⟩;refine aN 1 [0,1,2,5,6,7,8,9,24] rfl ?_;refine G.br func78 rfl (.cons (aI.bp H.bR H.aW rfl (k66.row) (by first|rfl|(simp;done)|(simp;omega))) (.cons (aI.tmp rfl) (.nil))) ?_;exact⟨_,rfl,_,rfl,gI _ _,b5.ext x6 (by omega),E05.ct x6 (fun b hb q=>by omega)⟩
 · rw[if_neg he];refine aB rfl ?_;refine av rfl ?_;refine av rfl ?_;refine G.bw [(34,.bool (decide (t=oJ\/t=jI)))] [(0,_),(1,_),(2,_),(5,_),(6,_),(7,_),(8,_),(9,_),(24,_)] ⟨rfl,rfl,rfl,rfl,rfl,rfl,rfl,rfl,rfl,trivial⟩ func78 rfl ?_ ?_
   · refine xp rfl (af (off:=1) underlying25 rfl rfl H.eG rfl) ?_;refine xp rfl (ai H.fu rfl (k55.cell (i:=1) rfl)) ?_;refine xp rfl (aj.bS rfl rfl) ?_;refine aV 1 rfl ?_;refine aL (d:=30) rfl (fun p=>?_) (fun p=>?_)
     · have p:t=oJ:=bZ (of_decide_eq_true p);refine aV 4 rfl ?_;refine aD rfl ?_;exact⟨rfl,aF rfl (by rw[decide_eq_true (.inl p)]),rfl,rfl,rfl,rfl,rfl,rfl,rfl,rfl,rfl,trivial⟩
     · have p:¬t=oJ:=fun q=>of_decide_eq_false p (by rw[q];rfl)
       refine xp rfl (af (off:=1) underlying25 rfl rfl H.eG rfl) ?_;refine xp rfl (ai H.fu rfl (k55.cell (i:=1) rfl)) ?_;refine xp rfl (aj.bS rfl rfl) ?_;refine aV 1 rfl ?_;refine aD rfl ?_;exact⟨rfl,aF rfl (by rw[decide_eq_decide];exact⟨fun q=>.inr (bZ q),fun q=>by rw[q.resolve_left p];rfl⟩),rfl,rfl,rfl,rfl,rfl,rfl,rfl,rfl,rfl,trivial⟩
   · refine aJ rfl rfl (fun hoa=>?_) (fun hoa=>?_)
     · have hoa:=of_decide_eq_true hoa;rw[if_pos hoa];refine av rfl ?_;refine xr func78 rfl ?_;refine xp rfl (af (off:=0) underlying52 rfl rfl H.bV rfl) ?_;refine xp rfl (ai H.cK rfl (k85.cell (i:=0) rfl)) ?_;refine aN 1 [0,1,2,5,6,7,8,9,24,34,37] rfl ?_;refine aM rfl rfl (fun hk=>?_) (fun hk=>?_)
       · rw[if_pos hk];refine xr func78 rfl ?_;refine xp rfl (aG (H.eo ) rfl) ?_;refine RW.bB rfl rfl rfl (az.au H.aW rfl rfl k65 (by first|rfl|(simp;done)|(simp;omega)) (by first|decide|exact of_decide_eq_true rfl|(simp;done)|(simp;omega)) (by first|decide|simp[Value.oneCell'])) ?_;rintro _ h6 ⟨rfl,k66,x6,z6⟩;refine aN 1 [0,1,2,5,6,7,8,9,24,34,37] rfl ?_;refine G.br func78 rfl (.cons (aI.bp H.bR H.aW rfl (k66.row) (by first|rfl|(simp;done)|(simp;omega))) (.cons (aI.tmp rfl) (.nil))) ?_;exact⟨_,rfl,_,rfl,gI _ _,b5.ext x6 (by omega),E05.ct x6 (fun b hb q=>by omega)⟩
       · rw[if_neg hk];have hor:decide (bs t=⟨#[111,114]⟩)=decide (t=oJ):=by rw[decide_eq_decide];exact⟨fun q=>bZ q,fun q=>by rw[q];rfl⟩
         refine aB rfl ?_;refine av rfl ?_;refine xr func78 rfl ?_;refine xp rfl (af (off:=1) underlying52 rfl rfl H.Cb rfl) ?_;refine xp rfl (ai H.CL rfl (k85.cell (i:=1) rfl)) ?_;refine cI 1 rfl rfl (af (off:=1) underlying25 rfl rfl H.eG rfl) ?_;refine xp rfl (ai H.fu rfl (k55.cell (i:=1) rfl)) ?_;refine xp rfl (aj.bS rfl rfl) ?_;refine xp rfl (aj.xX underlying4 rfl rfl) ?_;refine xd [0,1,2,5,6,7,8,9,24,34,37,45] rfl ?_;refine aJ rfl rfl (fun hq=>?_) (fun hq=>?_)
         · have hq:decide (v.num≠0)=decide (t=oJ):=by rw[<-hor];simpa using hq
           rw[if_pos hq];refine xr func78 rfl ?_;refine xp rfl (aj.aE H.bR H.aW rfl k85.row (by first|rfl|(simp;done)|(simp;omega))) ?_;refine RW.bB rfl rfl rfl (az.au H.aW rfl rfl k65 (by first|rfl|(simp;done)|(simp;omega)) (by first|decide|exact of_decide_eq_true rfl|(simp;done)|(simp;omega)) (gm)) ?_;rintro _ h6 ⟨rfl,k66,x6,z6⟩;refine aN 1 [0,1,2,5,6,7,8,9,24,34,37,45] rfl ?_;refine G.br func78 rfl (.cons (aI.bp H.bR H.aW rfl (k66.row) (by first|rfl|(simp;done)|(simp;omega))) (.cons (aI.tmp rfl) (.nil))) ?_;exact⟨_,rfl,_,rfl,dz.of (eV.mv hR5 (cX m3.1 o6 x6)),b5.ext x6 (by omega),E05.ct x6 (fun b hb q=>by omega)⟩
         · have hq:¬decide (v.num≠0)=decide (t=oJ):=by rw[<-hor];simpa using hq
           rw[if_neg hq];obtain⟨b1,o1',k1,t1,a1,n1,c1,ha1,hb1,hr1,hk1⟩:=gE hks (i:=1) (by omega);have hb1r:b1≠rb:=fun q=>hb1.1 (q▸I.own)
           have hr1':=E05.rowAt hb1r hr1;have hk1':=hk1.mv (m3.mv I.own E05);have o2:=iL B d m' env (l.getD 1 cP) I5.mB I5.ok (de hw 1);have hih2:=ih I5 (by omega) hk1' (hc.wu 1) (de hw 1);generalize bE d m' env (l.getD 1 cP)=p at hih2 o2 ⊢;obtain⟨v2,e2',m2'⟩:=p;obtain⟨hm2,hvk2,hlt2⟩:=o2;dsimp only at hm2 hvk2 hlt2 ⊢;refine aB rfl ?_;refine bl func78 2 rfl ?_;refine xp rfl (af (off:=2) underlying25 rfl rfl H.eX rfl) ?_;refine xp rfl (ai H.jm rfl (k55.cell (i:=2) rfl)) ?_;refine xp rfl (aj.aH underlying23 H.aY rfl rfl 1 rfl ha1 (by omega)) ?_;refine xp rfl (aj.aE H.bN H.aY rfl hr1' (by first|rfl|(simp;done)|(simp;omega))) ?_;refine xo rfl (aq (vs:=[_,_,_]) func36 rfl H.n7 rfl (ah.bq (hih2))) ?_;rintro _ h6 ⟨v6,rfl,hv6,b6,e6⟩;dsimp only at hv6 b6;obtain⟨nk2,nt2,ya,yn,yc,fa,fm,fc,rfl,_,hR6,_⟩:=dz.get hv6;refine aV 3 rfl ?_;refine xo rfl (az.aQ H.gw) ?_;rintro _ h7 ⟨rfl,k10,e7,z7⟩;refine RW.bB rfl rfl rfl (az.au H.aW rfl rfl k10 (by first|rfl|(simp;done)|(simp;omega)) (by first|decide|exact of_decide_eq_true rfl|(simp;done)|(simp;omega)) (gm)) ?_;rintro _ h8 ⟨rfl,k10',x8,z8⟩;have k10':bh h8 h6.size 52 (kI v2.kind v2.num v2.iu v2.self nk2 nt2 ya yn yc fa fm fc):=k10';have e68:aC h6 h8:=aC.only e7 x8 (Nat.le_refl _);have E58:Ext (fun b=>b=rb) h5 h8:=e6.trans (e68.mono fun _ _ q=>q.elim);have E08:=E05.trans E58;have zw:=And.intro e6.size e68.size;obtain⟨O6,hO6⟩:∃O6,O6=upTo O3 h6 h8:=⟨_,rfl⟩
           have l6:∀b,O6 b->b<h8.size:=fun b q=>by
            rw[hO6] at q
            rcases q with q|q
            · have:=l3 b q;omega
            · omega
           have m56:iP h5 O3 O6:=by rw[hO6];exact⟨fun b q=>.inl q,fun b q=>q.imp id (fun q=>by omega)⟩
           have m6:iP h O O6:=⟨fun b q=>m56.1 b (m3.1 b q),fun b q=>(m56.2 b q).elim (m3.2 b) (fun q=>.inr (by omega))⟩
           have b8:=b6.ax e68;have hR8:=eV.mv hR6 ((cW O3 h6 h8).qV e68);rw[<-hO6] at hR8;have hr3:=m3.1 _ I.own;have hR58:=eV.mv hR5 (m56.mv hr3 E58);have o66:=m56.1 _ o6;have k58:=k55.ext E58 (by omega);have k68:=k65.ext E58 (by omega);have k88:=k85.ext E58 (by have:=I2.AS;omega);have I8:oK hb rb B O6 h8 m2' ev env:=I5.next m56 hm2 E58 b8 l6
           refine aN 1 [0,1,2,5,6,7,8,9,10,11,24,34,37,45] rfl ?_;refine av rfl ?_;refine av rfl ?_;refine G.bw [(63,.bool (decide (e2'=0/\v2.kind≠2)))] [(0,_),(1,_),(2,_),(5,_),(6,_),(7,_),(8,_),(9,_),(10,_),(11,_),(24,_),(34,_),(37,_),(45,_)] ⟨rfl,rfl,rfl,rfl,rfl,rfl,rfl,rfl,rfl,rfl,rfl,rfl,rfl,rfl,trivial⟩ func78 rfl ?_ ?_
           · refine aV 3 rfl ?_;refine aL (d:=59) rfl (fun p=>?_) (fun p=>?_)
             · have p:=of_decide_eq_true p;refine xp rfl (af (off:=0) underlying52 rfl rfl H.bV rfl) ?_;refine xp rfl (ai H.cK rfl (k10'.cell (i:=0) rfl)) ?_;refine aV 2 rfl ?_;refine aD rfl ?_;exact⟨rfl,aF rfl (by rw[decide_eq_decide];exact⟨fun q=>⟨p,q⟩,fun q=>q.2⟩),rfl,rfl,rfl,rfl,rfl,rfl,rfl,rfl,rfl,rfl,rfl,rfl,rfl,rfl,trivial⟩
             · have p:=of_decide_eq_false p;refine aV 4 rfl ?_;refine aD rfl ?_;exact⟨rfl,aF rfl (by rw[decide_eq_false (fun q=>p q.1)]),rfl,rfl,rfl,rfl,rfl,rfl,rfl,rfl,rfl,rfl,rfl,rfl,rfl,rfl,trivial⟩
           · refine aJ rfl rfl (fun hp=>?_) (fun hp=>?_)
             · have hp:=of_decide_eq_true hp;rw[if_pos hp];refine xr func78 rfl ?_;refine xp rfl (aG (H.eo ) rfl) ?_;refine RW.bB rfl rfl rfl (az.au H.aW rfl rfl k68 (by first|rfl|(simp;done)|(simp;omega)) (by first|decide|exact of_decide_eq_true rfl|(simp;done)|(simp;omega)) (by first|decide|simp[Value.oneCell'])) ?_;rintro _ h9 ⟨rfl,k66,x9,z9⟩;refine aN 1 [0,1,2,5,6,7,8,9,10,11,24,34,37,45,63] rfl ?_;refine G.br func78 rfl (.cons (aI.bp H.bR H.aW rfl (k66.row) (by first|rfl|(simp;done)|(simp;omega))) (.cons (aI.tmp rfl) (.nil))) ?_;exact⟨_,rfl,_,rfl,gI _ _,b8.ext x9 (by omega),E08.ct x9 (fun b hb q=>by omega)⟩
             · have hp:=of_decide_eq_false hp;rw[if_neg hp];refine aB rfl ?_;refine xr func78 rfl ?_;refine xp rfl (aj.aE H.bR H.aW rfl k10'.row (by first|rfl|(simp;done)|(simp;omega))) ?_;refine aV 1 rfl ?_;refine RW.bB rfl rfl rfl (az.au H.aW rfl rfl k68 (by first|rfl|(simp;done)|(simp;omega)) (by first|decide|exact of_decide_eq_true rfl|(simp;done)|(simp;omega)) (gm)) ?_;rintro _ h9 ⟨rfl,k66,x9,z9⟩;refine aN 1 [0,1,2,5,6,7,8,9,10,11,24,34,37,45,63] rfl ?_;refine G.br func78 rfl (.cons (aI.bp H.bR H.aW rfl (k66.row) (by first|rfl|(simp;done)|(simp;omega))) (.cons (aI.tmp rfl) (.nil))) ?_;exact⟨_,rfl,_,rfl,dz.of (eV.mv hR8 (cX m6.1 o66 x9)),(b8).ext x9 (by omega),(E08).ct x9 (fun b hb q=>by omega)⟩
     · have hoa:=of_decide_eq_false hoa;rw[if_neg hoa];obtain⟨b1,o1',k1,t1,a1,n1,c1,ha1,hb1,hr1,hk1⟩:=gE hks (i:=1) (by omega);have hb1r:b1≠rb:=fun q=>hb1.1 (q▸I.own)
       have hr1':=E05.rowAt hb1r hr1;have hk1':=hk1.mv (m3.mv I.own E05);have o2:=iL B d m' env (l.getD 1 cP) I5.mB I5.ok (de hw 1);have hih2:=ih I5 (by omega) hk1' (hc.wu 1) (de hw 1);generalize bE d m' env (l.getD 1 cP)=p at hih2 o2 ⊢;obtain⟨v2,e2',m2'⟩:=p;obtain⟨hm2,hvk2,hlt2⟩:=o2;dsimp only at hm2 hvk2 hlt2 ⊢;refine aB rfl ?_;refine bl func78 2 rfl ?_;refine xp rfl (af (off:=2) underlying25 rfl rfl H.eX rfl) ?_;refine xp rfl (ai H.jm rfl (k55.cell (i:=2) rfl)) ?_;refine xp rfl (aj.aH underlying23 H.aY rfl rfl 1 rfl ha1 (by omega)) ?_;refine xp rfl (aj.aE H.bN H.aY rfl hr1' (by first|rfl|(simp;done)|(simp;omega))) ?_;refine xo rfl (aq (vs:=[_,_,_]) func36 rfl H.n7 rfl (ah.bq (hih2))) ?_;rintro _ h6 ⟨v6,rfl,hv6,b6,e6⟩;dsimp only at hv6 b6;obtain⟨nk2,nt2,ya,yn,yc,fa,fm,fc,rfl,_,hR6,_⟩:=dz.get hv6;refine aV 3 rfl ?_;refine xo rfl (az.aQ H.gw) ?_;rintro _ h7 ⟨rfl,k10,e7,z7⟩;refine RW.bB rfl rfl rfl (az.au H.aW rfl rfl k10 (by first|rfl|(simp;done)|(simp;omega)) (by first|decide|exact of_decide_eq_true rfl|(simp;done)|(simp;omega)) (gm)) ?_;rintro _ h8 ⟨rfl,k10',x8,z8⟩;have k10':bh h8 h6.size 52 (kI v2.kind v2.num v2.iu v2.self nk2 nt2 ya yn yc fa fm fc):=k10';have e68:aC h6 h8:=aC.only e7 x8 (Nat.le_refl _);have E58:Ext (fun b=>b=rb) h5 h8:=e6.trans (e68.mono fun _ _ q=>q.elim);have E08:=E05.trans E58;have zw:=And.intro e6.size e68.size;obtain⟨O6,hO6⟩:∃O6,O6=upTo O3 h6 h8:=⟨_,rfl⟩
       have l6:∀b,O6 b->b<h8.size:=fun b q=>by
        rw[hO6] at q
        rcases q with q|q
        · have:=l3 b q;omega
        · omega
       have m56:iP h5 O3 O6:=by rw[hO6];exact⟨fun b q=>.inl q,fun b q=>q.imp id (fun q=>by omega)⟩
       have m6:iP h O O6:=⟨fun b q=>m56.1 b (m3.1 b q),fun b q=>(m56.2 b q).elim (m3.2 b) (fun q=>.inr (by omega))⟩
       have b8:=b6.ax e68;have hR8:=eV.mv hR6 ((cW O3 h6 h8).qV e68);rw[<-hO6] at hR8;have hr3:=m3.1 _ I.own;have hR58:=eV.mv hR5 (m56.mv hr3 E58);have o66:=m56.1 _ o6;have k58:=k55.ext E58 (by omega);have k68:=k65.ext E58 (by omega);have k88:=k85.ext E58 (by have:=I2.AS;omega);have I8:oK hb rb B O6 h8 m2' ev env:=I5.next m56 hm2 E58 b8 l6
       refine aN 1 [0,1,2,5,6,7,8,9,12,24,34] rfl ?_;refine av rfl ?_;refine G.block rfl rfl ?_;refine bf func78 3 [0,1,2,5,6,7,8,9,12,24,34,77] rfl ?_;refine aM rfl rfl (fun he2=>?_) (fun he2=>?_)
       · rw[if_pos he2];refine xr func78 rfl ?_;refine xp rfl (aG (H.eo ) rfl) ?_;refine aV 1 rfl ?_;refine RW.bB rfl rfl rfl (az.au H.aW rfl rfl k68 (by first|rfl|(simp;done)|(simp;omega)) (by first|decide|exact of_decide_eq_true rfl|(simp;done)|(simp;omega)) (by first|decide|simp[Value.oneCell'])) ?_;rintro _ h9 ⟨rfl,k66,x9,z9⟩;refine aN 1 [0,1,2,5,6,7,8,9,12,24,34,77] rfl ?_;refine G.br func78 rfl (.cons (aI.bp H.bR H.aW rfl (k66.row) (by first|rfl|(simp;done)|(simp;omega))) (.cons (aI.tmp rfl) (.nil))) ?_;exact⟨_,rfl,_,rfl,gI _ _,b8.ext x9 (by omega),E08.ct x9 (fun b hb q=>by omega)⟩
       · rw[if_neg he2];obtain⟨g1,_,_⟩:=hvk.get;obtain⟨g2,_,_⟩:=hvk2.get;have hs1:=bY v.iu;have hs2:=bY v2.iu;unfold uz;refine av rfl ?_;refine G.bw [(82,.bool (decide (v.kind≠v2.kind\/v.kind=4)))] [(0,_),(1,_),(2,_),(5,_),(6,_),(7,_),(8,_),(9,_),(12,_),(24,_),(34,_),(77,_)] ⟨rfl,rfl,rfl,rfl,rfl,rfl,rfl,rfl,rfl,rfl,rfl,rfl,trivial⟩ func78 rfl ?_ ?_
         · refine xp rfl (af (off:=0) underlying52 rfl rfl H.bV rfl) ?_;refine xp rfl (ai H.cK rfl (k88.cell (i:=0) rfl)) ?_;refine xp rfl (af (off:=0) underlying52 rfl rfl H.bV rfl) ?_;refine xp rfl (ai H.cK rfl (k10'.cell (i:=0) rfl)) ?_;refine aV 2 rfl ?_;refine aL (d:=88) rfl (fun p=>?_) (fun p=>?_)
           · have p:=of_decide_eq_true p;refine aV 5 rfl ?_;refine aD rfl ?_;exact⟨rfl,aF rfl (by rw[decide_eq_true (.inl p)]),rfl,rfl,rfl,rfl,rfl,rfl,rfl,rfl,rfl,rfl,rfl,rfl,trivial⟩
           · have p:=of_decide_eq_false p;refine xp rfl (af (off:=0) underlying52 rfl rfl H.bV rfl) ?_;refine xp rfl (ai H.cK rfl (k88.cell (i:=0) rfl)) ?_;refine aV 3 rfl ?_;refine aD rfl ?_;exact⟨rfl,aF rfl (by rw[decide_eq_decide];exact⟨.inr,fun q=>q.resolve_left p⟩),rfl,rfl,rfl,rfl,rfl,rfl,rfl,rfl,rfl,rfl,rfl,rfl,trivial⟩
         · refine aJ rfl rfl (fun hk=>?_) (fun hk=>?_)
           · have hk:=of_decide_eq_true hk;rw[if_pos hk];refine xr func78 rfl ?_;refine xp rfl (aG (H.eo ) rfl) ?_;refine RW.bB rfl rfl rfl (az.au H.aW rfl rfl k68 (by first|rfl|(simp;done)|(simp;omega)) (by first|decide|exact of_decide_eq_true rfl|(simp;done)|(simp;omega)) (by first|decide|simp[Value.oneCell'])) ?_;rintro _ h9 ⟨rfl,k66,x9,z9⟩;refine aN 1 [0,1,2,5,6,7,8,9,12,24,34,77,82] rfl ?_;refine G.br func78 rfl (.cons (aI.bp H.bR H.aW rfl (k66.row) (by first|rfl|(simp;done)|(simp;omega))) (.cons (aI.tmp rfl) (.nil))) ?_;exact⟨_,rfl,_,rfl,gI _ _,b8.ext x9 (by omega),E08.ct x9 (fun b hb q=>by omega)⟩
           · have hk:=of_decide_eq_false hk;rw[if_neg hk];refine xr func78 rfl ?_;refine xp rfl (af (off:=0) underlying52 rfl rfl H.bV rfl) ?_;refine xp rfl (ai H.cK rfl (k88.cell (i:=0) rfl)) ?_;refine aN 2 [0,1,2,5,6,7,8,9,12,24,34,77,82,94] rfl ?_;refine aM rfl rfl (fun h1k=>?_) (fun h1k=>?_)
             · rw[if_pos h1k];refine xr func78 rfl ?_;refine xp rfl (af (off:=1) underlying25 rfl rfl H.eG rfl) ?_;refine xp rfl (ai H.fu rfl (k58.cell (i:=1) rfl)) ?_;refine xp rfl (af (off:=1) underlying52 rfl rfl H.Cb rfl) ?_;refine xp rfl (ai H.CL rfl (k88.cell (i:=1) rfl)) ?_;refine xp rfl (af (off:=1) underlying52 rfl rfl H.Cb rfl) ?_;refine xp rfl (ai H.CL rfl (k10'.cell (i:=1) rfl)) ?_;refine xo rfl (aq (vs:=[_,_,_]) func119 rfl H.KV rfl (ah.bq (vk O6 t _ _))) ?_;rintro _ h9' ⟨vz,rfl,hvz,ez⟩;obtain⟨zk,zt,za,zn,zc,wa,wm,wc,rfl,_,hRz,_⟩:=dz.get hvz;have Ez:=E08.trans (ez.mono fun _ _ q=>q.elim);have zz9:=ez.size;refine aV 2 rfl ?_;refine RW.bB rfl rfl rfl (az.au H.aW rfl rfl (k68.ax ez) (by first|rfl|(simp;done)|(simp;omega)) (by first|decide|exact of_decide_eq_true rfl|(simp;done)|(simp;omega)) (gm)) ?_;rintro _ h9 ⟨rfl,k66,x9,z9⟩;refine aN 1 [0,1,2,5,6,7,8,9,12,24,34,77,82,94] rfl ?_;refine G.br func78 rfl (.cons (aI.bp H.bR H.aW rfl (k66.row) (by first|rfl|(simp;done)|(simp;omega))) (.cons (aI.tmp rfl) (.nil))) ?_;exact⟨_,rfl,_,rfl,dz.of (eV.mv hRz (cX m6.1 o66 x9)),((b8.ax ez)).ext x9 (by omega),(Ez).ct x9 (fun b hb q=>by omega)⟩
             · rw[if_neg h1k];refine av rfl ?_;refine G.bw [(107,.bool (decide (v.kind=3/\t=[43])))] [(0,_),(1,_),(2,_),(5,_),(6,_),(7,_),(8,_),(9,_),(12,_),(24,_),(34,_),(77,_),(82,_),(94,_)] ⟨rfl,rfl,rfl,rfl,rfl,rfl,rfl,rfl,rfl,rfl,rfl,rfl,rfl,rfl,trivial⟩ func78 rfl ?_ ?_
               · refine xp rfl (af (off:=0) underlying52 rfl rfl H.bV rfl) ?_;refine xp rfl (ai H.cK rfl (k88.cell (i:=0) rfl)) ?_;refine aV 2 rfl ?_;refine aL (d:=111) rfl (fun p=>?_) (fun p=>?_)
                 · have p:=of_decide_eq_true p;refine xp rfl (af (off:=1) underlying25 rfl rfl H.eG rfl) ?_;refine xp rfl (ai H.fu rfl (k58.cell (i:=1) rfl)) ?_;refine xp rfl (aj.bS rfl rfl) ?_;refine aV 2 rfl ?_;refine aD rfl ?_;exact⟨rfl,aF rfl (by rw[decide_eq_decide];exact⟨fun q=>⟨p,bZ q⟩,fun q=>by rw[q.2];rfl⟩),rfl,rfl,rfl,rfl,rfl,rfl,rfl,rfl,rfl,rfl,rfl,rfl,rfl,rfl,trivial⟩
                 · have p:=of_decide_eq_false p;refine aV 5 rfl ?_;refine aD rfl ?_;exact⟨rfl,aF rfl (by rw[decide_eq_false (fun q=>p q.1)]),rfl,rfl,rfl,rfl,rfl,rfl,rfl,rfl,rfl,rfl,rfl,rfl,rfl,rfl,trivial⟩
               · refine aJ rfl rfl (fun h3p=>?_) (fun h3p=>?_)
                 · have h3p:=of_decide_eq_true h3p;rw[if_pos h3p];refine av rfl ?_;refine xr func78 rfl ?_;refine xp rfl (af (off:=2) underlying52 rfl rfl H.eG rfl) ?_;refine xp rfl (ai H.fu rfl (k88.cell (i:=2) rfl)) ?_;refine xp rfl (aj.cw underlying9 rfl) ?_;refine xp rfl (af (off:=2) underlying52 rfl rfl H.eG rfl) ?_;refine xp rfl (ai H.fu rfl (k10'.cell (i:=2) rfl)) ?_;refine xp rfl (aj.cw underlying9 rfl) ?_;refine xp rfl (aj.bJ rfl rfl ⟨by omega,by omega⟩) ?_;refine aN 1 [0,1,2,5,6,7,8,9,12,24,34,77,82,94,107,123] rfl ?_;refine aM rfl rfl (fun hbig=>?_) (fun hbig=>?_)
                   · rw[if_pos (by omega)];refine xr func78 rfl ?_;refine xp rfl (aG (H.eo ) rfl) ?_;refine RW.bB rfl rfl rfl (az.au H.aW rfl rfl k68 (by first|rfl|(simp;done)|(simp;omega)) (by first|decide|exact of_decide_eq_true rfl|(simp;done)|(simp;omega)) (by first|decide|simp[Value.oneCell'])) ?_;rintro _ h9 ⟨rfl,k66,x9,z9⟩;refine aN 1 [0,1,2,5,6,7,8,9,12,24,34,77,82,94,107,123] rfl ?_;refine G.br func78 rfl (.cons (aI.bp H.bR H.aW rfl (k66.row) (by first|rfl|(simp;done)|(simp;omega))) (.cons (aI.tmp rfl) (.nil))) ?_;exact⟨_,rfl,_,rfl,gI _ _,b8.ext x9 (by omega),E08.ct x9 (fun b hb q=>by omega)⟩
                   · rw[if_neg (by omega)];refine aB rfl ?_;refine xr func78 rfl ?_;refine xp rfl (af (off:=2) underlying52 rfl rfl H.eG rfl) ?_;refine xp rfl (ai H.fu rfl (k88.cell (i:=2) rfl)) ?_;refine xp rfl (af (off:=2) underlying52 rfl rfl H.eG rfl) ?_;refine xp rfl (ai H.fu rfl (k10'.cell (i:=2) rfl)) ?_;refine xp rfl (aj.uM rfl rfl (by omega)) ?_;rw[kD];refine xp rfl (aG (H.AG _ _) rfl) ?_;refine RW.bB rfl rfl rfl (az.au H.aW rfl rfl k68 (by first|rfl|(simp;done)|(simp;omega)) (by first|decide|exact of_decide_eq_true rfl|(simp;done)|(simp;omega)) (gm)) ?_;rintro _ h9 ⟨rfl,k66,x9,z9⟩;refine aN 1 [0,1,2,5,6,7,8,9,12,24,34,77,82,94,107,123] rfl ?_;refine G.br func78 rfl (.cons (aI.bp H.bR H.aW rfl (k66.row) (by first|rfl|(simp;done)|(simp;omega))) (.cons (aI.tmp rfl) (.nil))) ?_;exact⟨_,rfl,_,rfl,HX _ _ _,b8.ext x9 (by omega),E08.ct x9 (fun b hb q=>by omega)⟩
                 · have h3p:=of_decide_eq_false h3p;rw[if_neg h3p];refine xr func78 rfl ?_;refine xp rfl (af (off:=0) underlying52 rfl rfl H.bV rfl) ?_;refine xp rfl (ai H.cK rfl (k88.cell (i:=0) rfl)) ?_;refine aN 2 [0,1,2,5,6,7,8,9,12,24,34,77,82,94,107,131] rfl ?_;refine aM rfl rfl (fun h3k=>?_) (fun h3k=>?_)
                   · rw[if_pos h3k];refine av rfl ?_;refine bQ (fun b=>Array.size h8<=b) (fun i=>Nat.blt i 10) (sz:=12) (listed:= #[false,false,false,false,false,false,false,false,false,false,false,false]) func78 H.mixed rfl rfl rfl ?_;refine bP 0 1 (by kernel_rfl) rfl (fun h' e=>af (off:=1) underlying25 rfl rfl H.eG rfl) ?_;refine bP 1 3 (by kernel_rfl) rfl (fun h' e=>ai H.fu rfl (e.cell (by have:=I2.AS;dsimp only;omega) (k58.cell (i:=1) rfl))) ?_;refine bP 2 7 (by kernel_rfl) rfl (fun h' e=>af (off:=2) underlying52 rfl rfl H.eG rfl) ?_;refine bP 3 15 (by kernel_rfl) rfl (fun h' e=>ai H.fu rfl (e.cell (by dsimp only;omega) (k88.cell (i:=2) rfl))) ?_;refine bP 4 31 (by kernel_rfl) rfl (fun h' e=>af (off:=2) underlying52 rfl rfl H.eG rfl) ?_;refine bP 5 63 (by kernel_rfl) rfl (fun h' e=>ai H.fu rfl (e.cell (by dsimp only;omega) (k10'.cell (i:=2) rfl))) ?_;refine dZ 6 127 (by kernel_rfl) rfl (aq (vs:=[_,_]) func121 rfl H.KU rfl (ah.bq (wT _ _))) ?_;rintro _ _ ⟨rfl,rfl⟩;refine⟨fun _=>Ext.refl _ _,?_⟩;refine dZ 7 255 (by kernel_rfl) rfl (aq (vs:=[_,_]) func120 rfl H.Is rfl (ah.bq (nP O6 t _))) ?_;rintro _ h9' ⟨vz,rfl,hvz,ez⟩;refine⟨fun _=>ez.of,?_⟩;obtain⟨zk,zt,za,zn,zc,wa,wm,wc,rfl,_,hRz,_⟩:=dz.get hvz;have Ez:=E08.trans (ez.mono fun _ _ q=>q.elim);have zz9:=ez.size;refine cu 8 511 (by kernel_rfl) rfl ?_;refine cu 9 1023 (by kernel_rfl) rfl ?_;refine jG 10 2047 (by kernel_rfl) rfl (az.au H.aW rfl rfl (k68.ax ez) (by first|rfl|(simp;done)|(simp;omega)) (by first|decide|exact of_decide_eq_true rfl|(simp;done)|(simp;omega)) (gm)) ?_;rintro _ h9 ⟨rfl,k66,x9,z9⟩;refine⟨fun hk=>(nomatch hk),?_⟩;refine cu 11 4095 (by kernel_rfl) rfl ?_;refine bu (by kernel_rfl) ?_;refine xu [0,1,2,5,6,7,8,9,12,24,34,77,82,94,107,131] rfl ?_;refine G.br func78 rfl (.cons (aI.bp H.bR H.aW rfl (k66.row) (by first|rfl|(simp;done)|(simp;omega))) (.cons (aI.tmp rfl) (.nil))) ?_;exact⟨_,rfl,_,rfl,dz.of (eV.mv hRz (cX m6.1 o66 x9)),((b8.ax ez)).ext x9 (by omega),(Ez).ct x9 (fun b hb q=>by omega)⟩
                   · rw[if_neg h3k];refine xr func78 rfl ?_;refine xp rfl (af (off:=1) underlying25 rfl rfl H.eG rfl) ?_;refine xp rfl (ai H.fu rfl (k58.cell (i:=1) rfl)) ?_;refine xp rfl (aj.bS rfl rfl) ?_;refine aN 1 [0,1,2,5,6,7,8,9,12,24,34,77,82,94,107,131,145] rfl ?_;refine aM rfl rfl (fun hee=>?_) (fun hee=>?_)
                     · have hee:t=[61,61]:=bZ hee;rw[if_pos hee];refine xr func78 rfl ?_;refine xp rfl (af (off:=1) underlying52 rfl rfl H.Cb rfl) ?_;refine xp rfl (ai H.CL rfl (k88.cell (i:=1) rfl)) ?_;refine xp rfl (af (off:=1) underlying52 rfl rfl H.Cb rfl) ?_;refine xp rfl (ai H.CL rfl (k10'.cell (i:=1) rfl)) ?_;refine aV 1 rfl ?_;refine xo rfl (aq (vs:=[_]) func70 rfl H.vp rfl (ah.bq (dG _))) ?_;rintro _ h9' ⟨rfl,ez⟩;refine RW.bB rfl rfl rfl (az.au H.aW rfl rfl (k68.ax ez) (by first|rfl|(simp;done)|(simp;omega)) (by first|decide|exact of_decide_eq_true rfl|(simp;done)|(simp;omega)) (gm)) ?_;rintro _ h9 ⟨rfl,k66,x9,z9⟩;refine aN 1 [0,1,2,5,6,7,8,9,12,24,34,77,82,94,107,131,145] rfl ?_;refine G.br func78 rfl (.cons (aI.bp H.bR H.aW rfl (k66.row) (by first|rfl|(simp;done)|(simp;omega))) (.cons (aI.tmp rfl) (.nil))) ?_;exact⟨_,rfl,_,rfl,nB _ _ _,(b8.ax ez).ext x9 (by omega),(E08.trans (ez.mono fun _ _ q=>q.elim)).ct x9 (fun b hb q=>by omega)⟩
                     · have hee:¬t=[61,61]:=fun q=>hee (by rw[q];rfl)
                       rw[if_neg hee];refine xr func78 rfl ?_;refine xp rfl (af (off:=1) underlying25 rfl rfl H.eG rfl) ?_;refine xp rfl (ai H.fu rfl (k58.cell (i:=1) rfl)) ?_;refine xp rfl (aj.bS rfl rfl) ?_;refine aN 1 [0,1,2,5,6,7,8,9,12,24,34,77,82,94,107,131,145,155] rfl ?_;refine aM rfl rfl (fun hne=>?_) (fun hne=>?_)
                       · have hne:t=[33,61]:=bZ hne;rw[if_pos hne];refine xr func78 rfl ?_;refine xp rfl (af (off:=1) underlying52 rfl rfl H.Cb rfl) ?_;refine xp rfl (ai H.CL rfl (k88.cell (i:=1) rfl)) ?_;refine xp rfl (af (off:=1) underlying52 rfl rfl H.Cb rfl) ?_;refine xp rfl (ai H.CL rfl (k10'.cell (i:=1) rfl)) ?_;refine aV 1 rfl ?_;refine xo rfl (aq (vs:=[_]) func70 rfl H.vp rfl (ah.bq (dG _))) ?_;rintro _ h9' ⟨rfl,ez⟩;refine RW.bB rfl rfl rfl (az.au H.aW rfl rfl (k68.ax ez) (by first|rfl|(simp;done)|(simp;omega)) (by first|decide|exact of_decide_eq_true rfl|(simp;done)|(simp;omega)) (gm)) ?_;rintro _ h9 ⟨rfl,k66,x9,z9⟩;refine aN 1 [0,1,2,5,6,7,8,9,12,24,34,77,82,94,107,131,145,155] rfl ?_;refine G.br func78 rfl (.cons (aI.bp H.bR H.aW rfl (k66.row) (by first|rfl|(simp;done)|(simp;omega))) (.cons (aI.tmp rfl) (.nil))) ?_;exact⟨_,rfl,_,rfl,nB _ _ _,(b8.ax ez).ext x9 (by omega),(E08.trans (ez.mono fun _ _ q=>q.elim)).ct x9 (fun b hb q=>by omega)⟩
                       · have hne:¬t=[33,61]:=fun q=>hne (by rw[q];rfl)
                         rw[if_neg hne];refine aB rfl ?_;refine G.aR ?_;refine xr func78 rfl ?_;refine xp rfl (aG (H.eo ) rfl) ?_;refine RW.bB rfl rfl rfl (az.au H.aW rfl rfl k68 (by first|rfl|(simp;done)|(simp;omega)) (by first|decide|exact of_decide_eq_true rfl|(simp;done)|(simp;omega)) (by first|decide|simp[Value.oneCell'])) ?_;rintro _ h9 ⟨rfl,k66,x9,z9⟩;refine aN 1 [0,1,2,5,6,7,8,9,12,24,34,77,82,94,107,131,145,155] rfl ?_;refine G.br func78 rfl (.cons (aI.bp H.bR H.aW rfl (k66.row) (by first|rfl|(simp;done)|(simp;omega))) (.cons (aI.tmp rfl) (.nil))) ?_;exact⟨_,rfl,_,rfl,gI _ _,b8.ext x9 (by omega),E08.ct x9 (fun b hb q=>by omega)⟩
theorem Jq {a:Option Addr}{n c:Nat}(hws:Sl eN h O a n c l){i:Nat}(hi:i<n) :
 ∃b o k t l' xa xc,a=some ⟨b,o,none⟩/\(¬O b/\b<h.size)/\l[i]? =some (.mk k t l')/\Lw.rowAt h b (o+i*3) (CU k t xa l'.length xc)/\fq h O (.agg #[.int .i64 k,.string (bs t),.slice xa l'.length xc]) (.mk k t l'):=by
 obtain⟨b,o,x,cs,ha,hob,hx,hrow,hR⟩:=Sl.nd hws hi;obtain⟨k,t,l'⟩:=x;obtain⟨v,rfl,hs⟩:=lf hR;obtain⟨xa,xn,xc,rfl,hk⟩:=hs.open;have:=hk.len;subst this;exact⟨b,o,k,t,l',xa,xc,ha,⟨hob,dW hrow (by simp)⟩,hx,hrow,fq.of hR⟩
structure NU (hb:aA) (rb B d m:Nat) (env:List Bd) (l:List Tr) (O:Nat->Prop) (h:aA) (i:Nat) (ev':Value) (env':List Bd) (m':Nat) (v:Vl) (O':Nat->Prop) (g:aA):Prop where
 inv:oK hb rb B O' g m' ev' env'
 more:iP h O O'
 here:O' h.size
 val:∃nk nt a n c ea en ec,bh g h.size 52 (kI v.kind v.num v.iu v.self nk nt a n c ea en ec)/\eV.R g O' (kI v.kind v.num v.iu v.self nk nt a n c ea en ec) v
 ext:Ext (fun b=>b=rb) h g
 le:i<=l.length
 ml:m'<=m
 vok:okV (B-2*m') v
 eq:jT (bE d) m env l iJ=jT (bE d) m' env' (l.drop i) v
theorem AF (ih:JL hb rb B d){kv:Value}(I:oK hb rb B O h m ev env) (hm:m<=d) (hk:bX eN h O kv l) (hl:∀x∈l,Cl cN x/\x.wt<=1000000) :
 ah Tryz.prog 73 #[.pointer (some ⟨rb,0,none⟩),ev,kv] h (cM fun r h'=>IU rb O h (jT (bE d) m env l iJ) r h'):=by
 obtain⟨ka,kn,kc,rfl,hks⟩:=hk.open;have hkn:=hks.len;subst hkn;have hkc:=hks.le;have hkm:=hks.cap;unfold maxLen at hkm;have hrl:=I.AS;refine ah.of func73 rfl rfl ?_;refine xr func73 rfl ?_;refine xo rfl (az.aQ H.gw) ?_;rintro _ h1 ⟨rfl,k6,e1,z1⟩;have k6:bh h1 h.size 52 (kI 0 0 [] [] 0 [] none 0 0 none 0 0):=k6;have m1:=cW O h h1;have I1:=I.vV m1 e1 (iH I.lt e1.size);refine aN 1 [0,1,2,6,7] rfl ?_;refine av rfl ?_;refine bl func73 1 rfl ?_;refine xp rfl (aj.aS underlying23 rfl) ?_;refine aN 1 [0,1,2,6,7,10,11,12] rfl ?_;refine G.block rfl rfl ?_;refine bO (σ:=Nat×Value×List Bd×Nat×Vl×(Nat->Prop)) (fun q=>[(0,.pointer (some ⟨rb,0,none⟩)),(1,q.2.1),(6,.pointer (some ⟨h.size,0,none⟩)),(10,.slice ka l.length kc),(11,.int .i64 (l.length:Nat)),(12,.int .i64 (q.1:Nat))]) (fun q h'=>NU hb rb B d m env l O h q.1 q.2.1 q.2.2.1 q.2.2.2.1 q.2.2.2.2.1 q.2.2.2.2.2 h') (fun q=>l.length-q.1) ((0,ev,env,m,iJ,upTo O h h1)) rfl ⟨rfl,rfl,rfl,rfl,rfl,rfl,trivial⟩ ⟨I1,m1,.inr (by omega),⟨_,_,_,_,_,_,_,_,k6,xU _ _ 0 0 [] []⟩,e1.mono fun _ _ q=>q.elim,Nat.zero_le _,Nat.le_refl _,dB _,rfl⟩ ?_;rintro⟨i,ev',env',m',v,O'⟩ g ⟨I',mo,o6,⟨nk,nt,xa,xn,xc,ea,en,ec,k6g,hRg⟩,E0g,hi,hml,hvok,heq⟩ ih2
 try dsimp only
 dsimp only at I' mo o6 k6g hRg hi hml hvok heq;have hzg:=E0g.size;refine bf func73 1 [0,1,6,10,11,12,13] rfl ?_;refine av rfl ?_;refine aM rfl rfl (fun hlt=>?_) (fun hlt=>?_)
 · obtain⟨b1,o1,k,t,l',na,nc,ha1,hb1,hx,hr1,hk1⟩:=Jq hks (i:=i) (by omega);obtain⟨hcl,hwt⟩:=hl _ (List.mem_of_getElem? hx);have hb1r:b1≠rb:=fun q=>hb1.1 (q▸I.own)
   have hr1':=E0g.rowAt hb1r hr1
   have hdr:l.drop i= .mk k t l'::l.drop (i+1):=by
    obtain⟨hil,hxe⟩:=List.getElem?_eq_some_iff.1 hx;rw[List.drop_eq_getElem_cons hil,hxe]
   have heq2:=heq;rw[hdr,jT] at heq2;refine aB rfl ?_;refine av rfl ?_;refine G.block rfl rfl ?_;refine xr func73 rfl ?_;refine xp rfl (aj.aH underlying23 H.aY rfl rfl i rfl ha1 (by omega)) ?_;refine xp rfl (aj.aE H.bN H.aY rfl hr1' (by first|rfl|(simp;done)|(simp;omega))) ?_;refine xo rfl (az.aQ H.fL) ?_;rintro _ g1 ⟨rfl,k9,e1',z1'⟩;refine RW.bB rfl rfl rfl (az.au H.aY rfl rfl k9 (by first|rfl|(simp;done)|(simp;omega)) (by first|decide|exact of_decide_eq_true rfl|(simp;done)|(simp;omega)) (kr)) ?_;rintro _ g2 ⟨rfl,k92,x2,z2⟩;have k92:bh g2 g.size 25 [.int .i64 k,.string (bs t),.slice na l'.length nc]:=k92;have e2:aC g g2:=aC.only e1' x2 (Nat.le_refl _);have m2:=cW O' g g2;have I2:=I'.vV m2 e2 (iH I'.lt e2.size);have m4:iP h O (upTo O' g g2):=⟨fun b q=>m2.1 b (mo.1 b q),fun b q=>(m2.2 b q).elim (mo.2 b) (fun q=>.inr (by omega))⟩
   have hk2:=hk1.mv (iP.mv m4 I.own (E0g.trans (e2.mono fun _ _ q=>q.elim)));have oo:=iL B d m' env' (.mk k t l') I'.mB I'.ok hwt;have hih:=ih I2 (by omega) hk2 hcl hwt;generalize bE d m' env' (.mk k t l')=o at hih oo heq2;obtain⟨w,e,m2'⟩:=o;obtain⟨hm2,hvk,hlt2⟩:=oo;dsimp only at hm2 hvk hlt2 heq2;have hgl:=I'.lt _ o6;have hgr:=I'.AS;refine xd [0,1,6,9,10,11,12,13] rfl ?_;refine av rfl ?_;refine bl func73 2 rfl ?_;refine xp rfl (aj.aE H.bN H.aY rfl k92.row (by first|rfl|(simp;done)|(simp;omega))) ?_;refine xo rfl (aq (vs:=[_,_,_]) func36 rfl H.n7 rfl (ah.bq (hih))) ?_;rintro _ g3 ⟨v3,rfl,hv3,b3,e3⟩;dsimp only at hv3 b3;obtain⟨nk3,nt3,ya,yn,yc,fa,fm,fc,rfl,_,hR3,_⟩:=dz.get hv3;have E23:Ext (fun b=>b=rb) g g3:=(e2.mono fun _ _ q=>q.elim).trans e3;have z23:=And.intro E23.size e3.size;have ze2:=e2.size;refine aV 3 rfl ?_;refine RW.bB rfl rfl rfl (az.au H.aW rfl rfl (k6g.ext E23 (by omega)) (by first|rfl|(simp;done)|(simp;omega)) (by first|decide|exact of_decide_eq_true rfl|(simp;done)|(simp;omega)) (gm)) ?_;rintro _ g4 ⟨rfl,k64,x4,z4⟩;have k64:bh g4 h.size 52 (kI w.kind w.num w.iu w.self nk3 nt3 ya yn yc fa fm fc):=k64;have o62:upTo O' g g2 h.size:=.inl o6;have hR4:=eV.mv hR3 (cX (fun _ q=>q) o62 x4);have b4:=b3.ext x4 (by omega);have E04:Ext (fun b=>b=rb) h g4:=(E0g.trans E23).ct x4 (fun b hb q=>by omega);have z04:=x4.size;have k94:=(k92.ext e3 (by omega)).ext x4 (by omega);refine aN 1 [0,1,6,7,9,10,11,12,13] rfl ?_;refine bf func73 2 [0,1,6,7,9,10,11,12,13,24] rfl ?_;refine aM rfl rfl (fun he=>?_) (fun he=>?_)
   · rw[if_pos he] at heq2;rw[heq2];refine xr func73 rfl ?_;refine xp rfl (aG (H.eo ) rfl) ?_;refine aV 1 rfl ?_;refine RW.bB rfl rfl rfl (az.au H.aW rfl rfl k64 (by first|rfl|(simp;done)|(simp;omega)) (by first|decide|exact of_decide_eq_true rfl|(simp;done)|(simp;omega)) (by first|decide|simp[Value.oneCell'])) ?_;rintro _ g5 ⟨rfl,k65,x5,z5⟩;refine aN 1 [0,1,6,7,9,10,11,12,13,24] rfl ?_;refine G.br func73 rfl (.cons (aI.bp H.bR H.aW rfl (k65.row) (by first|rfl|(simp;done)|(simp;omega))) (.cons (aI.tmp rfl) (.nil))) ?_;exact⟨_,rfl,_,rfl,gI _ _,b4.ext x5 (by omega),E04.ct x5 (fun b hb q=>by omega)⟩
   · rw[if_neg he] at heq2;have he:=Classical.not_not.1 he;have hlt2:=hlt2 he
     have I4:oK hb rb B (upTo O' g g2) g4 m2' ev' env':=⟨⟨by have:=I.ext.size;omega,fun b hb _=>(E04.block b (by have:=I.ext.size;omega) (by have:=I.hrb;omega)).trans (I.ext.block b hb (fun k=>k))⟩,b4,fun b q=>by (have:=iH I'.lt e2.size b q);omega,.inl I'.own,
      (I2.en.mv (Mv.cY e3 fun b _ hn=>⟨fun q=>hn (q▸ .inl I'.own),hn⟩)).mv (cX (fun _ q=>q) o62 x4),ie I'.ok hm2,by have:=I'.mB;omega,by have:=I'.mL;omega,I.hB,I.hrb⟩
     refine aB rfl ?_;refine av rfl ?_;refine G.bw [(35,.bool (decide (k=7/\l'.length=1)))] [(0,_),(1,_),(6,_),(7,_),(9,_),(10,_),(11,_),(12,_),(13,_),(24,_)] ⟨rfl,rfl,rfl,rfl,rfl,rfl,rfl,rfl,rfl,rfl,trivial⟩ func73 rfl ?_ ?_
     · refine xp rfl (af (off:=0) underlying25 rfl rfl H.bV rfl) ?_;refine xp rfl (ai H.cK rfl (k94.cell (i:=0) rfl)) ?_;refine aV 2 rfl ?_;refine aL (d:=30) rfl (fun p=>?_) (fun p=>?_)
       · have p:=of_decide_eq_true p;refine xp rfl (af (off:=2) underlying25 rfl rfl H.eX rfl) ?_;refine xp rfl (ai H.jm rfl (k94.cell (i:=2) rfl)) ?_;refine xp rfl (aj.aS underlying23 rfl) ?_;refine aV 2 rfl ?_;refine aD rfl ?_;exact⟨rfl,aF rfl (by rw[decide_eq_decide];exact⟨fun q=>⟨p,by omega⟩,fun q=>by omega⟩),rfl,rfl,rfl,rfl,rfl,rfl,rfl,rfl,rfl,rfl,trivial⟩
       · have p:=of_decide_eq_false p;refine aV 5 rfl ?_;refine aD rfl ?_;exact⟨rfl,aF rfl (by rw[decide_eq_false (fun q=>p q.1)]),rfl,rfl,rfl,rfl,rfl,rfl,rfl,rfl,rfl,rfl,trivial⟩
     · refine aJ rfl rfl (fun hc=>?_) (fun hc=>?_)
       · have hc:=of_decide_eq_true hc;have hc':(Tr.mk k t l').kind=7/\(Tr.mk k t l').kids.length=1:=hc;rw[if_pos hc'] at heq2;refine xr func73 rfl ?_;refine xp rfl (aj.aE H.bR H.aW rfl k64.row (by first|rfl|(simp;done)|(simp;omega))) ?_;refine xp rfl (af (off:=1) underlying25 rfl rfl H.eG rfl) ?_;refine xp rfl (ai H.fu rfl (k94.cell (i:=1) rfl)) ?_;refine xo rfl (aq (vs:=[_,_]) func117 rfl H.Iu rfl (ah.bq (vR (dz.of hR4) t))) ?_;rintro _ g5 ⟨hv5,e5⟩;obtain⟨nk5,nt5,ua,un,uc,wa,wm,wc,rfl,_,hR5,_⟩:=dz.get hv5;refine RW.bB rfl rfl rfl (az.au H.aW rfl rfl (k64.ax e5) (by first|rfl|(simp;done)|(simp;omega)) (by first|decide|exact of_decide_eq_true rfl|(simp;done)|(simp;omega)) (gm)) ?_;rintro _ g6 ⟨rfl,k66,x6,z6⟩;have k66:bh g6 h.size 52 (kI (lZ w t).kind (lZ w t).num (lZ w t).iu (lZ w t).self nk5 nt5 ua un uc wa wm wc):=k66;have hR6:=eV.mv hR5 (cX (fun _ q=>q) o62 x6);have k96:=(k94.ax e5).ext x6 (by omega);have z56:=And.intro e5.size x6.size;have hen6:=(I4.en.mv (Mv.ax e5)).mv (cX (fun _ q=>q) o62 x6);have hel:env'.length<=1000000:=by have:=I4.ok.1;have:=I.hB;omega
         refine xd [0,1,6,7,9,10,11,12,13,24,35] rfl ?_;refine G.cz func73 rfl ?_;refine cI 1 rfl rfl (af (off:=1) underlying25 rfl rfl H.eG rfl) ?_;refine xp rfl (ai H.fu rfl (k96.cell (i:=1) rfl)) ?_;refine xp rfl (aj.aE H.bR H.aW rfl k66.row (by first|rfl|(simp;done)|(simp;omega))) ?_;refine xo rfl (aq (vs:=[_,_,_]) func118 rfl H.zT rfl (ah.bq (iR hen6 hel t (dz.of hR6)))) ?_;rintro r7 g7 ⟨ho7,e7⟩;have E47:Ext (fun b=>b=h.size) g4 g7:=((e5.mono fun _ _ q=>q.elim).trans x6).trans (e7.mono fun _ _ q=>q.elim);have E07:Ext (fun b=>b=rb) h g7:=E04.ct E47 (fun b hb q=>by omega);have z7:=e7.size;have hlu:=iH I'.lt e2.size;refine aN 1 [0,1,6,7,9,10,11,12,13,24,35] rfl ?_;refine G.aR ?_;refine G.cz func73 rfl ?_;refine xp rfl (aj.bJ rfl rfl ⟨by omega,by omega⟩) ?_;refine aN 1 [0,1,6,7,9,10,11,12,13,24,35] rfl ?_;have zI:=I.ext.size;have I7:oK hb rb B (upTo O' g g2) g7 m2' r7 (env'++[(t,lZ w t)]):=⟨⟨by omega,fun b hb _=>(E07.block b (by omega) (by have:=I.hrb;omega)).trans (I.ext.block b hb (fun k=>k))⟩,b4.ext E47 (by omega),fun b q=>by (have:=hlu b q);omega,.inl I'.own,ho7.read (fun b hb q=>by (have:=hlu b q);omega) (fun _ _ q=>q),kq I'.ok hlt2 I'.mB (mW hvk t) t,by have:=I'.mB;omega,by have:=I'.mL;omega,I.hB,I.hrb⟩
         exact ih2 (i+1,r7,env'++[(t,lZ w t)],m2',lZ w t,upTo O' g g2) _ _ ⟨rfl,rfl,rfl,rfl,rfl,rfl,trivial⟩ ⟨I7,m4,o62,⟨_,_,_,_,_,_,_,_,k66.ax e7,eV.mv hR6 (Mv.ax e7)⟩,E07,by show i+1<=_;omega,by dsimp only;omega,mW hvk t,heq2⟩ (by show l.length-(i+1)<l.length-i;omega)
       · have hc:=of_decide_eq_false hc;have hc':¬((Tr.mk k t l').kind=7/\(Tr.mk k t l').kids.length=1):=hc;rw[if_neg hc'] at heq2;refine aB rfl ?_;refine G.aR ?_;refine G.cz func73 rfl ?_;refine xp rfl (aj.bJ rfl rfl ⟨by omega,by omega⟩) ?_;refine aN 1 [0,1,6,7,9,10,11,12,13,24,35] rfl ?_;exact ih2 (i+1,ev',env',m2',w,upTo O' g g2) _ _ ⟨rfl,rfl,rfl,rfl,rfl,rfl,trivial⟩ ⟨I4,m4,o62,⟨_,_,_,_,_,_,_,_,k64,hR4⟩,E04,by show i+1<=_;omega,by dsimp only;omega,hvk,heq2⟩ (by show l.length-(i+1)<l.length-i;omega)
 · obtain rfl:i=l.length:=by omega
   rw[heq,List.drop_of_length_le (Nat.le_refl _),jT];have hgl:=I'.lt _ o6;have hgr:=I'.AS;have hor:rb≠h.size:=by omega
   refine bD rfl rfl ?_;refine xr func73 rfl ?_;refine xp rfl (aj.aE H.bR H.aW rfl k6g.row (by first|rfl|(simp;done)|(simp;omega))) ?_;refine RW.bB rfl rfl rfl (az.au H.aW rfl rfl k6g (by first|rfl|(simp;done)|(simp;omega)) (by first|decide|exact of_decide_eq_true rfl|(simp;done)|(simp;omega)) (gm)) ?_;rintro _ g5 ⟨rfl,k65,x5,z5⟩;refine aN 1 [0,1,6,7,10,11,12,13] rfl ?_;refine G.br func73 rfl (.cons (aI.bp H.bR H.aW rfl (k65.row) (by first|rfl|(simp;done)|(simp;omega))) (.cons (aI.tmp rfl) (.nil))) ?_;exact⟨_,rfl,_,rfl,dz.of (eV.mv hRg (cX mo.1 o6 x5)),I'.blk.ext x5 hor,E0g.ct x5 (fun b hb q=>by omega)⟩
def AR (h:aA) (g:Nat):Prop:=∃t f tp p,h[g]? =some (.cells #[.iface tp p] t f)
theorem AR.ax {h':aA}{g:Nat}(k:AR h g) (e:aC h h'):AR h' g:=by
 obtain⟨t,f,tp,p,hk⟩:=k;exact⟨t,f,tp,p,(e.block g (Array.getElem?_eq_some_iff.1 hk).1 (fun k=>k)).trans hk⟩
theorem AR.var {w:World}{g:Nat}(k:AR w.heap g){n:String}(hg:Tryz.prog.globalNamed n=some g):∃tp p,w.var? Tryz.prog n=some #[.iface tp p]:=by
 obtain⟨t,f,tp,p,hk⟩:=k;exact⟨tp,p,by simp[World.var?,hg,hk]⟩
structure Eb (h:aA):Prop where
 ex:GA h
 syn:AR h 7
 rng:AR h 8
theorem Eb.ax {h h':aA}(k:Eb h) (e:aC h h'):Eb h':=⟨k.ex.ax e,k.syn.ax e,k.rng.ax e⟩
theorem vi (hg:Eb h) (s:By) (hs:s.length<=1000000):ah Tryz.prog 69 #[.string (bs s),.int .i64 10,.int .i64 64] h (cM fun r h' =>
 (∃n e,r=packed [.int .i64 n,e]/\((Lib.parseIntB 64 s= .ok n/\e= .nilIface)\/((∀v,Lib.parseIntB 64 s≠ .ok v)/\∃tp p,e= .iface tp p)))/\aC h h'):=by
 have hz:=bY s;refine ah.oZ fun w hw=>?_
 subst hw;have hd:(bs s).data.toList=s:=jF s
 match ha:Lib.parseIntB 64 s with
 |.ok v =>
  refine(Tryz.strconv_ParseInt_10_at64_ok (bs s) (by omega) v (by rw[hd];exact ha) w).mono ?_;rintro e w' ⟨rfl,rfl|⟨t,rfl⟩⟩
  · exact⟨_,rfl,⟨⟨_,_,rfl,.inl ⟨rfl,rfl⟩⟩,Ext.refl _ _⟩,rfl,rfl,rfl⟩
  · have hb:=Lib.bytesWorld_below w 5 t;exact⟨_,rfl,⟨⟨_,_,rfl,.inl ⟨rfl,rfl⟩⟩,oI hb⟩,hb.os,hb.tape,hb.output⟩
 |.syntax =>
  obtain⟨tp,p,hv⟩:=hg.syn.var (n:= "strconv.ErrSyntax") (by kernel_rfl);refine(Tryz.strconv_ParseInt_10_at64_syntax_var (bs s) (by omega) (by rw[hd];exact ha) tp p w hv).mono ?_;rintro e w' ⟨N,rfl,_,_,hb⟩;exact⟨_,rfl,⟨⟨_,_,rfl,.inr ⟨(fun v hv=>by cases hv),_,_,rfl⟩⟩,oI hb⟩,hb.os,hb.tape,hb.output⟩
 |.range =>
  obtain⟨tp,p,hv⟩:=hg.rng.var (n:= "strconv.ErrRange") (by kernel_rfl);refine(Tryz.strconv_ParseInt_10_at64_range_var (bs s) (by omega) (by rw[hd];exact ha) tp p w hv).mono ?_;rintro e w' ⟨N,rfl,_,_,hb⟩;exact⟨_,rfl,⟨⟨_,_,rfl,.inr ⟨(fun v hv=>by cases hv),_,_,rfl⟩⟩,oI hb⟩,hb.os,hb.tape,hb.output⟩
theorem DM (d:Nat) (env:List Bd) (n:Tr):bE d 0 env n=(iJ,60,0):=by
 cases d with
 |zero=>rfl
 |succ d=>cases n;rfl
theorem wB {n:Tr}(I:oK hb rb B O h 0 ev env) (hn:fq h O nv n) :
 ah Tryz.prog 36 #[.pointer (some ⟨rb,0,none⟩),ev,nv] h (cM fun r h'=>IU rb O h (bE d 0 env n) r h'):=by
 rw[DM];obtain⟨k,t,l⟩:=n;obtain⟨na,nn,nc,rfl,hR,hks⟩:=mg hn;have hrl:=I.AS;refine ah.of func36 rfl rfl ?_;refine xr func36 rfl ?_;refine xo rfl (az.eR rfl) ?_;rintro _ h1 ⟨rfl,k5,e1,z1⟩;refine xo rfl (az.aQ H.gw) ?_;rintro _ h2 ⟨rfl,k6,e2,z2⟩;have e12:=e1.trans e2;have b2:=I.blk.ax e12;refine aN 1 [0,1,2,5,6,7] rfl ?_;refine av rfl ?_;refine bl func36 2 rfl ?_;refine xp rfl (af (off:=0) underlying99 rfl rfl H.bV rfl) ?_;refine xp rfl (ai H.cK rfl (b2.cell (i:=0) rfl)) ?_;refine aN 1 [0,1,2,5,6,7,16] rfl ?_;refine aM rfl rfl (fun hs=>?_) (fun hs=>?_)
 · refine xr func36 rfl ?_;refine xp rfl (aG (H.eo ) rfl) ?_;refine RW.bB rfl rfl rfl (az.au H.aW rfl rfl k6 (by first|rfl|(simp;done)|(simp;omega)) (by first|decide|exact of_decide_eq_true rfl|(simp;done)|(simp;omega)) (by first|decide|simp[Value.oneCell'])) ?_;rintro _ h3 ⟨rfl,k63,x3,z3⟩;refine aN 1 [0,1,2,5,6,7,16] rfl ?_;refine G.br func36 rfl (.cons (aI.bp H.bR H.aW rfl (k63.row) (by first|rfl|(simp;done)|(simp;omega))) (.cons (aI.tmp rfl) (.nil))) ?_;exact⟨_,rfl,_,rfl,gI _ _,b2.ext x3 (by omega),(e12.mono fun _ _ q=>q.elim).ct x3 (fun b hb q=>by omega)⟩
 · exact absurd rfl hs
theorem FR (h:∀v,Lib.parseIntB 64 t≠ .ok v):bE (d+1) (m+1) env (.mk 0 t l)=(iJ,2,m):=by
 rw[bE,if_pos rfl];cases hq:Lib.parseIntB 64 t with
 |ok v=>exact absurd hq (h v)
 | «syntax» =>rfl
 |range=>rfl
theorem Hj {v:Int}(h:Lib.parseIntB 64 t= .ok v):bE (d+1) (m+1) env (.mk 0 t l)=(dP v,0,m):=by
 rw[bE,if_pos rfl,h]
theorem DN (hg:Eb hb) (ih:JL hb rb B d){k:Int}(I:oK hb rb B O h (m+1) ev env) (hm:m<=d) (hn:fq h O nv (.mk k t l)) (hc:Cl cN (.mk k t l)) (hw:(Tr.mk k t l).wt<=1000000) :
 ah Tryz.prog 36 #[.pointer (some ⟨rb,0,none⟩),ev,nv] h (cM fun r h'=>IU rb O h (bE (d+1) (m+1) env (.mk k t l)) r h'):=by
 obtain⟨na,nn,nc,rfl,hR,hks⟩:=mg hn;have hkn:=hks.len;subst hkn;have hrl:=I.AS;have hmL:=I.mL;have htl:t.length<=1000000:=by rw[Tr.wt] at hw;omega
 have hbt:=bY t;have hel:env.length<=1000000:=by have:=I.ok.1;have:=I.hB;omega
 refine ah.of func36 rfl rfl ?_;refine xr func36 rfl ?_;refine xo rfl (az.eR rfl) ?_;rintro _ h1 ⟨rfl,k5,e1,z1⟩;refine xo rfl (az.aQ H.gw) ?_;rintro _ h2 ⟨rfl,k6,e2,z2⟩;have e12:=e1.trans e2;have b2:=I.blk.ax e12;have k5:bh h2 h.size 25 [.int .i64 k,.string (bs t),.slice na l.length nc]:=k5.ax e2;refine aN 1 [0,1,2,5,6,7] rfl ?_;refine av rfl ?_;refine bl func36 2 rfl ?_;refine xp rfl (af (off:=0) underlying99 rfl rfl H.bV rfl) ?_;refine xp rfl (ai H.cK rfl (b2.cell (i:=0) rfl)) ?_;refine aN 1 [0,1,2,5,6,7,16] rfl ?_;refine aM rfl rfl (fun hs=>?_) (fun hs=>?_)
 · exact absurd hs (by omega)
 · refine aB rfl ?_;refine bl func36 2 rfl ?_;refine xp rfl (af (off:=0) underlying99 rfl rfl H.bV rfl) ?_;refine xp rfl (ai H.cK rfl (b2.cell (i:=0) rfl)) ?_;refine xp rfl (aj.bJ rfl rfl ⟨by omega,by omega⟩) ?_;refine cI 1 rfl rfl (af (off:=0) underlying99 rfl rfl H.bV rfl) ?_;refine RW.bB rfl rfl rfl (az.bA H.bV rfl rfl b2 (by first|decide|exact of_decide_eq_true rfl|(simp;done)|(simp;omega)) rfl) ?_;rintro _ h3 ⟨rfl,b3,x3,z3⟩
   have b3:bh h3 rb 99 [.int .i64 (2000-(m:Int))]:=by
    rw[show (2000-(m:Int))=2000-((m+1:Nat):Int)+1 by omega];exact b3
   have E03:Ext (fun b=>b=rb) h h3:=(e12.mono fun _ _ q=>q.elim).trans x3;have zz:=And.intro e12.size x3.size;have m3:=cW O h h2;obtain⟨O3,hO3⟩:∃O3,O3=upTo O h h2:=⟨_,rfl⟩
   rw[<-hO3] at m3
   have l3:∀b,O3 b->b<h3.size:=fun b q=>by
    rw[hO3] at q
    rcases q with q|q
    · have:=I.lt b q;omega
    · omega
   have o6:O3 h1.size:=by rw[hO3];exact .inr (by omega)
   have I3:oK hb rb B O3 h3 m ev env:=I.next m3 (Nat.le_succ m) E03 b3 l3
   have k53:=k5.ext x3 (by omega);have k63:=k6.ext x3 (by omega);have hn3:=hn.mv (iP.mv m3 I.own E03)
   have hks3:Sl eN h3 O3 na l.length nc l:=by
    obtain⟨a',n',c',hv,_,hk'⟩:=mg hn3;have:=congrArg (fun v=>match v with|Value.agg c=>c[2]? |_=>none) hv;simp at this;obtain⟨rfl,rfl,rfl⟩:=this;exact hk'
   refine xd [0,1,2,5,6,7,16] rfl ?_;refine av rfl ?_;refine xr func36 rfl ?_;refine xp rfl (af (off:=0) underlying25 rfl rfl H.bV rfl) ?_;refine xp rfl (ai H.cK rfl (k53.cell (i:=0) rfl)) ?_;refine xd [0,1,2,5,6,7,16,26] rfl ?_;refine G.block rfl rfl ?_;refine bf func36 2 [0,1,2,5,6,7,16,26,27] rfl ?_;have hR3:=cX (O:=O) m3.1 o6 (g:=h3) (g':=h3) (Ext.refl _ _);refine aM rfl rfl (fun c0=>?_) (fun c0=>?_)
   · subst c0;refine xr func36 rfl ?_;refine xp rfl (af (off:=1) underlying25 rfl rfl H.eG rfl) ?_;refine xp rfl (ai H.fu rfl (k53.cell (i:=1) rfl)) ?_;refine xo rfl (aq (vs:=[_,_,_]) func69 rfl H.MH rfl (ah.bq (vi (hg.ax I3.ext) t htl))) ?_;rintro _ h4 ⟨⟨n,e,rfl,hp⟩,e4⟩;have E04:=E03.trans (e4.mono fun _ _ q=>q.elim);have z4:=e4.size
     rcases hp with ⟨hp,rfl⟩|⟨hp,tp,p,rfl⟩
     · rw[Hj hp];refine aN 5 [0,1,2,5,6,7,8,9,16,26,27] rfl ?_;refine av rfl ?_;refine bl func36 1 rfl ?_;refine xp rfl (aj.o8 underlying171 rfl (.inl rfl)) ?_;refine xd [0,1,2,5,6,7,8,9,16,26,27,36] rfl ?_;refine aJ rfl rfl (fun hc=>absurd hc (by simp[mw])) (fun _=>?_);refine aB rfl ?_;refine bl func36 1 rfl ?_;refine xp rfl (aG (H.fP _ _) rfl) ?_;refine RW.bB rfl rfl rfl (az.au H.aW rfl rfl (k63.ax e4) (by first|rfl|(simp;done)|(simp;omega)) (by first|decide|exact of_decide_eq_true rfl|(simp;done)|(simp;omega)) (gm)) ?_;rintro _ h9 ⟨rfl,k9,x9,z9⟩;refine aN 1 [0,1,2,5,6,7,8,9,16,26,27,36] rfl ?_;refine G.br func36 rfl (.cons (aI.bp H.bR H.aW rfl (k9.row) (by first|rfl|(simp;done)|(simp;omega))) (.cons (aI.tmp rfl) (.nil))) ?_;exact⟨_,rfl,_,rfl,(sQ _ _ _),((b3.ax e4)).ext x9 (by omega),(E04).ct x9 (fun b hb q=>by omega)⟩
     · rw[FR hp];refine aN 5 [0,1,2,5,6,7,8,9,16,26,27] rfl ?_;refine av rfl ?_;refine bl func36 1 rfl ?_;refine xp rfl (aj.o8 underlying171 rfl (.inr ⟨_,_,rfl⟩)) ?_;refine xd [0,1,2,5,6,7,8,9,16,26,27,36] rfl ?_;refine aJ rfl rfl (fun _=>?_) (fun hc=>absurd hc (by simp[mw]));refine xr func36 rfl ?_;refine xp rfl (aG (H.eo ) rfl) ?_;refine RW.bB rfl rfl rfl (az.au H.aW rfl rfl (k63.ax e4) (by first|rfl|(simp;done)|(simp;omega)) (by first|decide|exact of_decide_eq_true rfl|(simp;done)|(simp;omega)) (by first|decide|simp[Value.oneCell'])) ?_;rintro _ h9 ⟨rfl,k9,x9,z9⟩;refine aN 1 [0,1,2,5,6,7,8,9,16,26,27,36] rfl ?_;refine G.br func36 rfl (.cons (aI.bp H.bR H.aW rfl (k9.row) (by first|rfl|(simp;done)|(simp;omega))) (.cons (aI.tmp rfl) (.nil))) ?_;exact⟨_,rfl,_,rfl,gI _ _,((b3.ax e4)).ext x9 (by omega),(E04).ct x9 (fun b hb q=>by omega)⟩
   · rw[bE,if_neg c0];obtain⟨hv1,hv2⟩:(eZ k).1<=l.length/\l.length<=(eZ k).2:=ux hc c0;refine bf func36 2 [0,1,2,5,6,7,16,26,27,40] rfl ?_;refine aM rfl rfl (fun c1=>?_) (fun c1=>?_)
     · rw[if_pos c1];refine av rfl ?_;refine xr func36 rfl ?_;refine xp rfl (af (off:=1) underlying25 rfl rfl H.eG rfl) ?_;refine xp rfl (ai H.fu rfl (k53.cell (i:=1) rfl)) ?_;refine xp rfl (aj.cw underlying9 rfl) ?_;refine aN 1 [0,1,2,5,6,7,16,26,27,40,45] rfl ?_;refine aM rfl rfl (fun hbig=>?_) (fun hbig=>?_)
       · rw[if_pos (by omega)];refine xr func36 rfl ?_;refine xp rfl (aG (H.eo ) rfl) ?_;refine RW.bB rfl rfl rfl (az.au H.aW rfl rfl k63 (by first|rfl|(simp;done)|(simp;omega)) (by first|decide|exact of_decide_eq_true rfl|(simp;done)|(simp;omega)) (by first|decide|simp[Value.oneCell'])) ?_;rintro _ h9 ⟨rfl,k9,x9,z9⟩;refine aN 1 [0,1,2,5,6,7,16,26,27,40,45] rfl ?_;refine G.br func36 rfl (.cons (aI.bp H.bR H.aW rfl (k9.row) (by first|rfl|(simp;done)|(simp;omega))) (.cons (aI.tmp rfl) (.nil))) ?_;exact⟨_,rfl,_,rfl,gI _ _,(b3).ext x9 (by omega),(E03).ct x9 (fun b hb q=>by omega)⟩
       · rw[if_neg (by omega)];refine aB rfl ?_;refine xr func36 rfl ?_;refine xp rfl (af (off:=1) underlying25 rfl rfl H.eG rfl) ?_;refine xp rfl (ai H.fu rfl (k53.cell (i:=1) rfl)) ?_;refine xp rfl (aG (H.AG _ _) rfl) ?_;refine RW.bB rfl rfl rfl (az.au H.aW rfl rfl k63 (by first|rfl|(simp;done)|(simp;omega)) (by first|decide|exact of_decide_eq_true rfl|(simp;done)|(simp;omega)) (gm)) ?_;rintro _ h9 ⟨rfl,k9,x9,z9⟩;refine aN 1 [0,1,2,5,6,7,16,26,27,40,45] rfl ?_;refine G.br func36 rfl (.cons (aI.bp H.bR H.aW rfl (k9.row) (by first|rfl|(simp;done)|(simp;omega))) (.cons (aI.tmp rfl) (.nil))) ?_;exact⟨_,rfl,_,rfl,(HX _ _ _),(b3).ext x9 (by omega),(E03).ct x9 (fun b hb q=>by omega)⟩
     · rw[if_neg c1];refine bf func36 2 [0,1,2,5,6,7,16,26,27,40,50] rfl ?_;refine aM rfl rfl (fun c2=>?_) (fun c2=>?_)
       · rw[if_pos c2];have htt:decide (bs t=⟨#[116,114,117,101]⟩)=decide (t=jW):=by rw[decide_eq_decide];exact⟨fun q=>bZ q,fun q=>by rw[q];rfl⟩
         refine xr func36 rfl ?_;refine xp rfl (af (off:=1) underlying25 rfl rfl H.eG rfl) ?_;refine xp rfl (ai H.fu rfl (k53.cell (i:=1) rfl)) ?_;refine xp rfl (aj.bS rfl rfl) ?_;refine xo rfl (aq (vs:=[_]) func70 rfl H.vp rfl (ah.bq (dG _))) ?_;rintro _ h4 ⟨rfl,e4⟩;have z4:=e4.size;rw[htt];refine RW.bB rfl rfl rfl (az.au H.aW rfl rfl (k63.ax e4) (by first|rfl|(simp;done)|(simp;omega)) (by first|decide|exact of_decide_eq_true rfl|(simp;done)|(simp;omega)) (gm)) ?_;rintro _ h9 ⟨rfl,k9,x9,z9⟩;refine aN 1 [0,1,2,5,6,7,16,26,27,40,50] rfl ?_;refine G.br func36 rfl (.cons (aI.bp H.bR H.aW rfl (k9.row) (by first|rfl|(simp;done)|(simp;omega))) (.cons (aI.tmp rfl) (.nil))) ?_;exact⟨_,rfl,_,rfl,(nB _ _ _),((b3.ax e4)).ext x9 (by omega),((E03.trans (e4.mono fun _ _ q=>q.elim))).ct x9 (fun b hb q=>by omega)⟩
       · rw[if_neg c2];refine bf func36 2 [0,1,2,5,6,7,16,26,27,40,50,56] rfl ?_;refine aM rfl rfl (fun c3=>?_) (fun c3=>?_)
         · rw[if_pos c3];refine bl func36 1 rfl ?_;refine xp rfl (af (off:=1) underlying25 rfl rfl H.eG rfl) ?_;refine xp rfl (ai H.fu rfl (k53.cell (i:=1) rfl)) ?_;refine xo rfl (aq (vs:=[_,_]) func71 rfl H.MG rfl (ah.bq (DJ I3.en hel t))) ?_;rintro _ h4 ⟨v4,rfl,hv4,e4'⟩;have e4:Ext (fun b=>b=rb) h3 h4:=e4'.mono fun _ _ q=>q.elim
           have b4:=b3.ax e4';have z4:=e4.size;obtain⟨nk',nt',xa',xn',xc',ea',en',ec',rfl,_,hR4,_⟩:=dz.get hv4;refine aV 2 rfl ?_;refine RW.bB rfl rfl rfl (az.au H.aW rfl rfl (k63.ext e4 (by omega)) (by first|rfl|(simp;done)|(simp;omega)) (by first|decide|exact of_decide_eq_true rfl|(simp;done)|(simp;omega)) (gm)) ?_;rintro _ h9 ⟨rfl,k9,x9,z9⟩;refine aN 1 [0,1,2,5,6,7,16,26,27,40,50,56] rfl ?_;refine G.br func36 rfl (.cons (aI.bp H.bR H.aW rfl (k9.row) (by first|rfl|(simp;done)|(simp;omega))) (.cons (aI.tmp rfl) (.nil))) ?_;exact⟨_,rfl,_,rfl,dz.of (eV.mv hR4 (cX m3.1 o6 x9)),b4.ext x9 (by omega),(E03.trans e4).ct x9 (fun b hb q=>by omega)⟩
         · rw[if_neg c3];refine bf func36 2 [0,1,2,5,6,7,16,26,27,40,50,56,64] rfl ?_;refine aM rfl rfl (fun c8=>?_) (fun c8=>?_)
           · rw[if_pos c8];subst c8;have hv1:1<=l.length:=hv1;obtain⟨b1,o1',k1,t1,a1,n1,c1',ha1,hb1,hr1,hk1⟩:=gE hks3 (i:=0) (by omega);refine av rfl ?_;refine bQ (fun b=>Array.size h3<=b) (fun i=>Nat.blt i 9) (sz:=11) (listed:= #[false,false,false,false,false,false,false,false,false,false,false]) func36 H.mixed rfl rfl rfl ?_;refine bP 0 1 (by kernel_rfl) rfl (fun h' e=>af (off:=1) underlying25 rfl rfl H.eG rfl) ?_;refine bP 1 3 (by kernel_rfl) rfl (fun h' e=>ai H.fu rfl (e.cell (by dsimp only;omega) (k53.cell (i:=1) rfl))) ?_;refine bP 2 7 (by kernel_rfl) rfl (fun h' e=>af (off:=2) underlying25 rfl rfl H.eX rfl) ?_;refine bP 3 15 (by kernel_rfl) rfl (fun h' e=>ai H.jm rfl (e.cell (by dsimp only;omega) (k53.cell (i:=2) rfl))) ?_;refine bP 4 31 (by kernel_rfl) rfl (fun h' e=>aj.aH underlying23 H.aY rfl rfl 0 rfl ha1 (by omega)) ?_;refine bP 5 63 (by kernel_rfl) rfl (fun h' e=>aj.aE H.bN H.aY rfl (e.rowAt (by omega) hr1) (by first|rfl|(simp;done)|(simp;omega))) ?_;refine cu 6 127 (by kernel_rfl) rfl ?_;refine dZ 7 255 (by kernel_rfl) rfl (aq (vs:=[_]) func72 rfl H.Jn rfl (ah.bq (lp I3.en hel))) ?_;rintro r4 h4 ⟨ho4,e4⟩;refine⟨fun _=>e4.of,?_⟩;have hen4:=ho4.read (O':=O3) (fun b hb q=>by have:=l3 b q;omega) (fun _ _ q=>q);obtain⟨ua,un,uc,rfl,_⟩:=id hen4.open;have z4:=e4.size;obtain⟨cs',hcs',hRk⟩:=hk1.mv (Mv.ax e4);obtain rfl:[Value.int .i64 k1,.string (bs t1),.slice a1 n1 c1']=cs':=by have:=congrArg (fun v=>match v with|Value.agg c=>c.toList|_=>[]) hcs';simpa using this
             have hRv:eV.R h4 O3 (kI 4 0 t [] k1 t1 a1 n1 c1' ua un uc) (.mk 4 0 t [] (l.getD 0 cP) env):=xY hRk hen4;refine bP 8 511 (by kernel_rfl) rfl (fun h' e=>aG (H.yz _ _ _ _ _ _ _ _) rfl) ?_;refine jG 9 1023 (by kernel_rfl) rfl (az.au H.aW rfl rfl (k63.ax e4) (by first|rfl|(simp;done)|(simp;omega)) (by first|decide|exact of_decide_eq_true rfl|(simp;done)|(simp;omega)) (gm)) ?_;rintro _ h9 ⟨rfl,k9,x9,z9⟩;refine⟨fun hk=>(nomatch hk),?_⟩;refine cu 10 2047 (by kernel_rfl) rfl ?_;refine bu (by kernel_rfl) ?_;refine xu [0,1,2,5,6,7,16,26,27,40,50,56,64] rfl ?_;refine G.br func36 rfl (.cons (aI.bp H.bR H.aW rfl (k9.row) (by first|rfl|(simp;done)|(simp;omega))) (.cons (aI.tmp rfl) (.nil))) ?_;exact⟨_,rfl,_,rfl,dz.of (eV.mv hRv (cX m3.1 o6 x9)),(b3.ax e4).ext x9 (by omega),(E03.trans (e4.mono fun _ _ q=>q.elim)).ct x9 (fun b hb q=>by omega)⟩
           · rw[if_neg c8];refine bf func36 2 [0,1,2,5,6,7,16,26,27,40,50,56,64,75] rfl ?_;refine aM rfl rfl (fun c10=>?_) (fun c10=>?_)
             · rw[if_pos c10]
               have hkids:∀x∈l,Cl cN x/\x.wt<=1000000:=fun x hx=>by
                obtain⟨i,hi,rfl⟩:=List.getElem_of_mem hx;have hgi:l.getD i cP=l[i]:=getD_at (List.getElem?_eq_getElem hi);have h1:=hc.wu i;have h2:=de hw i;rw[hgi] at h1 h2;exact⟨h1,h2⟩
               refine bl func36 2 rfl ?_;refine xp rfl (af (off:=2) underlying25 rfl rfl H.eX rfl) ?_;refine xp rfl (ai H.jm rfl (k53.cell (i:=2) rfl)) ?_;refine xo rfl (aq (vs:=[_,_,_]) func73 rfl H.MF rfl (ah.bq (AF ih I3 hm hks3.shut hkids))) ?_;rintro _ h4 ⟨v4,rfl,hv4,b4,e4⟩;have z4:=e4.size;obtain⟨nk',nt',xa',xn',xc',ea',en',ec',rfl,_,hR4,_⟩:=dz.get hv4;refine aV 2 rfl ?_;refine RW.bB rfl rfl rfl (az.au H.aW rfl rfl (k63.ext e4 (by omega)) (by first|rfl|(simp;done)|(simp;omega)) (by first|decide|exact of_decide_eq_true rfl|(simp;done)|(simp;omega)) (gm)) ?_;rintro _ h9 ⟨rfl,k9,x9,z9⟩;refine aN 1 [0,1,2,5,6,7,16,26,27,40,50,56,64,75] rfl ?_;refine G.br func36 rfl (.cons (aI.bp H.bR H.aW rfl (k9.row) (by first|rfl|(simp;done)|(simp;omega))) (.cons (aI.tmp rfl) (.nil))) ?_;exact⟨_,rfl,_,rfl,dz.of (eV.mv hR4 (cX m3.1 o6 x9)),b4.ext x9 (by omega),(E03.trans e4).ct x9 (fun b hb q=>by omega)⟩
             · rw[if_neg c10];refine bf func36 2 [0,1,2,5,6,7,16,26,27,40,50,56,64,75,84] rfl ?_;refine aM rfl rfl (fun c7=>?_) (fun c7=>?_)
               · rw[if_pos c7];subst c7;refine bl func36 2 rfl ?_;refine xp rfl (aj.aE H.bN H.aY rfl k53.row (by first|rfl|(simp;done)|(simp;omega))) ?_;refine xo rfl (aq (vs:=[_,_,_]) func74 rfl H.ME rfl (ah.bq (Dx ih I3 hm hn3 hc hw))) ?_;rintro _ h4 ⟨v4,rfl,hv4,b4,e4⟩;have z4:=e4.size;obtain⟨nk',nt',xa',xn',xc',ea',en',ec',rfl,_,hR4,_⟩:=dz.get hv4;refine aV 2 rfl ?_;refine RW.bB rfl rfl rfl (az.au H.aW rfl rfl (k63.ext e4 (by omega)) (by first|rfl|(simp;done)|(simp;omega)) (by first|decide|exact of_decide_eq_true rfl|(simp;done)|(simp;omega)) (gm)) ?_;rintro _ h9 ⟨rfl,k9,x9,z9⟩;refine aN 1 [0,1,2,5,6,7,16,26,27,40,50,56,64,75,84] rfl ?_;refine G.br func36 rfl (.cons (aI.bp H.bR H.aW rfl (k9.row) (by first|rfl|(simp;done)|(simp;omega))) (.cons (aI.tmp rfl) (.nil))) ?_;exact⟨_,rfl,_,rfl,dz.of (eV.mv hR4 (cX m3.1 o6 x9)),b4.ext x9 (by omega),(E03.trans e4).ct x9 (fun b hb q=>by omega)⟩
               · rw[if_neg c7];refine bf func36 2 [0,1,2,5,6,7,16,26,27,40,50,56,64,75,84,92] rfl ?_;refine aM rfl rfl (fun c6=>?_) (fun c6=>?_)
                 · rw[if_pos c6];subst c6;refine bl func36 2 rfl ?_;refine xp rfl (aj.aE H.bN H.aY rfl k53.row (by first|rfl|(simp;done)|(simp;omega))) ?_;refine xo rfl (aq (vs:=[_,_,_]) func75 rfl H.MD rfl (ah.bq (ym ih I3 hm hn3 hc hw))) ?_;rintro _ h4 ⟨v4,rfl,hv4,b4,e4⟩;have z4:=e4.size;obtain⟨nk',nt',xa',xn',xc',ea',en',ec',rfl,_,hR4,_⟩:=dz.get hv4;refine aV 2 rfl ?_;refine RW.bB rfl rfl rfl (az.au H.aW rfl rfl (k63.ext e4 (by omega)) (by first|rfl|(simp;done)|(simp;omega)) (by first|decide|exact of_decide_eq_true rfl|(simp;done)|(simp;omega)) (gm)) ?_;rintro _ h9 ⟨rfl,k9,x9,z9⟩;refine aN 1 [0,1,2,5,6,7,16,26,27,40,50,56,64,75,84,92] rfl ?_;refine G.br func36 rfl (.cons (aI.bp H.bR H.aW rfl (k9.row) (by first|rfl|(simp;done)|(simp;omega))) (.cons (aI.tmp rfl) (.nil))) ?_;exact⟨_,rfl,_,rfl,dz.of (eV.mv hR4 (cX m3.1 o6 x9)),b4.ext x9 (by omega),(E03.trans e4).ct x9 (fun b hb q=>by omega)⟩
                 · rw[if_neg c6];refine bf func36 2 [0,1,2,5,6,7,16,26,27,40,50,56,64,75,84,92,100] rfl ?_;refine aM rfl rfl (fun c9=>?_) (fun c9=>?_)
                   · rw[if_pos c9];subst c9;refine bl func36 2 rfl ?_;refine xp rfl (aj.aE H.bN H.aY rfl k53.row (by first|rfl|(simp;done)|(simp;omega))) ?_;refine xo rfl (aq (vs:=[_,_,_]) func76 rfl H.MC rfl (ah.bq (BR hg.ex ih I3 hm hn3 hc hw))) ?_;rintro _ h4 ⟨v4,rfl,hv4,b4,e4⟩;have z4:=e4.size;obtain⟨nk',nt',xa',xn',xc',ea',en',ec',rfl,_,hR4,_⟩:=dz.get hv4;refine aV 2 rfl ?_;refine RW.bB rfl rfl rfl (az.au H.aW rfl rfl (k63.ext e4 (by omega)) (by first|rfl|(simp;done)|(simp;omega)) (by first|decide|exact of_decide_eq_true rfl|(simp;done)|(simp;omega)) (gm)) ?_;rintro _ h9 ⟨rfl,k9,x9,z9⟩;refine aN 1 [0,1,2,5,6,7,16,26,27,40,50,56,64,75,84,92,100] rfl ?_;refine G.br func36 rfl (.cons (aI.bp H.bR H.aW rfl (k9.row) (by first|rfl|(simp;done)|(simp;omega))) (.cons (aI.tmp rfl) (.nil))) ?_;exact⟨_,rfl,_,rfl,dz.of (eV.mv hR4 (cX m3.1 o6 x9)),b4.ext x9 (by omega),(E03.trans e4).ct x9 (fun b hb q=>by omega)⟩
                   · rw[if_neg c9];refine bf func36 2 [0,1,2,5,6,7,16,26,27,40,50,56,64,75,84,92,100,108] rfl ?_;refine aM rfl rfl (fun c4=>?_) (fun c4=>?_)
                     · rw[if_pos c4];subst c4;have hv1:1<=l.length:=hv1;obtain⟨b1,o1',k1,t1,a1,n1,c1',ha1,hb1,hr1,hk1⟩:=gE hks3 (i:=0) (by omega);have hih:=ih I3 hm hk1 (hc.wu 0) (de hw 0);unfold En;generalize bE d m env (l.getD 0 cP)=o at hih ⊢;obtain⟨v,e,m'⟩:=o;dsimp only at hih ⊢;refine bl func36 2 rfl ?_;refine xp rfl (af (off:=2) underlying25 rfl rfl H.eX rfl) ?_;refine xp rfl (ai H.jm rfl (k53.cell (i:=2) rfl)) ?_;refine xp rfl (aj.aH underlying23 H.aY rfl rfl 0 rfl ha1 (by omega)) ?_;refine xp rfl (aj.aE H.bN H.aY rfl hr1 (by first|rfl|(simp;done)|(simp;omega))) ?_;refine xo rfl (aq (vs:=[_,_,_]) func36 rfl H.n7 rfl (ah.bq (hih))) ?_;rintro _ h4 ⟨v4,rfl,hv4,b4,e4⟩;dsimp only at hv4 b4;obtain⟨nk,nt,xa,xn,xc,ea,en,ec,rfl,_,hR4,_⟩:=dz.get hv4;refine aV 3 rfl ?_;refine xo rfl (az.aQ H.gw) ?_;rintro _ h5 ⟨rfl,k8,e5,z5⟩;refine RW.bB rfl rfl rfl (az.au H.aW rfl rfl k8 (by first|rfl|(simp;done)|(simp;omega)) (by first|decide|exact of_decide_eq_true rfl|(simp;done)|(simp;omega)) (gm)) ?_;rintro _ h6 ⟨rfl,k86,x6,z6⟩;have k86:bh h6 h4.size 52 (kI v.kind v.num v.iu v.self nk nt xa xn xc ea en ec):=k86;have e46:aC h4 h6:=aC.only e5 x6 (Nat.le_refl _);have z4:=And.intro e4.size e46.size;have E06:=(E03.trans e4).trans (e46.mono fun _ _ q=>q.elim);have k66:=(k63.ext e4 (by omega)).ax e46;have k56:=(k53.ext e4 (by omega)).ax e46;have b6:=b4.ax e46;refine aN 1 [0,1,2,5,6,7,10,11,16,26,27,40,50,56,64,75,84,92,100,108] rfl ?_;refine av rfl ?_;refine bf func36 2 [0,1,2,5,6,7,10,11,16,26,27,40,50,56,64,75,84,92,100,108,121] rfl ?_;refine aM rfl rfl (fun he=>?_) (fun he=>?_)
                       · rw[if_pos he];refine xr func36 rfl ?_;refine xp rfl (aG (H.eo ) rfl) ?_;refine aV 1 rfl ?_;refine RW.bB rfl rfl rfl (az.au H.aW rfl rfl k66 (by first|rfl|(simp;done)|(simp;omega)) (by first|decide|exact of_decide_eq_true rfl|(simp;done)|(simp;omega)) (by first|decide|simp[Value.oneCell'])) ?_;rintro _ h9 ⟨rfl,k9,x9,z9⟩;refine aN 1 [0,1,2,5,6,7,10,11,16,26,27,40,50,56,64,75,84,92,100,108,121] rfl ?_;refine G.br func36 rfl (.cons (aI.bp H.bR H.aW rfl (k9.row) (by first|rfl|(simp;done)|(simp;omega))) (.cons (aI.tmp rfl) (.nil))) ?_;exact⟨_,rfl,_,rfl,gI _ _,(b6).ext x9 (by omega),(E06).ct x9 (fun b hb q=>by omega)⟩
                       · rw[if_neg he];refine aB rfl ?_;refine xr func36 rfl ?_;refine xp rfl (af (off:=1) underlying25 rfl rfl H.eG rfl) ?_;refine xp rfl (ai H.fu rfl (k56.cell (i:=1) rfl)) ?_;refine xp rfl (aj.aE H.bR H.aW rfl k86.row (by first|rfl|(simp;done)|(simp;omega))) ?_;refine xo rfl (aq (vs:=[_,_]) func77 rfl H.MB rfl (ah.bq (yY (O:=O3) (x:=v) (dz.of (eV.mv hR4 (Mv.ax e46))) t))) ?_;rintro _ h7 ⟨v7,rfl,hv7,e7⟩;obtain⟨nk',nt',xa',xn',xc',ea',en',ec',rfl,_,hR7,_⟩:=dz.get hv7;have z7:=e7.size;refine aV 2 rfl ?_;refine RW.bB rfl rfl rfl (az.au H.aW rfl rfl (k66.ax e7) (by first|rfl|(simp;done)|(simp;omega)) (by first|decide|exact of_decide_eq_true rfl|(simp;done)|(simp;omega)) (gm)) ?_;rintro _ h9 ⟨rfl,k9,x9,z9⟩;refine aN 1 [0,1,2,5,6,7,10,11,16,26,27,40,50,56,64,75,84,92,100,108,121] rfl ?_;refine G.br func36 rfl (.cons (aI.bp H.bR H.aW rfl (k9.row) (by first|rfl|(simp;done)|(simp;omega))) (.cons (aI.tmp rfl) (.nil))) ?_;exact⟨_,rfl,_,rfl,dz.of (eV.mv hR7 (cX m3.1 o6 x9)),(b6.ax e7).ext x9 (by omega),(E06.trans (e7.mono fun _ _ q=>q.elim)).ct x9 (fun b hb q=>by omega)⟩
                     · rw[if_neg c4]
                       obtain rfl:k=5:=by
                        rcases hc with q|q
                        · rw[V,cU,Bool.and_eq_true] at q;have h1:=q.1;unfold iV at h1;simp only[Bool.and_eq_true,decide_eq_true_eq] at h1;omega
                        · cases q;exact absurd rfl c0
                       refine aB rfl ?_;refine G.aR ?_;refine bl func36 2 rfl ?_;refine xp rfl (aj.aE H.bN H.aY rfl k53.row (by first|rfl|(simp;done)|(simp;omega))) ?_;refine xo rfl (aq (vs:=[_,_,_]) func78 rfl H.MA rfl (ah.bq (yw ih I3 hm hn3 hc hw))) ?_;rintro _ h4 ⟨v4,rfl,hv4,b4,e4⟩;have z4:=e4.size;obtain⟨nk',nt',xa',xn',xc',ea',en',ec',rfl,_,hR4,_⟩:=dz.get hv4;refine aV 2 rfl ?_;refine RW.bB rfl rfl rfl (az.au H.aW rfl rfl (k63.ext e4 (by omega)) (by first|rfl|(simp;done)|(simp;omega)) (by first|decide|exact of_decide_eq_true rfl|(simp;done)|(simp;omega)) (gm)) ?_;rintro _ h9 ⟨rfl,k9,x9,z9⟩;refine aN 1 [0,1,2,5,6,7,16,26,27,40,50,56,64,75,84,92,100,108] rfl ?_;refine G.br func36 rfl (.cons (aI.bp H.bR H.aW rfl (k9.row) (by first|rfl|(simp;done)|(simp;omega))) (.cons (aI.tmp rfl) (.nil))) ?_;exact⟨_,rfl,_,rfl,dz.of (eV.mv hR4 (cX m3.1 o6 x9)),b4.ext x9 (by omega),(E03.trans e4).ct x9 (fun b hb q=>by omega)⟩
theorem ug {hb:aA}(hg:Eb hb) (rb B:Nat):∀d,JL hb rb B d
 | 0=>by
  intro I hm hn hc hw;rename_i O h m ev nv env n;obtain rfl:m=0:=by omega
  exact wB I hn
 |d+1=>by
  intro I hm hn hc hw;rename_i O h m ev nv env n;cases m with
  |zero=>exact wB I hn
  |succ m =>
   obtain⟨k,t,l⟩:=n;exact DN hg (ug hg rb B d) I (by omega) hn hc hw
def eJ (env:List Bd) (n:Tr):Vl×Int×Int:=if cU cN n=true then ((if (bE 2000 2000 env n).2.1=0 then (bE 2000 2000 env n).1 else iJ),2000-((bE 2000 2000 env n).2.2:Int),(bE 2000 2000 env n).2.1) else (iJ,0,10)
theorem uY (hg:Eb h){n:Tr}(hv:bX eB h O ev env) (hO:∀b,O b->b<h.size) (hok:vj 900000 env) (hn:fq h O nv n) (hw:n.wt<=1000000) :
 ah Tryz.prog 17 #[ev,nv] h (cM fun r h'=>∃v,r=packed [v,.int .i64 (eJ env n).2.1,.int .i64 (eJ env n).2.2]/\dz h' O v (eJ env n).1/\aC h h'):=by
 obtain⟨k,t,l⟩:=n;obtain⟨na,nn,nc,rfl,hR,hks⟩:=mg hn;refine ah.of func17 rfl rfl ?_;refine xr func17 rfl ?_;refine xo rfl (az.eR rfl) ?_;rintro _ h1 ⟨rfl,k3,e1,z1⟩;refine xo rfl (az.aQ H.gw) ?_;rintro _ h2 ⟨rfl,k4,e2,z2⟩;have e12:=e1.trans e2;have k3:bh h2 h.size 25 [.int .i64 k,.string (bs t),.slice na nn nc]:=k3.ax e2;refine aN 2 [0,1,3,4,5,6] rfl ?_;refine av rfl ?_;refine xr func17 rfl ?_;refine xp rfl (aj.aE H.bN H.aY rfl k3.row (by first|rfl|(simp;done)|(simp;omega))) ?_;refine xo rfl (aq (vs:=[_]) func13 rfl H.KS rfl (ah.bq (qN hw (hg.ex.ax e12) (hn.mv (Mv.ax e12))))) ?_;rintro _ h3 ⟨rfl,e3⟩;have e13:=e12.trans e3;have k43:=k4.ax e3;have k33:=k3.ax e3;have zz:=And.intro e12.size e3.size;unfold eJ;refine aN 1 [0,1,3,4,5,6,10] rfl ?_;refine aJ rfl rfl (fun hq=>?_) (fun hq=>?_)
 · have hq:¬cU cN (.mk k t l)=true:=by simpa using hq
   rw[if_neg hq];refine xr func17 rfl ?_;refine xp rfl (aG (H.eo ) rfl) ?_;refine RW.bB rfl rfl rfl (az.au H.aW rfl rfl k43 (by first|rfl|(simp;done)|(simp;omega)) (by first|decide|exact of_decide_eq_true rfl|(simp;done)|(simp;omega)) (by first|decide|simp[Value.oneCell'])) ?_;rintro _ h4 ⟨rfl,k44,x4,z4⟩;refine aN 2 [0,1,3,4,5,6,10] rfl ?_;refine G.br func17 rfl (.cons (aI.bp H.bR H.aW rfl (k44.row) (by first|rfl|(simp;done)|(simp;omega))) (.cons (aI.tmp rfl) (.cons (aI.tmp rfl) (.nil)))) ?_;exact⟨_,rfl,_,rfl,gI _ _,aC.only e13 x4 (by omega)⟩
 · have hq:cU cN (.mk k t l)=true:=by simpa using hq
   rw[if_pos hq];refine aB rfl ?_;refine xr func17 rfl ?_;refine xp rfl (aG (H.Lu ) rfl) ?_;refine xo rfl (az.eR rfl) ?_;rintro _ h4 ⟨rfl,k7,e4,z4⟩;have k7:bh h4 h3.size 99 [.int .i64 (2000-((2000:Nat):Int))]:=k7;have e14:=e13.trans e4;have m4:=cW O h h4;obtain⟨O4,hO4⟩:∃O4,O4=upTo O h h4:=⟨_,rfl⟩
   rw[<-hO4] at m4;have I4:oK h h3.size 1000000 O4 h4 2000 ev env:=⟨e14,k7,fun b q=>by rw[hO4] at q;exact iH hO e14.size b q,by rw[hO4];exact .inr (by omega),hv.mv (m4.qV e14),hok.le (by decide),by decide,Nat.le_refl _,Nat.le_refl _,by omega⟩
   have hih:=ug hg h3.size 1000000 2000 I4 (Nat.le_refl _) (hn.mv (m4.qV e14)) (.inl hq) hw;generalize bE 2000 2000 env (.mk k t l)=o at hih ⊢;obtain⟨v,e,m'⟩:=o;dsimp only at hih ⊢;have k44:=k43.ax e4;refine aN 1 [0,1,3,4,5,6,7,10] rfl ?_;refine bl func17 2 rfl ?_;refine xp rfl (aj.aE H.bN H.aY rfl (k33.ax e4).row (by first|rfl|(simp;done)|(simp;omega))) ?_;refine xo rfl (aq (vs:=[_,_,_]) func36 rfl H.n7 rfl (ah.bq (hih))) ?_;rintro _ h5 ⟨v5,rfl,hv5,b5,e5⟩;dsimp only at hv5 b5;obtain⟨nk,nt,xa,xn,xc,ea,en,ec,rfl,_,hR5,_⟩:=dz.get hv5;refine aV 3 rfl ?_;refine RW.bB rfl rfl rfl (az.au H.aW rfl rfl (k44.ext e5 (by omega)) (by first|rfl|(simp;done)|(simp;omega)) (by first|decide|exact of_decide_eq_true rfl|(simp;done)|(simp;omega)) (gm)) ?_;rintro _ h6 ⟨rfl,k46,x6,z6⟩;have k46:bh h6 h1.size 52 (kI v.kind v.num v.iu v.self nk nt xa xn xc ea en ec):=k46;have z5:=e5.size;have z56:=x6.size;have o6:O4 h1.size:=by rw[hO4];exact .inr (by omega)
   have b6:=b5.ext x6 (by omega);have e06:aC h h6:=⟨by omega,fun b hb _=>by rw[x6.block b (by omega) (by omega),e5.block b (by omega) (by omega)];exact e14.block b hb (fun k=>k)⟩
   have hR6:=eV.mv hR5 (cX (fun _ q=>q) o6 x6);have hr6:¬h3.size=h1.size:=by omega
   refine aN 1 [0,1,3,4,5,6,7,10] rfl ?_;refine av rfl ?_;refine bf func17 2 [0,1,3,4,5,6,7,10,22] rfl ?_;refine aM rfl rfl (fun he=>?_) (fun he=>?_)
   · rw[if_neg he];refine av rfl ?_;refine bQ (fun b=>b=h1.size\/h6.size<=b) (fun i=>Nat.blt i 9) (sz:=9) (listed:= #[false,false,false,false,false,false,false,false,false]) func17 H.mixed rfl rfl rfl ?_;refine bP 0 1 (by kernel_rfl) rfl (fun h' e=>aG (H.eo ) rfl) ?_;refine cu 1 3 (by kernel_rfl) rfl ?_;refine cu 2 7 (by kernel_rfl) rfl ?_;refine bP 3 15 (by kernel_rfl) rfl (fun h' e=>af (off:=0) underlying99 rfl rfl H.bV rfl) ?_;refine bP 4 31 (by kernel_rfl) rfl (fun h' e=>ai H.cK rfl (e.cell (by dsimp only;omega) (b6.cell (i:=0) rfl))) ?_;refine cu 5 63 (by kernel_rfl) rfl ?_;refine jG 6 127 (by kernel_rfl) rfl (az.au H.aW rfl rfl k46 (by first|rfl|(simp;done)|(simp;omega)) (by first|decide|exact of_decide_eq_true rfl|(simp;done)|(simp;omega)) (by first|decide|simp[Value.oneCell'])) ?_;rintro _ h7 ⟨rfl,k47,x7,z7⟩;refine⟨fun _=>x7.mono (fun b _ q=>.inl q),?_⟩;refine cu 7 255 (by kernel_rfl) rfl ?_;refine cu 8 511 (by kernel_rfl) rfl ?_;refine bu (by kernel_rfl) ?_;refine xu [0,1,3,4,5,6,7,10,22] rfl ?_;refine G.br func17 rfl (.cons (aI.bp H.bR H.aW rfl (k47.row) (by first|rfl|(simp;done)|(simp;omega))) (.cons (aI.tmp rfl) (.cons (aI.tmp rfl) (.nil)))) ?_;exact⟨_,rfl,_,rfl,gI _ _,aC.only e06 x7 (by omega)⟩
   · have he:=Classical.not_not.1 he;subst he;rw[if_pos rfl];refine aB rfl ?_;refine av rfl ?_;refine bQ (fun b=>h6.size<=b) (fun i=>Nat.blt i 8) (sz:=8) (listed:= #[false,false,false,false,false,false,false,false]) func17 H.mixed rfl rfl rfl ?_;refine bP 0 1 (by kernel_rfl) rfl (fun h' e=>aj.aE H.bR H.aW rfl (e.rowAt (by omega) k46.row) (by first|rfl|(simp;done)|(simp;omega))) ?_;refine cu 1 3 (by kernel_rfl) rfl ?_;refine cu 2 7 (by kernel_rfl) rfl ?_;refine bP 3 15 (by kernel_rfl) rfl (fun h' e=>af (off:=0) underlying99 rfl rfl H.bV rfl) ?_;refine bP 4 31 (by kernel_rfl) rfl (fun h' e=>ai H.cK rfl (e.cell (by dsimp only;omega) (b6.cell (i:=0) rfl))) ?_;refine jG 5 63 (by kernel_rfl) rfl (az.au H.aW rfl rfl k46 (by first|rfl|(simp;done)|(simp;omega)) (by first|decide|exact of_decide_eq_true rfl|(simp;done)|(simp;omega)) (gm)) ?_;rintro _ h7 ⟨rfl,k47,x7,z7⟩;refine⟨fun _=>(iW k46 k47 x7).mono (fun _ _ q=>q.elim),?_⟩;refine cu 6 127 (by kernel_rfl) rfl ?_;refine cu 7 255 (by kernel_rfl) rfl ?_;refine bu (by kernel_rfl) ?_;refine xu [0,1,3,4,5,6,7,10,22] rfl ?_;refine G.br func17 rfl (.cons (aI.bp H.bR H.aW rfl (k47.row) (by first|rfl|(simp;done)|(simp;omega))) (.cons (aI.tmp rfl) (.cons (aI.tmp rfl) (.nil)))) ?_;exact⟨_,rfl,_,rfl,dz.of (eV.mv hR6 (cX m4.1 o6 x7)),aC.only e06 x7 (by omega)⟩
theorem Ap {p:Value}(O:Nat->Prop) (hO:∀y,O y->y<h.size) (hg:AU h) (k:nS h p) (s:By) (hs:s.length<=1000000) :
 ah Tryz.prog 15 #[p,.string (bs s)] h (cM fun r h'=>(∃v,r= .tuple #[v,.agg (cC (eM s).2).toArray]/\bX Hq h' O v (eM s).1)/\aC h h'):=by
 have hbs:=bY s;generalize hres:eM s=res;refine ah.of func15 rfl rfl ?_;refine bl func15 1 rfl ?_;refine xo rfl (az.aQ H.yM) ?_;rintro _ h1 ⟨rfl,k5,e1,z1⟩;have k5:bh h1 h.size 41 (cC (0,0)):=k5;have y1:=e1.size;refine xd [0,1,4,5] rfl ?_;refine HS rfl ?_;refine bf func15 1 [0,1,4,5,6] rfl ?_;refine av rfl ?_;refine HT rfl ?_;refine av rfl ?_;refine G.block rfl rfl ?_;refine bO (σ:=Nat×uX×Value×List Tk) (fun q=>[(0,p),(1,.string (bs s)),(4,q.2.2.1),(5,.pointer (some ⟨h.size,0,none⟩)),(6,.int .i64 (q.1:Nat))]) (fun q h'=>(q.1<=s.length/\q.2.2.2.length<=q.1/\Gz q.2.1.2)/\aC h h'/\h1.size<=h'.size/\bh h' h.size 41 (cC q.2.1)/\kK 3 fE h' h1.size 46 q.2.2.1 q.2.2.2/\(q.2.2.2++(jw s.length (s.drop q.1) q.1 q.2.1).1,(jw s.length (s.drop q.1) q.1 q.2.1).2)=res) (fun q=>s.length+1-q.1) ((0,(0,0),.slice none 0 0,[])) rfl ⟨rfl,rfl,rfl,rfl,rfl,trivial⟩ ⟨⟨Nat.zero_le _,by simp,by show Gz 0;unfold Gz;omega⟩,e1,Nat.le_refl _,k5,kK.nil _ _ _ _ _,hres⟩ ?_;rintro⟨i,st,vt,toks⟩ g ⟨⟨hi,htl,hst⟩,eg,hz,kS,ho,hcon⟩ ih
 try dsimp only
 dsimp only at hi htl hst kS ho hcon;have hho:aT g h1.size 46 3 vt toks.length (toks.flatMap fE):=ho;obtain⟨ta,tc,rfl,_⟩:=hho.open;have tge:∀b,(Value.slice ta toks.length tc).ownBlock=some b->h1.size<=b/\b<g.size:=fun b hb=>hho.lt hb
 rcases Nat.lt_or_ge i s.length with hlt|hge
 · have hne:s.drop i≠[]:=fun e=>by have:=congrArg List.length e;rw[List.length_drop] at this;simp at this;omega
   have hkl:=pz hne st.1;rw[List.length_drop] at hkl;rw[D1 hne (by rw[List.length_drop];omega)] at hcon;have hone:=Dk (hg.ax eg) (k.ax eg) s i hlt hs st hst;unfold Jj at hone;have hnI:=GQ hst (s.drop i);rw[List.drop_drop] at hcon;generalize iK (s.drop i) st.1=L at *;generalize Aq (s.drop i) st.1=kd at *;generalize o7 (s.drop i) st=nx at *;generalize Bw st.1 (s.drop i)=sp at *;refine G.block rfl rfl ?_;refine bl func15 3 rfl ?_;refine xp rfl (aj.aE H.ij H.eu rfl kS.row (by first|rfl|(simp;done)|(simp;omega))) ?_;refine xo rfl (aq (vs:=[_,_,_,_]) func34 rfl H.Kx rfl (ah.bq (hone))) ?_;rintro _ g1 ⟨rfl,f1⟩;refine aV 4 rfl ?_;refine xo rfl (az.aQ H.Ec) ?_;rintro _ g2 ⟨rfl,c7,f2,y2⟩;refine xo rfl (az.aQ H.yM) ?_;rintro _ g3 ⟨rfl,c8,f3,y3⟩;refine RW.bB rfl rfl rfl (az.au H.kN rfl rfl (c7.ax f3) (by first|rfl|(simp;done)|(simp;omega)) (by first|decide|exact of_decide_eq_true rfl|(simp;done)|(simp;omega)) (nT _)) ?_;rintro _ g4 ⟨rfl,d7,x4,y4⟩;have d7:bh g4 g1.size 46 (fE (kd,(i:Int),((i+L:Nat):Int))):=d7;have yz1:=f1.size;have yz2:=f2.size;have yz4:=x4.size;refine RW.bB rfl rfl rfl (az.au H.eu rfl rfl ((c8.ext x4 (show ¬g2.size=g1.size by omega))) (by first|rfl|(simp;done)|(simp;omega)) (by first|decide|exact of_decide_eq_true rfl|(simp;done)|(simp;omega)) (gC nx)) ?_;rintro _ g5 ⟨rfl,d8,x5,y5⟩;have d8:bh g5 g2.size 41 (cC nx):=d8;have d7:=d7.ext x5 (show ¬g1.size=g2.size by omega);have yz5:=x5.size;have eg5:aC g g5:=aC.only (aC.only ((f1.trans f2).trans f3) x4 (by omega)) x5 (by omega);have hho5:=hho.FM eg5;refine aN 1 [0,1,4,5,6,7,8] rfl ?_;refine av rfl ?_;refine G.block rfl rfl ?_;refine xr func15 rfl ?_;refine xp rfl (af (off:=2) underlying46 rfl rfl H.bV rfl) ?_;refine xp rfl (ai H.cK rfl (d7.cell (i:=2) rfl)) ?_;refine aN 3 [0,1,4,5,6,7,8,19] rfl ?_;refine aJ rfl rfl (fun hc=>absurd hc (by simp;omega)) (fun _=>?_);refine aB rfl ?_;refine G.aR ?_;refine bl func15 1 rfl ?_;refine xp rfl (aj.aE H.yC H.kN rfl d7.row (by first|rfl|(simp;done)|(simp;omega))) ?_;refine xo rfl (az.cE (cs:=[_,_,_]) underlying39 H.Lg rfl rfl (by decide)) ?_;rintro _ _ ⟨rfl,rfl⟩;refine xo rfl (az.bU underlying39 H.Lg rfl rfl (hho5) rfl rfl (nT _) (by omega) (by decide) (by omega)) ?_;rintro vt2 g6 ⟨ho6,hx6,hx6',hv6⟩;have yz6:=hx6.size;have d7:=d7.ext hx6 (fun k=>by have:=tge _ k.symm;omega);have d8:=d8.ext hx6 (fun k=>by have:=tge _ k.symm;omega);have kS6:=(kS.ax eg5).ext hx6 (fun k=>by have:=tge _ k.symm;omega);have e06:aC h g6:=Ext.own (eg.trans eg5) hho5 (by omega) hx6;have ho6:kK 3 fE g6 h1.size 46 vt2 (toks++[(kd,(i:Int),((i+L:Nat):Int))]):=kK.of ho6 rfl rfl;have hMa:¬(g1.size=h.size\/Array.size g6<=g1.size):=by omega
   have hMb:¬(g2.size=h.size\/Array.size g6<=g2.size):=by omega
   refine aN 1 [0,1,4,5,6,7,8,19] rfl ?_;refine bQ (fun b=>b=Array.size h\/Array.size g6<=b) (fun i=>Nat.blt i 6) (sz:=5) (listed:= #[false,false,false,false,false]) func15 H.mixed rfl rfl rfl ?_;refine bP 0 1 (by kernel_rfl) rfl (fun h' e=>af (off:=2) underlying46 rfl rfl H.bV rfl) ?_;refine bP 1 3 (by kernel_rfl) rfl (fun h' e=>ai H.cK rfl (e.cell hMa (d7.cell (i:=2) rfl))) ?_;refine bP 2 7 (by kernel_rfl) rfl (fun h' e=>aj.aE H.ij H.eu rfl (e.rowAt hMb d8.row) (by first|rfl|(simp;done)|(simp;omega))) ?_;refine cu 3 15 (by kernel_rfl) rfl ?_;refine jG 4 31 (by kernel_rfl) rfl (az.au H.eu rfl rfl kS6 (by first|rfl|(simp;done)|(simp;omega)) (by first|decide|exact of_decide_eq_true rfl|(simp;done)|(simp;omega)) (gC nx)) ?_;rintro _ g7 ⟨rfl,kS7,x7,y7⟩;refine⟨fun _=>x7.mono (fun _ _ k=>.inl k),?_⟩;have kS7:bh g7 h.size 41 (cC nx):=kS7;have ho7:kK 3 fE g7 h1.size 46 vt2 (toks++[(kd,(i:Int),((i+L:Nat):Int))]):=aT.ext x7 ho6 (fun b hb (k:b=h.size)=>by have:=(aT.lt ho6 hb).1;omega);refine bu (by kernel_rfl) ?_;refine xu [0,1,4,5,6,7,8,19] rfl ?_;refine G.aR ?_;exact ih (i+L,nx,vt2,toks++[(kd,(i:Int),((i+L:Nat):Int))]) _ _ ⟨rfl,rfl,rfl,rfl,rfl,trivial⟩ ⟨⟨by show i+L<=s.length;omega,by simp;omega,hnI⟩,aC.only e06 x7 (by omega),by have:=x7.size;show h1.size<=g7.size;omega,kS7,ho7,by simpa using hcon⟩ (by show s.length+1-(i+L)<s.length+1-i;omega)
 · obtain rfl:i=s.length:=by omega
   have hone:=GP (h:=g) (p:=p) (b:=false) (fun g' eg'=>Af (k.ax (eg.trans eg'))) s (s.length:Nat) hs st (.inr (.inr (by omega)));rw[List.drop_length,Gj] at hcon;refine G.block rfl rfl ?_;refine bl func15 3 rfl ?_;refine xp rfl (aj.aE H.ij H.eu rfl kS.row (by first|rfl|(simp;done)|(simp;omega))) ?_;refine xo rfl (aq (vs:=[_,_,_,_]) func34 rfl H.Kx rfl (ah.bq (hone))) ?_;rintro _ g1 ⟨rfl,f1⟩;refine aV 4 rfl ?_;refine xo rfl (az.aQ H.Ec) ?_;rintro _ g2 ⟨rfl,c7,f2,y2⟩;refine xo rfl (az.aQ H.yM) ?_;rintro _ g3 ⟨rfl,c8,f3,y3⟩;refine RW.bB rfl rfl rfl (az.au H.kN rfl rfl (c7.ax f3) (by first|rfl|(simp;done)|(simp;omega)) (by first|decide|exact of_decide_eq_true rfl|(simp;done)|(simp;omega)) (nT _)) ?_;rintro _ g4 ⟨rfl,d7,x4,y4⟩;have d7:bh g4 g1.size 46 (fE (0,0,0)):=d7;have yz1:=f1.size;have yz2:=f2.size;have yz4:=x4.size;refine RW.bB rfl rfl rfl (az.au H.eu rfl rfl ((c8.ext x4 (show ¬g2.size=g1.size by omega))) (by first|rfl|(simp;done)|(simp;omega)) (by first|decide|exact of_decide_eq_true rfl|(simp;done)|(simp;omega)) (gC st)) ?_;rintro _ g5 ⟨rfl,d8,x5,y5⟩;have d7:=d7.ext x5 (show ¬g1.size=g2.size by omega);have yz5:=x5.size;have eg5:aC g g5:=aC.only (aC.only ((f1.trans f2).trans f3) x4 (by omega)) x5 (by omega);have hho5:=ho.ax eg5;have kS5:=kS.ax eg5;refine aN 1 [0,1,4,5,6,7,8] rfl ?_;refine av rfl ?_;refine G.block rfl rfl ?_;refine xr func15 rfl ?_;refine xp rfl (af (off:=2) underlying46 rfl rfl H.bV rfl) ?_;refine xp rfl (ai H.cK rfl (d7.cell (i:=2) rfl)) ?_;refine aN 3 [0,1,4,5,6,7,8,19] rfl ?_;refine aJ rfl rfl (fun _=>?_) (fun hc=>absurd hc (by simp));have hMa:¬(h.size=h.size/\Array.size g5<=h.size):=by omega
   refine bD rfl rfl ?_;refine av rfl ?_;refine bQ (fun b=>Array.size g5<=b) (fun i=>Nat.blt i 5) (sz:=4) (listed:= #[false,false,false,false]) func15 H.mixed rfl rfl rfl ?_;refine cu 0 1 (by kernel_rfl) rfl ?_;refine bP 1 3 (by kernel_rfl) rfl (fun h' e=>aj.aE H.ij H.eu rfl (e.rowAt (by omega) kS5.row) (by first|rfl|(simp;done)|(simp;omega))) ?_;refine cu 2 7 (by kernel_rfl) rfl ?_;refine jG 3 15 (by kernel_rfl) rfl (az.au H.eu rfl rfl kS5 (by first|rfl|(simp;done)|(simp;omega)) (by first|decide|exact of_decide_eq_true rfl|(simp;done)|(simp;omega)) (gC st)) ?_;rintro _ g7 ⟨rfl,kS7,x7,y7⟩;refine⟨fun _=>(iW kS5 kS7 x7).mono (fun _ _ k=>k.elim),?_⟩;have kS7:bh g7 h.size 41 (cC st):=kS7;have e7:=iW kS5 kS7 x7;refine bu (by kernel_rfl) ?_;refine xu [0,1,4,5,6,7,8,19] rfl ?_;refine G.br func15 rfl (.cons (aI.tmp rfl) (.cons (aI.bp H.ij H.eu rfl (kS7.row) (by first|rfl|(simp;done)|(simp;omega))) (.nil))) ?_;rw[<-hcon];exact⟨_,rfl,⟨_,rfl,by show bX Hq g7 _ _ (toks++[]);rw[List.append_nil];exact kK.read (hho5.ax e7) (fun b hb k=>by have:=hO b k;omega)⟩,(eg.trans eg5).trans e7⟩
theorem tI {p:Value}(hg:AU h) (k:nS h p) (s:By) (hs:s.length<=1000000) :
 ah Tryz.prog 15 #[p,.string (bs s)] h (cM fun r h'=>(∃v,r= .tuple #[v,.agg (cC (eM s).2).toArray]/\bX Hq h' (fun _=>False) v (eM s).1)/\aC h h'):=Ap _ (fun _ k=>k.elim) hg k s hs
end
end Go.Proofs.YtmehdcdbeafljaaGreatDoor
namespace Go.Proofs.YtmehdcdbeafljaaGreatDoor
open Go Go.Lw
set_option maxRecDepth 100000
abbrev LQ:By:=[49,32,43,32,50,32,42,32,51]
abbrev LP:By:=[34,97,34,32,43,32,34,98,34,32,61,61,32,34,97,98,34]
abbrev LO:By:=[49,32,47,32,48]
abbrev LN:By:=[116,114,117,101,32,111,114,32,120]
abbrev LM:By:=[123,32,108,101,116,32,102,32,61,32,102,117,110,32,110,32,45,62,32,105,102,32,110,32,60,32,50,32,123,32,49,32,125,32,101,108,115,101,32,123,32,110,32,42,32,102,40,110,32,45,32,49,41,32,125,59,32,102,40,53,41,32,125]
abbrev LX:By:=[97,32,43,32,98,32,45,32,98,32,61,61,32,97]
abbrev LW:By:=[97,32,45,32,98,32,43,32,98,32,61,61,32,97]
abbrev LV:By:=[97,32,47,32,98,32,42,32,98,32,43,32,97,32,37,32,98,32,61,61,32,97]
abbrev LU:By:=[40,97,32,60,32,98,41,32,111,114,32,97,32,61,61,32,98,32,111,114,32,97,32,62,32,98]
abbrev LS:By:=[110,111,116,32,40,97,32,60,32,98,41,32,61,61,32,40,97,32,62,61,32,98,41]
abbrev LR:By:=[97,32,42,32,98,32,61,61,32,98,32,42,32,97]
abbrev na:Tr:=.mk 3 [97] []
abbrev nb:Tr:=.mk 3 [98] []
abbrev bi (op:By) (x y:Tr):Tr:=.mk 5 op [x,y]
abbrev nu (c:UInt8):Tr:=.mk 0 [c] []
abbrev Mg:Tr:=bi [43] (nu 49) (bi [42] (nu 50) (nu 51))
abbrev Mf:Tr:=bi [61,61] (bi [43] (.mk 1 [97] []) (.mk 1 [98] [])) (.mk 1 [97,98] [])
abbrev LY:Tr:=bi [47] (nu 49) (nu 48)
abbrev Me:Tr:=bi [111,114] (.mk 2 [116,114,117,101] []) (.mk 3 [120] [])
abbrev nn:Tr:=.mk 3 [110] []
abbrev nf:Tr:=.mk 3 [102] []
abbrev I6:Tr:=.mk 10 [] [.mk 7 [102] [.mk 8 [110] [.mk 6 [] [bi [60] nn (nu 50),.mk 10 [] [nu 49],.mk 10 [] [bi [42] nn (.mk 9 [] [nf,bi [45] nn (nu 49)])]]]],.mk 9 [] [nf,nu 53]]
abbrev L6:Tr:=bi [61,61] (bi [45] (bi [43] na nb) nb) na
abbrev L5:Tr:=bi [61,61] (bi [43] (bi [45] na nb) nb) na
abbrev L4:Tr:=bi [61,61] (bi [43] (bi [42] (bi [47] na nb) nb) (bi [37] na nb)) na
abbrev L3:Tr:=bi [111,114] (bi [111,114] (bi [60] na nb) (bi [61,61] na nb)) (bi [62] na nb)
abbrev L2:Tr:=.mk 4 [110,111,116] [bi [61,61] (bi [60] na nb) (bi [62,61] na nb)]
abbrev L1:Tr:=bi [61,61] (bi [42] na nb) (bi [42] nb na)
theorem NA:dO LQ (eM LQ).1 (eM LQ).2.1 [Mg] 0 0:=.ok (u:=[(5,[49],0),(6,[43],2),(5,[50],4),(6,[42],6),(5,[51],8)]) (n:=60) (r:=[]) (by decide +kernel) (by kernel_rfl)
theorem Nz:dO LP (eM LP).1 (eM LP).2.1 [Mf] 0 0:=.ok (u:=[(9,[97],0),(6,[43],4),(9,[98],6),(6,[61,61],10),(9,[97,98],13)]) (n:=60) (r:=[]) (by decide +kernel) (by kernel_rfl)
theorem Ny:dO LO (eM LO).1 (eM LO).2.1 [LY] 0 0:=.ok (u:=[(5,[49],0),(6,[47],2),(5,[48],4)]) (n:=60) (r:=[]) (by decide +kernel) (by kernel_rfl)
theorem Nw:dO LN (eM LN).1 (eM LN).2.1 [Me] 0 0:=.ok (u:=[(4,[116,114,117,101],0),(4,[111,114],5),(3,[120],8)]) (n:=60) (r:=[]) (by decide +kernel) (by kernel_rfl)
theorem Nv:dO LM (eM LM).1 (eM LM).2.1 [I6] 0 0:=.ok (u:=[(7,[123],0),(4,[108,101,116],2),(3,[102],6),(6,[61],8),(4,[102,117,110],10),(3,[110],14),(6,[45,62],16),(4,[105,102],19),(3,[110],22),(6,[60],24),(5,[50],26),(7,[123],28),(5,[49],30),(8,[125],32),(4,[101,108,115,101],34),(7,[123],39),(3,[110],41),(6,[42],43),(3,[102],45),(7,[40],46),(3,[110],47),(6,[45],49),(5,[49],51),(8,[41],52),(8,[125],54),(6,[59],55),(3,[102],57),(7,[40],58),(5,[53],59),(8,[41],60),(8,[125],62)]) (n:=100) (r:=[]) (by decide +kernel) (by kernel_rfl)
theorem Kg:dO LX (eM LX).1 (eM LX).2.1 [L6] 0 0:=.ok (u:=[(3,[97],0),(6,[43],2),(3,[98],4),(6,[45],6),(3,[98],8),(6,[61,61],10),(3,[97],13)]) (n:=60) (r:=[]) (by decide +kernel) (by kernel_rfl)
theorem Kf:dO LW (eM LW).1 (eM LW).2.1 [L5] 0 0:=.ok (u:=[(3,[97],0),(6,[45],2),(3,[98],4),(6,[43],6),(3,[98],8),(6,[61,61],10),(3,[97],13)]) (n:=60) (r:=[]) (by decide +kernel) (by kernel_rfl)
theorem LZ:dO LV (eM LV).1 (eM LV).2.1 [L4] 0 0:=.ok (u:=[(3,[97],0),(6,[47],2),(3,[98],4),(6,[42],6),(3,[98],8),(6,[43],10),(3,[97],12),(6,[37],14),(3,[98],16),(6,[61,61],18),(3,[97],21)]) (n:=60) (r:=[]) (by decide +kernel) (by kernel_rfl)
theorem ND:dO LU (eM LU).1 (eM LU).2.1 [L3] 0 0:=.ok (u:=[(7,[40],0),(3,[97],1),(6,[60],3),(3,[98],5),(8,[41],6),(4,[111,114],8),(3,[97],11),(6,[61,61],13),(3,[98],16),(4,[111,114],18),(3,[97],21),(6,[62],23),(3,[98],25)]) (n:=60) (r:=[]) (by decide +kernel) (by kernel_rfl)
theorem NC:dO LS (eM LS).1 (eM LS).2.1 [L2] 0 0:=.ok (u:=[(4,[110,111,116],0),(7,[40],4),(3,[97],5),(6,[60],7),(3,[98],9),(8,[41],10),(6,[61,61],12),(7,[40],15),(3,[97],16),(6,[62,61],18),(3,[98],21),(8,[41],22)]) (n:=60) (r:=[]) (by decide +kernel) (by kernel_rfl)
theorem NB:dO LR (eM LR).1 (eM LR).2.1 [L1] 0 0:=.ok (u:=[(3,[97],0),(6,[42],2),(3,[98],4),(6,[61,61],6),(3,[98],9),(6,[42],11),(3,[97],13)]) (n:=60) (r:=[]) (by decide +kernel) (by kernel_rfl)
theorem Nt:bE 2000 2000 [] Mg=(dP 7,0,1995):=by kernel_rfl
theorem Ns:bE 2000 2000 [] Mf=(dA true,0,1995):=by kernel_rfl
theorem Nr:bE 2000 2000 [] LY=(iJ,2,1997):=by kernel_rfl
theorem Nq:bE 2000 2000 [] Me=(dA true,0,1998):=by kernel_rfl
theorem Nf:(bE 2000 2000 [] I6).1=dP 120/\(bE 2000 2000 [] I6).2.1=0:=⟨by kernel_rfl,by kernel_rfl⟩
end Go.Proofs.YtmehdcdbeafljaaGreatDoor
namespace Go.Proofs.YtmehdcdbeafljaaGreatDoor
open Go.Proofs.Tryz
open Go Go.Lw
set_option maxRecDepth 20000
section
variable {h:aA}
theorem xT (hg:qG h) (n:Int) (hn : -9223372036854775808<=n/\n<=9223372036854775807) :
 ah Tryz.prog 45 #[.int .i64 n,.int .i64 10] h (cM fun r h'=>r= .string (bs (Lib.itoa n))/\aC h h'):=by
 refine ah.oZ fun w hw=>?_
 subst hw;refine(Tryz.strconv_FormatInt_10 n hn.1 hn.2 w hg).mono ?_;rintro e w' ⟨rfl,k,os,rfl⟩;refine⟨_,rfl,⟨rfl,?_⟩,rfl,rfl,rfl⟩;refine⟨by simp[Go.Sort.grow],fun b hb _=>?_⟩;simp[Go.Sort.grow,Array.getElem?_append_left hb]
theorem vv (b:Bool):ah Tryz.prog 46 #[.bool b] h (cM fun r h'=>r= .string (bs (Lib.formatBool b))/\h'=h) :=
 ah.rZ fun w=>Tryz.strconv_FormatBool b w
theorem qQ (hg:Eb h){O:Nat->Prop}{w:Value}{x:Vl}(hw:dz h O w x) (hk:x.kind=1) (hn : -9223372036854775808<=x.num/\x.num<=9223372036854775807) :
 ah Tryz.prog 25 #[w] h (cM fun r h'=>r= .string (bs (Lib.itoa x.num))/\aC h h'):=by
 obtain⟨nk,nt,a,n,c,ea,en,ec,rfl,hb,hR,he⟩:=dz.get hw;rw[hk];refine ah.of func25 rfl rfl ?_;refine xr func25 rfl ?_;refine xo rfl (az.eR rfl) ?_;rintro _ h1 ⟨rfl,k1,e1,z1⟩;have k1:bh h1 h.size 52 (kI 1 x.num x.iu x.self nk nt a n c ea en ec):=k1;refine aN 1 [0,1,2] rfl ?_;refine av rfl ?_;refine xr func25 rfl ?_;refine xp rfl (af (off:=0) underlying52 rfl rfl H.bV rfl) ?_;refine xp rfl (ai H.cK rfl (k1.cell (i:=0) rfl)) ?_;refine xd [0,1,2,4] rfl ?_;refine G.block rfl rfl ?_;refine bf func25 2 [0,1,2,4,5] rfl ?_;refine aJ rfl rfl (fun _=>?_) (fun hc=>absurd hc (by simp));refine xr func25 rfl ?_;refine xp rfl (af (off:=1) underlying52 rfl rfl H.Cb rfl) ?_;refine xp rfl (ai H.CL rfl (k1.cell (i:=1) rfl)) ?_;refine xo rfl (aq (vs:=[_,_]) func45 rfl H.MV rfl (ah.bq (xT ((hg.ax e1).ex.lx.tens) x.num hn))) ?_;rintro _ h2 ⟨rfl,e2⟩;refine aN 1 [0,1,2,4,5] rfl ?_;refine G.ret func25 rfl rfl ?_;exact⟨_,rfl,rfl,e1.trans e2⟩
theorem qP {O:Nat->Prop}{w:Value}{b:Bool}(hw:dz h O w (dA b)) :
 ah Tryz.prog 25 #[w] h (cM fun r h'=>r= .string (bs (Lib.formatBool b))/\aC h h'):=by
 obtain⟨nk,nt,a,n,c,ea,en,ec,rfl,hb,hR,he⟩:=dz.get hw;refine ah.of func25 rfl rfl ?_;refine xr func25 rfl ?_;refine xo rfl (az.eR rfl) ?_;rintro _ h1 ⟨rfl,k1,e1,z1⟩;have k1:bh h1 h.size 52 (kI 2 (if b then 1 else 0) [] [] nk nt a n c ea en ec):=k1;refine aN 1 [0,1,2] rfl ?_;refine av rfl ?_;refine xr func25 rfl ?_;refine xp rfl (af (off:=0) underlying52 rfl rfl H.bV rfl) ?_;refine xp rfl (ai H.cK rfl (k1.cell (i:=0) rfl)) ?_;refine xd [0,1,2,4] rfl ?_;refine G.block rfl rfl ?_;refine bf func25 2 [0,1,2,4,5] rfl ?_;refine aJ rfl rfl (fun hc=>absurd hc (by simp)) (fun _=>?_);refine bf func25 2 [0,1,2,4,5,10] rfl ?_;refine aJ rfl rfl (fun _=>?_) (fun hc=>absurd hc (by simp));refine xr func25 rfl ?_;refine xp rfl (af (off:=1) underlying52 rfl rfl H.Cb rfl) ?_;refine xp rfl (ai H.CL rfl (k1.cell (i:=1) rfl)) ?_;refine aV 1 rfl ?_;refine xo rfl (aq (vs:=[_]) func46 rfl H.MU rfl (ah.bq (vv _))) ?_;rintro _ _ ⟨rfl,rfl⟩;refine aN 1 [0,1,2,4,5,10] rfl ?_;refine G.ret func25 rfl rfl ?_;exact⟨_,rfl,by cases b<;>rfl,e1⟩
theorem jj (hg:Eb h){p:Value}(kx:nS h p) (s:By) (hs:s.length<=1000){x:Tr}(hP:dO s (eM s).1 (eM s).2.1 [x] 0 0) (hx:x.wt<=1000000) :
 ah Tryz.prog 35 #[p,.string (bs s)] h (cM fun r h'=>∃v,r=packed [v,.int .i64 (eJ [] x).2.1,.int .i64 (eJ [] x).2.2]/\dz h' (fun _=>False) v (eJ [] x).1/\aC h h'):=by
 have hlen:(eM s).1.length<=s.length:=uI _ _ _ _;have hb:(eM s).1.length*(s.length+2)<=1000000000000:=Nat.le_trans (Nat.mul_le_mul (Nat.le_trans hlen hs) (show s.length+2<=1002 by omega)) (by decide);refine ah.of func35 rfl rfl ?_;refine xr func35 rfl ?_;refine xo rfl (az.aQ H.gw) ?_;rintro _ h1 ⟨rfl,k4,e1,z1⟩;refine aN 2 [0,1,4,5,6] rfl ?_;refine bl func35 2 rfl ?_;refine xo rfl (aq (vs:=[_,_]) func15 rfl H.KM rfl (ah.bq (tI (hg.ax e1).ex.lx (kx.ax e1) s (by omega)))) ?_;rintro _ h2 ⟨⟨v,rfl,hv⟩,e2⟩;refine aV 3 rfl ?_;refine xo rfl (az.aQ H.yM) ?_;rintro _ h3 ⟨rfl,k3,e3,z3⟩;refine aV 1 rfl ?_;refine RW.bB rfl rfl rfl (az.au H.eu rfl rfl k3 (by first|rfl|(simp;done)|(simp;omega)) (by first|decide|exact of_decide_eq_true rfl|(simp;done)|(simp;omega)) (gC _)) ?_;rintro _ h4 ⟨rfl,k34,x4,z4⟩;have k34:bh h4 h2.size 41 (cC (eM s).2):=k34;have e24:aC h2 h4:=aC.only e3 x4 (Nat.le_refl _);have e04:=(e1.trans e2).trans e24;have hcall:=oL ((hg.ax e04).ex.esc) (hv.ax e24) s (eM s).2 hb (by omega) hP;refine xd [0,1,4,5,6,7,8] rfl ?_;refine bl func35 2 rfl ?_;refine xp rfl (aj.aE H.ij H.eu rfl k34.row (by first|rfl|(simp;done)|(simp;omega))) ?_;refine xo rfl (aq (vs:=[_,_,_]) func23 rfl H.Ky rfl (ah.bq (hcall))) ?_;rintro _ h5 ⟨e5,lv,rfl,s5⟩;have e15:=(e2.trans e24).trans e5;have e05:=e1.trans e15;obtain⟨la,ln,lc,rfl,hks⟩:=s5.open;have hkn:=hks.len;have hkn:1=ln:=hkn;subst hkn;have zz:=And.intro e1.size (And.intro e2.size (And.intro e24.size e5.size));obtain⟨b1,o1',xk,xt,xa,xn,xc,ha1,hb1,hr1,hk1⟩:=gE hks (i:=0) (by omega);refine aN 7 [0,1,4,5,6,7,8,9,11] rfl ?_;refine av rfl ?_;refine av rfl ?_;refine G.bw [(32,.bool false)] [(0,_),(1,_),(4,_),(5,_),(6,_),(7,_),(8,_),(9,_),(11,_)] ⟨rfl,rfl,rfl,rfl,rfl,rfl,rfl,rfl,rfl,trivial⟩ func35 rfl ?_ ?_
 · refine aV 3 rfl ?_;refine RW.cS (d:=28) (b':=false) rfl (decide_eq_false (by decide)) ?_;refine cI 1 rfl rfl (aj.aS underlying23 rfl) ?_;refine aV 2 rfl ?_;refine aD rfl ?_;exact⟨rfl,aF rfl (by simp),rfl,rfl,rfl,rfl,rfl,rfl,rfl,rfl,rfl,trivial⟩
 · refine aJ rfl rfl (fun hc=>absurd hc (by simp)) (fun _=>?_);have hE:=uY (O:=fun b=>b=h.size) (hg.ax e05) (bX.nil eB h5 _) (fun b q=>by omega) (vj.nil _) (hk1.mv (Mv.cY (Ext.refl (fun _=>False) _) fun b _ hn=>⟨fun q=>q,fun q=>hn (by omega)⟩)) hx;refine aB rfl ?_;refine bl func35 2 rfl ?_;refine xp rfl (aj.aS underlying23 rfl) ?_;refine xp rfl (aj.j9 rfl rfl ⟨by omega,by omega⟩) ?_;refine xp rfl (aj.aH underlying23 H.aY rfl rfl 0 rfl ha1 (by omega)) ?_;refine xp rfl (aj.aE H.bN H.aY rfl hr1 (by first|rfl|(simp;done)|(simp;omega))) ?_;refine xo rfl (aq (vs:=[_,_]) func17 rfl H.KI rfl (ah.bq (hE))) ?_;rintro _ h6 ⟨v6,rfl,hv6,e6⟩;obtain⟨nk',nt',ya,yn,yc,ea',en',ec',rfl,_,hR6,_⟩:=dz.get hv6;have z6:=e6.size;refine aV 3 rfl ?_;refine RW.bB rfl rfl rfl (az.au H.aW rfl rfl ((k4.ax e15).ax e6) (by first|rfl|(simp;done)|(simp;omega)) (by first|decide|exact of_decide_eq_true rfl|(simp;done)|(simp;omega)) (gm)) ?_;rintro _ h7 ⟨rfl,k7,x7,z7⟩;refine aN 2 [0,1,4,5,6,7,8,9,11,32] rfl ?_;refine G.br func35 rfl (.cons (aI.bp H.bR H.aW rfl (k7.row) (by first|rfl|(simp;done)|(simp;omega))) (.cons (aI.tmp rfl) (.cons (aI.tmp rfl) (.nil)))) ?_;exact⟨_,rfl,_,rfl,dz.of (eV.mv hR6 (cX (fun _ q=>q.elim) rfl x7)),aC.only (e05.trans e6) x7 (by omega)⟩
theorem FU {n:Tr}{env:List Bd}{v:Vl}{m:Nat}(hv:cU cN n=true) (h:bE 2000 2000 env n=(v,0,m)):eJ env n=(v,2000-(m:Int),0):=by
 unfold eJ;rw[if_pos hv,h];rfl
theorem NP:eJ [] Mg=(dP 7,5,0):=FU (by decide +kernel) Nt
theorem NO:eJ [] Mf=(dA true,5,0):=FU (by decide +kernel) Ns
theorem NN:eJ [] LY=(iJ,3,2):=by
 unfold eJ;rw[if_pos (by decide +kernel:cU cN LY=true),Nr];rfl
theorem NM:eJ [] Me=(dA true,2,0):=FU (by decide +kernel) Nq
theorem NL:(eJ [] I6).1=dP 120/\(eJ [] I6).2.2=0:=by
 unfold eJ;rw[if_pos (by decide +kernel:cU cN I6=true),Nf.2,if_pos rfl,Nf.1];exact⟨rfl,rfl⟩
theorem sP (hg:Eb h):ah Tryz.prog 16 #[] h (cM fun r h'=>r= .bool true/\aC h h'):=by
 obtain⟨lim,hl1,hl2⟩:=hg.ex.lx.sg;refine ah.of func16 rfl rfl ?_;refine bf func16 1 [0] rfl ?_;refine xr func16 rfl ?_;refine xo rfl (aq (vs:=[]) func10 rfl H.K5 rfl (ah.bq (vW hl2 hl1 hg.ex.lx.tens hg.ex.lx.rules))) ?_;rintro p g0 ⟨kx,e0⟩;have c1:=jj (hg.ax e0) kx LQ (by decide) NA (by decide +kernel);rw[NP] at c1;refine aN 1 [0,1] rfl ?_;refine bl func16 1 rfl ?_;refine xo rfl (aq (vs:=[_,_]) func35 rfl H.Fa rfl (ah.bq (c1))) ?_;rintro _ g1a ⟨v1,rfl,hv1,x1⟩;obtain⟨nk1,nt1,a1,n1,m1,ea1,en1,ec1,rfl,_,hR1,_⟩:=dz.get hv1;refine aV 4 rfl ?_;refine xo rfl (az.aQ H.gw) ?_;rintro _ g1b ⟨rfl,k1,y1,z1⟩;refine RW.bB rfl rfl rfl (az.au H.aW rfl rfl k1 (by first|rfl|(simp;done)|(simp;omega)) (by first|decide|exact of_decide_eq_true rfl|(simp;done)|(simp;omega)) (gm)) ?_;rintro _ g1 ⟨rfl,kk1,w1,zz1⟩;have kk1:bh g1 g1a.size 52 (kI 1 7 [] [] nk1 nt1 a1 n1 m1 ea1 en1 ec1):=kk1;have d1:aC g1a g1:=aC.only y1 w1 (Nat.le_refl _);have F1:=x1.trans d1;have E1:=e0.trans F1;have c2:=jj (hg.ax E1) (kx.ax F1) LP (by decide) Nz (by decide +kernel);rw[NO] at c2;refine aN 2 [0,1,2,3,4] rfl ?_;refine bl func16 1 rfl ?_;refine xo rfl (aq (vs:=[_,_]) func35 rfl H.Fa rfl (ah.bq (c2))) ?_;rintro _ g2a ⟨v2,rfl,hv2,x2⟩;obtain⟨nk2,nt2,a2,n2,m2,ea2,en2,ec2,rfl,_,hR2,_⟩:=dz.get hv2;refine aV 4 rfl ?_;refine xo rfl (az.aQ H.gw) ?_;rintro _ g2b ⟨rfl,k2,y2,z2⟩;refine RW.bB rfl rfl rfl (az.au H.aW rfl rfl k2 (by first|rfl|(simp;done)|(simp;omega)) (by first|decide|exact of_decide_eq_true rfl|(simp;done)|(simp;omega)) (gm)) ?_;rintro _ g2 ⟨rfl,kk2,w2,zz2⟩;have kk2:bh g2 g2a.size 52 (kI 2 1 [] [] nk2 nt2 a2 n2 m2 ea2 en2 ec2):=kk2;have d2:aC g2a g2:=aC.only y2 w2 (Nat.le_refl _);have F2:=F1.trans (x2.trans d2);have E2:=e0.trans F2;have kk1:=kk1.ax (x2.trans d2);have c3:=jj (hg.ax E2) (kx.ax F2) LO (by decide) Ny (by decide +kernel);rw[NN] at c3;refine aN 2 [0,1,2,3,4,5,7] rfl ?_;refine bl func16 1 rfl ?_;refine xo rfl (aq (vs:=[_,_]) func35 rfl H.Fa rfl (ah.bq (c3))) ?_;rintro _ g3a ⟨v3,rfl,hv3,x3⟩;obtain⟨nk3,nt3,a3,n3,m3,ea3,en3,ec3,rfl,_,hR3,_⟩:=dz.get hv3;refine aV 4 rfl ?_;refine xo rfl (az.aQ H.gw) ?_;rintro _ g3b ⟨rfl,k3,y3,z3⟩;refine RW.bB rfl rfl rfl (az.au H.aW rfl rfl k3 (by first|rfl|(simp;done)|(simp;omega)) (by first|decide|exact of_decide_eq_true rfl|(simp;done)|(simp;omega)) (gm)) ?_;rintro _ g3 ⟨rfl,kk3,w3,zz3⟩;have kk3:bh g3 g3a.size 52 (kI 0 0 [] [] nk3 nt3 a3 n3 m3 ea3 en3 ec3):=kk3;have d3:aC g3a g3:=aC.only y3 w3 (Nat.le_refl _);have F3:=F2.trans (x3.trans d3);have E3:=e0.trans F3;have kk1:=kk1.ax (x3.trans d3);have kk2:=kk2.ax (x3.trans d3);have c4:=jj (hg.ax E3) (kx.ax F3) LN (by decide) Nw (by decide +kernel);rw[NM] at c4;refine aN 2 [0,1,2,3,4,5,7,10] rfl ?_;refine bl func16 1 rfl ?_;refine xo rfl (aq (vs:=[_,_]) func35 rfl H.Fa rfl (ah.bq (c4))) ?_;rintro _ g4a ⟨v4,rfl,hv4,x4⟩;obtain⟨nk4,nt4,a4,n4,m4,ea4,en4,ec4,rfl,_,hR4,_⟩:=dz.get hv4;refine aV 4 rfl ?_;refine xo rfl (az.aQ H.gw) ?_;rintro _ g4b ⟨rfl,k4,y4,z4⟩;refine RW.bB rfl rfl rfl (az.au H.aW rfl rfl k4 (by first|rfl|(simp;done)|(simp;omega)) (by first|decide|exact of_decide_eq_true rfl|(simp;done)|(simp;omega)) (gm)) ?_;rintro _ g4 ⟨rfl,kk4,w4,zz4⟩;have kk4:bh g4 g4a.size 52 (kI 2 1 [] [] nk4 nt4 a4 n4 m4 ea4 en4 ec4):=kk4;have d4:aC g4a g4:=aC.only y4 w4 (Nat.le_refl _);have F4:=F3.trans (x4.trans d4);have E4:=e0.trans F4;have kk1:=kk1.ax (x4.trans d4);have kk2:=kk2.ax (x4.trans d4);have kk3:=kk3.ax (x4.trans d4);have c5:=jj (hg.ax E4) (kx.ax F4) LM (by decide) Nv (by decide +kernel);have q5:=NL;generalize eJ [] I6=o5 at c5 q5;obtain⟨w5,s5,r5⟩:=o5;obtain⟨rfl,rfl⟩:w5=dP 120/\r5=0:=q5;dsimp only at c5;refine aN 2 [0,1,2,3,4,5,7,10,11,13] rfl ?_;refine bl func16 1 rfl ?_;refine xo rfl (aq (vs:=[_,_]) func35 rfl H.Fa rfl (ah.bq (c5))) ?_;rintro _ g5a ⟨v5,rfl,hv5,x5⟩;obtain⟨nk5,nt5,a5,n5,m5,ea5,en5,ec5,rfl,_,hR5,_⟩:=dz.get hv5;refine aV 4 rfl ?_;refine xo rfl (az.aQ H.gw) ?_;rintro _ g5b ⟨rfl,k5,y5,z5⟩;refine RW.bB rfl rfl rfl (az.au H.aW rfl rfl k5 (by first|rfl|(simp;done)|(simp;omega)) (by first|decide|exact of_decide_eq_true rfl|(simp;done)|(simp;omega)) (gm)) ?_;rintro _ g5 ⟨rfl,kk5,w5,zz5⟩;have kk5:bh g5 g5a.size 52 (kI 1 120 [] [] nk5 nt5 a5 n5 m5 ea5 en5 ec5):=kk5;have d5:aC g5a g5:=aC.only y5 w5 (Nat.le_refl _);have F5:=F4.trans (x5.trans d5);have E5:=e0.trans F5;have kk1:=kk1.ax (x5.trans d5);have kk2:=kk2.ax (x5.trans d5);have kk3:=kk3.ax (x5.trans d5);have kk4:=kk4.ax (x5.trans d5);have hg5:=hg.ax E5;have s1:=qQ (x:=dP 7) hg5 (dz.of (eV.mv hR1 (Mv.ax ((((d1.trans (x2.trans d2)).trans (x3.trans d3)).trans (x4.trans d4)).trans (x5.trans d5))))) rfl (by decide);have s2:∀{g:aA},aC g5 g->_:=fun {g} e=>qP (b:=true) (dz.of (eV.mv (eV.mv hR2 (Mv.ax (((d2.trans (x3.trans d3)).trans (x4.trans d4)).trans (x5.trans d5)))) (Mv.ax e)))
 have s4:∀{g:aA},aC g5 g->_:=fun {g} e=>qP (b:=true) (dz.of (eV.mv (eV.mv hR4 (Mv.ax (d4.trans (x5.trans d5)))) (Mv.ax e)))
 have s5':∀{g:aA},aC g5 g->_:=fun {g} e=>qQ (x:=dP 120) (hg5.ax e) (dz.of (eV.mv (eV.mv hR5 (Mv.ax d5)) (Mv.ax e))) rfl (by decide)
 refine aN 2 [0,1,2,3,4,5,7,10,11,13,14,16] rfl ?_;refine av rfl ?_;refine G.xm (fun(u:Unit) (h':aA)=>aC g5 h') (fun(u:Unit)=>[(0,.bool true)]) [(1,_),(2,_),(3,_),(4,_),(5,_),(7,_),(10,_),(11,_),(13,_),(14,_),(16,_)] ⟨rfl,rfl,rfl,rfl,rfl,rfl,rfl,rfl,rfl,rfl,rfl,trivial⟩ func16 rfl ?_ ?_
 · refine aV 3 rfl ?_;refine RW.cS (d:=50) (b':=true) rfl (decide_eq_true (by rfl)) ?_;refine xp rfl (aj.aE H.bR H.aW rfl kk1.row (by first|rfl|(simp;done)|(simp;omega))) ?_;refine xo rfl (aq (vs:=[_]) func25 rfl H.GU rfl (ah.bq (s1))) ?_;rintro _ j1 ⟨rfl,f1⟩;refine xp rfl (aj.bS rfl rfl) ?_;refine aV 2 rfl ?_;refine RW.cS (d:=55) (b':=true) rfl (decide_eq_true (by decide +kernel)) ?_;refine aV 4 rfl ?_;refine RW.cS (d:=59) (b':=true) rfl (decide_eq_true (by rfl)) ?_;refine aV 4 rfl ?_;refine RW.cS (d:=63) (b':=true) rfl (decide_eq_true (by rfl)) ?_;refine xp rfl (aj.aE H.bR H.aW rfl (kk2.ax f1).row (by first|rfl|(simp;done)|(simp;omega))) ?_;refine xo rfl (aq (vs:=[_]) func25 rfl H.GU rfl (ah.bq ((s2 f1)))) ?_;rintro _ j2 ⟨rfl,f2⟩;have f12:=f1.trans f2;refine xp rfl (aj.bS rfl rfl) ?_;refine aV 2 rfl ?_;refine RW.cS (d:=68) (b':=true) rfl (decide_eq_true (by decide +kernel)) ?_;refine aV 4 rfl ?_;refine RW.cS (d:=72) (b':=true) rfl (decide_eq_true (by rfl)) ?_;refine aV 4 rfl ?_;refine RW.cS (d:=76) (b':=true) rfl (decide_eq_true (by rfl)) ?_;refine xp rfl (aj.aE H.bR H.aW rfl (kk4.ax f12).row (by first|rfl|(simp;done)|(simp;omega))) ?_;refine xo rfl (aq (vs:=[_]) func25 rfl H.GU rfl (ah.bq ((s4 f12)))) ?_;rintro _ j3 ⟨rfl,f3⟩;have f13:=f12.trans f3;refine xp rfl (aj.bS rfl rfl) ?_;refine aV 2 rfl ?_;refine RW.cS (d:=81) (b':=true) rfl (decide_eq_true (by decide +kernel)) ?_;refine aV 4 rfl ?_;refine RW.cS (d:=85) (b':=true) rfl (decide_eq_true (by rfl)) ?_;refine xp rfl (aj.aE H.bR H.aW rfl (kk5.ax f13).row (by first|rfl|(simp;done)|(simp;omega))) ?_;refine xo rfl (aq (vs:=[_]) func25 rfl H.GU rfl (ah.bq ((s5' f13)))) ?_;rintro _ j4 ⟨rfl,f4⟩;refine xp rfl (aj.bS rfl rfl) ?_;refine aV 2 rfl ?_;refine aD rfl ?_;exact⟨(),(f13.trans f4),aF rfl (by decide +kernel),rfl,rfl,rfl,rfl,rfl,rfl,rfl,rfl,rfl,rfl,rfl,trivial⟩
 · rintro u h' e';refine G.ret func16 rfl rfl ?_;exact⟨_,rfl,rfl,E5.trans e'⟩
end
end Go.Proofs.YtmehdcdbeafljaaGreatDoor
namespace Go.Proofs.YtmehdcdbeafljaaGreatDoor
open Go Go.Lw
set_option maxRecDepth 100000
section
variable {a b:Int}{c:Prop}{env:List Bd}{Q:Vl->Prop}{op:By}{x y:Tr}{kx ky:Nat}{q:Bool}
theorem ia (n:Int):(∃k:Int,wrap64 n=n+k*18446744073709551616)/\ -9223372036854775808<=wrap64 n/\wrap64 n<=9223372036854775807:=by
 have h64:(2:Int) ^ 64=18446744073709551616:=rfl;have h63:(2:Int) ^ (64-1)=9223372036854775808:=rfl;unfold wrap64;simp only[IntKind.wrap,IntKind.bits,IntKind.signed,h64,h63,Bool.true_and,decide_eq_true_eq];have h:=Int.emod_add_mul_ediv n 18446744073709551616;split
 · exact⟨⟨-(n / 18446744073709551616)-1,by omega⟩,by omega,by omega⟩
 · exact⟨⟨-(n / 18446744073709551616),by omega⟩,by omega,by omega⟩
theorem qe {n:Int}(ha : -9223372036854775808<=a/\a<=9223372036854775807) (h:∃k:Int,n=a+k*18446744073709551616):wrap64 n=a:=by
 obtain⟨⟨j,hj⟩,h1,h2⟩:=ia n;obtain⟨k,hk⟩:=h;omega
def gr (c:Prop) (env:List Bd) (n:Tr) (k:Nat) (Q:Vl->Prop):Prop:=∀d m,k<=m->m<=d ->
 ((bE d m env n).2.1=0/\Q (bE d m env n).1\/c/\(bE d m env n).2.1=2)/\m<=(bE d m env n).2.2+k/\(bE d m env n).2.2<=m
theorem gr.name {t:By}{v:Vl}(h:fo t env=(v,0)) (hq:Q v):gr c env (.mk 3 t []) 1 Q:=fun d m hk hd=>by
 obtain⟨d,rfl⟩:∃x,d=x+1:=⟨d-1,by omega⟩
 obtain⟨m,rfl⟩:∃x,m=x+1:=⟨m-1,by omega⟩
 have:bE (d+1) (m+1) env (.mk 3 t [])=(v,0,m):=by
  show ((fo t env).1,(fo t env).2,m)=_
  rw[h]
 rw[this];exact⟨.inl ⟨rfl,hq⟩,Nat.le_refl _,Nat.le_succ _⟩
theorem yI {Qx Qy:Vl->Prop}(hop:¬(op=oJ\/op=jI)) (hx:gr c env x kx Qx) (hy:gr c env y ky Qy)
 (h:∀v w,Qx v->Qy w->(uz op v w).2=0/\Q (uz op v w).1\/c/\(uz op v w).2=2):gr c env (bi op x y) (kx+ky+1) Q:=fun d m hk hd=>by
 obtain⟨d,rfl⟩:∃x,d=x+1:=⟨d-1,by omega⟩
 obtain⟨m,rfl⟩:∃x,m=x+1:=⟨m-1,by omega⟩
 have e:bE (d+1) (m+1) env (bi op x y)=yZ (bE d) m env op [x,y]:=rfl;rw[e];unfold yZ;have h1:=hx d m (by omega) (by omega);rw[show ([x,y]:List Tr).getD 0 cP=x from rfl,show ([x,y]:List Tr).getD 1 cP=y from rfl];generalize bE d m env x=o at h1;obtain⟨v,e1,m1⟩:=o;dsimp only at h1 ⊢;obtain⟨h1,h2,h3⟩:=h1
 rcases h1 with ⟨rfl,hv⟩|⟨hc,rfl⟩
 · rw[if_neg (by simp),if_neg hop];have k1:=hy d m1 (by omega) (by omega);generalize bE d m1 env y=o at k1;obtain⟨w,e2,m2⟩:=o;dsimp only at k1 ⊢;obtain⟨k1,k2,k3⟩:=k1
   rcases k1 with ⟨rfl,hw⟩|⟨hc,rfl⟩
   · rw[if_neg (by simp)];exact⟨h v w hv hw,by dsimp only;omega,by dsimp only;omega⟩
   · rw[if_pos (by decide)];exact⟨.inr ⟨hc,rfl⟩,by dsimp only;omega,by dsimp only;omega⟩
 · rw[if_pos (by decide)];exact⟨.inr ⟨hc,rfl⟩,by dsimp only;omega,by dsimp only;omega⟩
theorem gr.Nh {p:Bool}(hx:gr c env x kx (· =dA p)) (hy:gr c env y ky (· =dA q)):gr c env (bi oJ x y) (kx+ky+1) (· =dA (p ||q)):=fun d m hk hd=>by
 obtain⟨d,rfl⟩:∃x,d=x+1:=⟨d-1,by omega⟩
 obtain⟨m,rfl⟩:∃x,m=x+1:=⟨m-1,by omega⟩
 have e:bE (d+1) (m+1) env (bi oJ x y)=yZ (bE d) m env oJ [x,y]:=rfl;rw[e];unfold yZ;have h1:=hx d m (by omega) (by omega);rw[show ([x,y]:List Tr).getD 0 cP=x from rfl,show ([x,y]:List Tr).getD 1 cP=y from rfl];generalize bE d m env x=o at h1;obtain⟨v,e1,m1⟩:=o;dsimp only at h1 ⊢;obtain⟨h1,h2,h3⟩:=h1
 rcases h1 with ⟨rfl,rfl⟩|⟨hc,rfl⟩
 · rw[if_neg (by simp),if_pos (.inl rfl),if_neg (fun h=>h rfl)];cases p with
   |true=>exact⟨.inl ⟨rfl,rfl⟩,by show m+1<=m1+_;omega,by show m1<=_;omega⟩
   |false =>
    rw[if_neg (by decide)];have k1:=hy d m1 (by omega) (by omega);generalize bE d m1 env y=o at k1;obtain⟨w,e2,m2⟩:=o;dsimp only at k1 ⊢;obtain⟨k1,k2,k3⟩:=k1
    rcases k1 with ⟨rfl,rfl⟩|⟨hc,rfl⟩
    · rw[if_neg (fun h=>h.2 rfl)];exact⟨.inl ⟨rfl,rfl⟩,by dsimp only;omega,by dsimp only;omega⟩
    · rw[if_neg (fun h=>by cases h.1)];exact⟨.inr ⟨hc,rfl⟩,by dsimp only;omega,by dsimp only;omega⟩
 · rw[if_pos (by decide)];exact⟨.inr ⟨hc,rfl⟩,by dsimp only;omega,by dsimp only;omega⟩
abbrev nw (a b:Int):List Bd:=[([97],dP a),([98],dP b)]
def K9 (a:Int):Prop:= -9223372036854775808<=a/\a<=9223372036854775807
theorem CJ (op:By) (a b:Int):uz op (dP a) (dP b)=bI op a b:=by
 unfold uz;rw[if_neg (fun h=>h.elim (fun h=>h rfl) (fun h=>by cases h)),if_pos (show (dP a).kind=1 from rfl)];rfl
theorem NK (a b:Int):gr c (nw a b) na 1 (· =dP a):=gr.name (by unfold fo fo fo;rfl) rfl
theorem NJ (a b:Int):gr c (nw a b) nb 1 (· =dP b):=gr.name (by unfold fo fo fo;rfl) rfl
theorem yD (a b:Int):(bI [43] a b).2=0/\(bI [43] a b).1=dP (wrap64 (a+b))\/(bI [43] a b).2=2:=by
 unfold bI;rw[if_pos rfl];dsimp only;split
 · exact .inl ⟨rfl,rfl⟩
 · exact .inr rfl
theorem Cc (a b:Int):(bI [45] a b).2=0/\(bI [45] a b).1=dP (wrap64 (a-b))\/(bI [45] a b).2=2:=by
 unfold bI;rw[if_neg (by decide),if_pos rfl];dsimp only;split
 · exact .inl ⟨rfl,rfl⟩
 · exact .inr rfl
theorem xC (a b:Int):(bI [42] a b).2=0/\(bI [42] a b).1=dP (wrap64 (a*b))\/(bI [42] a b).2=2:=by
 unfold bI;rw[if_neg (by decide),if_neg (by decide),if_pos rfl];dsimp only;split
 · exact .inl ⟨rfl,rfl⟩
 · exact .inr rfl
theorem GM (a b:Int):(bI [47] a b).2=0/\((bI [47] a b).1=dP (wrap64 (a.tdiv b)))\/(bI [47] a b).2=2:=by
 unfold bI;rw[if_neg (by decide),if_neg (by decide),if_neg (by decide),if_pos (.inl rfl)];split
 · exact .inr rfl
 · rw[if_neg (by decide)];exact .inl ⟨rfl,rfl⟩
theorem GL (a b:Int):(bI [37] a b).2=0/\((bI [37] a b).1=dP (a.tmod b))\/(bI [37] a b).2=2:=by
 unfold bI;rw[if_neg (by decide),if_neg (by decide),if_neg (by decide),if_pos (.inr rfl)];split
 · exact .inr rfl
 · rw[if_pos rfl];exact .inl ⟨rfl,rfl⟩
theorem pO (a b:Int):bI [61,61] a b=(dA (decide (a=b)),0):=by
 unfold bI iy;rw[if_neg (by decide),if_neg (by decide),if_neg (by decide),if_neg (by decide),if_pos rfl]
 congr 2
 simp only[decide_eq_decide];split
 · constructor<;>intro h<;>omega
 · split<;>constructor<;>intro h<;>omega
theorem Cs (a b:Int):bI [60] a b=(dA (decide (a<b)),0):=by
 unfold bI iy;rw[if_neg (by decide),if_neg (by decide),if_neg (by decide),if_neg (by decide),if_neg (by decide),if_neg (by decide),if_pos rfl]
 congr 2
 simp only[decide_eq_decide];split
 · constructor<;>intro h<;>omega
 · split<;>constructor<;>intro h<;>omega
theorem Hf (a b:Int):bI [62] a b=(dA (decide (b<a)),0):=by
 unfold bI iy;rw[if_neg (by decide),if_neg (by decide),if_neg (by decide),if_neg (by decide),if_neg (by decide),if_neg (by decide),if_neg (by decide),if_neg (by decide),if_pos rfl]
 congr 2
 simp only[decide_eq_decide];split
 · constructor<;>intro h<;>omega
 · split<;>constructor<;>intro h<;>omega
theorem Hg (a b:Int):bI [62,61] a b=(dA (decide (b<=a)),0):=by
 unfold bI iy;rw[if_neg (by decide),if_neg (by decide),if_neg (by decide),if_neg (by decide),if_neg (by decide),if_neg (by decide),if_neg (by decide),if_neg (by decide),if_neg (by decide),if_pos rfl]
 congr 2
 simp only[decide_eq_decide];split
 · constructor<;>intro h<;>omega
 · split<;>constructor<;>intro h<;>omega
theorem gr.nY {Px Py Q:Int->Prop}(hop:¬(op=oJ\/op=jI)) (hx:gr True env x kx (fun v=>∃a,v=dP a/\Px a)) (hy:gr True env y ky (fun v=>∃a,v=dP a/\Py a))
 (h:∀a b,Px a->Py b->(bI op a b).2=0/\(∃c,(bI op a b).1=dP c/\Q c)\/(bI op a b).2=2):gr True env (bi op x y) (kx+ky+1) (fun v=>∃a,v=dP a/\Q a) :=
 yI hop hx hy fun v w ⟨a,e1,p1⟩ ⟨b,e2,p2⟩=>by subst e1 e2;rw[CJ];exact(h a b p1 p2).imp id fun q=>⟨trivial,q⟩
theorem gr.yl {Px Py:Int->Prop}(hop:¬(op=oJ\/op=jI)) (hx:gr c env x kx (fun v=>∃a,v=dP a/\Px a)) (hy:gr c env y ky (fun v=>∃a,v=dP a/\Py a))
 (h:∀a b,Px a->Py b->bI op a b=(dA q,0)):gr c env (bi op x y) (kx+ky+1) (· =dA q) :=
 yI hop hx hy fun v w ⟨a,e1,p1⟩ ⟨b,e2,p2⟩=>by subst e1 e2;rw[CJ,h a b p1 p2];exact .inl ⟨rfl,rfl⟩
theorem gr.mono {n:Tr}{k:Nat}{Q':Vl->Prop}(h:gr c env n k Q) (hq:∀v,Q v->Q' v):gr c env n k Q':=fun d m hk hd=>⟨(h d m hk hd).1.imp (fun h=>⟨h.1,hq _ h.2⟩) id,(h d m hk hd).2⟩
theorem pL (a b:Int):gr c (nw a b) na 1 (fun v=>∃x,v=dP x/\x=a):=(NK a b).mono fun _ h=>⟨a,h,rfl⟩
theorem pK (a b:Int):gr c (nw a b) nb 1 (fun v=>∃x,v=dP x/\x=b):=(NJ a b).mono fun _ h=>⟨b,h,rfl⟩
theorem jL {c:Int}{Q:Int->Prop}(h:(bI op a b).2=0/\(bI op a b).1=dP c\/(bI op a b).2=2) (hq:Q c):(bI op a b).2=0/\(∃c,(bI op a b).1=dP c/\Q c)\/(bI op a b).2=2:=h.imp (fun h=>⟨h.1,c,h.2,hq⟩) id
theorem J1 (ha:K9 a):gr True (nw a b) L6 7 (· =dA true) :=
 gr.yl (Px:=(· =a)) (by decide) (gr.nY (Px:=fun x=>x=wrap64 (a+b)) (by decide) (gr.nY (by decide) (pL a b) (pK a b) fun x y hx hy=>by subst hx hy;exact jL (yD _ _) rfl) (pK a b)
  fun x y hx hy=>by
   subst hx hy;refine jL (Cc _ _) (qe ha ?_);obtain⟨⟨k,hk⟩,_⟩:=ia (a+y);exact⟨k,by omega⟩) (pL a b) fun x y hx hy=>by rw[pO,hx,hy];simp
theorem J0 (ha:K9 a):gr True (nw a b) L5 7 (· =dA true) :=
 gr.yl (Px:=(· =a)) (by decide) (gr.nY (Px:=fun x=>x=wrap64 (a-b)) (by decide) (gr.nY (by decide) (pL a b) (pK a b) fun x y hx hy=>by subst hx hy;exact jL (Cc _ _) rfl) (pK a b)
  fun x y hx hy=>by
   subst hx hy;refine jL (yD _ _) (qe ha ?_);obtain⟨⟨k,hk⟩,_⟩:=ia (a-y);exact⟨k,by omega⟩) (pL a b) fun x y hx hy=>by rw[pO,hx,hy];simp
theorem JZ (ha:K9 a):gr True (nw a b) L4 11 (· =dA true) :=
 gr.yl (Px:=(· =a)) (by decide) (gr.nY (Px:=fun x=>x=wrap64 (wrap64 (a.tdiv b)*b)) (Py:=fun x=>x=a.tmod b) (by decide)
  (gr.nY (Px:=fun x=>x=wrap64 (a.tdiv b)) (by decide) (gr.nY (by decide) (pL a b) (pK a b) fun x y hx hy=>by subst hx hy;exact jL (GM _ _) rfl) (pK a b) fun x y hx hy=>by subst hx hy;exact jL (xC _ _) rfl)
  (gr.nY (by decide) (pL a b) (pK a b) fun x y hx hy=>by subst hx hy;exact jL (GL _ _) rfl)
  fun x y hx hy=>by
   subst hx hy;refine jL (yD _ _) (qe ha ?_);obtain⟨⟨k,hk⟩,_⟩:=ia (wrap64 (a.tdiv b)*b);obtain⟨⟨j,hj⟩,_⟩:=ia (a.tdiv b);have hm:wrap64 (a.tdiv b)*b=a.tdiv b*b+j*b*18446744073709551616:=by rw[hj,Int.add_mul,Int.mul_right_comm]
   have:=Int.mul_tdiv_add_tmod a b;rw[Int.mul_comm] at this;exact⟨k+j*b,by omega⟩) (pL a b) fun x y hx hy=>by rw[pO,hx,hy];simp
theorem JY (c:Prop) (a b:Int):gr c (nw a b) L3 11 (· =dA true):=by
 have h:=gr.Nh (c:=c) (gr.Nh (gr.yl (op:=[60]) (q:=decide (a<b)) (by decide) (pL a b) (pK a b) fun x y hx hy=>by rw[Cs,hx,hy]) (gr.yl (op:=[61,61]) (q:=decide (a=b)) (by decide) (pL a b) (pK a b) fun x y hx hy=>by rw[pO,hx,hy]))
  (gr.yl (op:=[62]) (q:=decide (b<a)) (by decide) (pL a b) (pK a b) fun x y hx hy=>by rw[Hf,hx,hy])
 refine h.mono fun v hv=>?_
 rw[hv]
 congr 1
 simp only[Bool.or_eq_true,decide_eq_true_eq];omega
theorem gr.Mu {k:Nat}(hx:gr c env x k (· =dA q)):gr c env (.mk 4 lQ [x]) (k+1) (· =dA (!q)):=fun d m hk hd=>by
 obtain⟨d,rfl⟩:∃x,d=x+1:=⟨d-1,by omega⟩
 obtain⟨m,rfl⟩:∃x,m=x+1:=⟨m-1,by omega⟩
 have e:bE (d+1) (m+1) env (.mk 4 lQ [x])=En (bE d) m env lQ [x]:=rfl;rw[e];unfold En;have h1:=hx d m (by omega) (by omega);rw[show ([x]:List Tr).getD 0 cP=x from rfl];generalize bE d m env x=o at h1;obtain⟨v,e1,m1⟩:=o;dsimp only at h1 ⊢;obtain⟨h1,h2,h3⟩:=h1
 rcases h1 with ⟨rfl,rfl⟩|⟨hc,rfl⟩
 · rw[if_neg (by simp)];cases q<;>exact⟨.inl ⟨rfl,rfl⟩,by dsimp only;omega,by dsimp only;omega⟩
 · rw[if_pos (by decide)];exact⟨.inr ⟨hc,rfl⟩,by dsimp only;omega,by dsimp only;omega⟩
theorem Hv (p q:Bool):uz [61,61] (dA p) (dA q)=(dA (p ==q),0):=by cases p<;>cases q<;>rfl
theorem JX (c:Prop) (a b:Int):gr c (nw a b) L2 8 (· =dA true):=by
 have h:=gr.Mu (c:=c) (yI (op:=[61,61]) (Q:=(· =dA (decide (a<b) ==decide (b<=a)))) (by decide) (gr.yl (op:=[60]) (q:=decide (a<b)) (by decide) (pL a b) (pK a b) fun x y hx hy=>by rw[Cs,hx,hy])
  (gr.yl (op:=[62,61]) (q:=decide (b<=a)) (by decide) (pL a b) (pK a b) fun x y hx hy=>by rw[Hg,hx,hy]) fun v w hv hw=>by subst hv hw;rw[Hv];exact .inl ⟨rfl,rfl⟩)
 refine h.mono fun v hv=>?_
 rw[hv]
 congr 1
 by_cases q:a<b
 · rw[decide_eq_true q,decide_eq_false (show ¬b<=a by omega)];rfl
 · rw[decide_eq_false q,decide_eq_true (show b<=a by omega)];rfl
theorem JW (a b:Int):gr True (nw a b) L1 7 (· =dA true) :=
 gr.yl (Px:=(· =wrap64 (a*b))) (Py:=(· =wrap64 (b*a))) (by decide) (gr.nY (by decide) (pL a b) (pK a b) fun x y hx hy=>by subst hx hy;exact jL (xC _ _) rfl)
  (gr.nY (by decide) (pK a b) (pL a b) fun x y hx hy=>by subst hx hy;exact jL (xC _ _) rfl) fun x y hx hy=>by rw[pO,hx,hy,Int.mul_comm];simp
end
end Go.Proofs.YtmehdcdbeafljaaGreatDoor
namespace Go.Proofs.YtmehdcdbeafljaaGreatDoor
open Go.Proofs.Tryz
open Go Go.Lw
set_option maxRecDepth 20000
def Er:List By:=[LX,LW,LV,LU,LS,LR]
def IA:List Tr:=[L6,L5,L4,L3,L2,L1]
theorem BB:∀i,i<6->dO (Er.getD i []) (eM (Er.getD i [])).1 (eM (Er.getD i [])).2.1 [IA.getD i cP] 0 0
 | 0,_=>Kg
 | 1,_=>Kf
 | 2,_=>LZ
 | 3,_=>ND
 | 4,_=>NC
 | 5,_=>NB
theorem wq:(Er.all fun s=>decide (s.length<=1000))=true/\(IA.all fun n=>decide (n.wt<=1000000))=true:=by decide +kernel
theorem qu {c:Prop}{n:Tr}{k:Nat}{env:List Bd}(hv:cU cN n=true) (h:gr c env n k (· =dA true)) (hk:k<=2000) :
 ((eJ env n).2.2=0/\(eJ env n).1=dA true)\/(c/\(eJ env n).2.2=2):=by
 unfold eJ;rw[if_pos hv]
 rcases (h 2000 2000 hk (Nat.le_refl _)).1 with ⟨h1,h2⟩|⟨hc,h1⟩
 · left
   dsimp only;rw[if_pos h1];exact⟨h1,h2⟩
 · exact .inr ⟨hc,h1⟩
theorem G8 {a b:Int}(ha:K9 a):∀i,i<6->((eJ (nw a b) (IA.getD i cP)).2.2=0/\(eJ (nw a b) (IA.getD i cP)).1=dA true)\/(i≠3/\(eJ (nw a b) (IA.getD i cP)).2.2=2)
 | 0,_=>(qu (n:=L6) (by decide +kernel) (J1 ha) (by decide)).imp id fun h=>⟨by decide,h.2⟩
 | 1,_=>(qu (n:=L5) (by decide +kernel) (J0 ha) (by decide)).imp id fun h=>⟨by decide,h.2⟩
 | 2,_=>(qu (n:=L4) (by decide +kernel) (JZ ha) (by decide)).imp id fun h=>⟨by decide,h.2⟩
 | 3,_=>(qu (n:=L3) (by decide +kernel) (JY False a b) (by decide)).imp id fun h=>h.1.elim
 | 4,_=>(qu (n:=L2) (by decide +kernel) (JX True a b) (by decide)).imp id fun h=>⟨by decide,h.2⟩
 | 5,_=>(qu (n:=L1) (by decide +kernel) (JW a b) (by decide)).imp id fun h=>⟨by decide,h.2⟩
theorem G9 (a b:Int):vj 900000 (nw a b):=⟨by show 2<=900000;decide,fun p hp=>by
 simp only[List.mem_cons,List.not_mem_nil,or_false] at hp
 rcases hp with rfl|rfl<;>exact rY _ _⟩
theorem Gb {h:aA}{O:Nat->Prop}{c1 c2:List Value}{x y:Bd}{T:TypeId}(q1:eB.R h O c1 x) (q2:eB.R h O c2 y){base:Nat}(hb:base<=h.size):dx eB O (h.push (.cells (c1++c2).toArray T)) base T (.slice (some ⟨h.size,0,none⟩) 2 2) [x,y]:=by
 have:=dx.Iz (e:=eB) (O:=O) (h:=h) (css:=[c1,c2]) (xs:=[x,y]) (t:=T) (base:=base) (n:=2) rfl (fun i cs z h1 h2=>by
  match i with
  | 0=>simp at h1 h2;subst h1 h2;exact q1
  | 1=>simp at h1 h2;subst h1 h2;exact q2
  |i+2=>simp at h1) hb rfl (by decide)
 simpa using this
theorem GI {j:Nat}(h:j<6):(Er.map fun g=>Value.string (bs g))[j]? =some (.string (bs (Er.getD j []))):=by
 have h:j<Er.length:=h;rw[List.getElem?_map,List.getD_eq_getElem?_getD,List.getElem?_eq_getElem h];rfl
theorem BA {h:aA}(hg:Eb h) (a b:Int) (ha:K9 a) :
 ah Tryz.prog 7 #[.int .i64 a,.int .i64 b] h (cM fun r h'=>r= .bool true/\aC h h'):=by
 refine ah.of func7 rfl rfl ?_;refine bf func7 1 [0,1,4] rfl ?_;refine bl func7 1 rfl ?_;refine xp rfl (aG (H.fP _ _) rfl) ?_;refine xp rfl (aG (H.uD _ _ _ _ _ _ _ _ _) rfl) ?_;refine cI 1 rfl rfl (aG (H.fP _ _) rfl) ?_;refine xp rfl (aG (H.uD _ _ _ _ _ _ _ _ _) rfl) ?_;refine xo rfl (az.ng underlying50 H.BI ([.string (bs [97])::Nj 1 a [] [],.string (bs [98])::Nj 1 b [] []]) rfl rfl (by decide) (by simp<;>repeat' (first|rfl|constructor))) ?_;rintro _ h1 ⟨rfl,hh1⟩;have e1:aC h h1:=by rw[hh1];exact Ext.push _ _ _
 have z1:h1.size=h.size+1:=by rw[hh1];simp
 have hen:bX eB h1 (fun _=>False) (.slice (some ⟨h.size,0,none⟩) 2 2) (nw a b):=by
  have:=Gb (h:=h) (O:=fun _=>False) (x:=(([97],dP a):Bd)) (y:=(([98],dP b):Bd)) (T:=54) (base:=h.size) ⟨_,rfl,xU h (fun _=>False) 1 a [] []⟩ ⟨_,rfl,xU h (fun _=>False) 1 b [] []⟩ (Nat.le_refl _);rw[hh1];exact this.read (fun _ _ q=>q) (fun _ _ q=>q)
 clear hh1;have hg1:=hg.ax e1;obtain⟨lim,hl1,hl2⟩:=hg1.ex.lx.sg;refine aN 1 [0,1,4,5] rfl ?_;refine xr func7 rfl ?_;refine xo rfl (aq (vs:=[]) func10 rfl H.K5 rfl (ah.bq (vW hl2 hl1 hg1.ex.lx.tens hg1.ex.lx.rules))) ?_;rintro p h2 ⟨kx,e2⟩;have e02:=e1.trans e2;refine aN 1 [0,1,4,5,6] rfl ?_;refine xr func7 rfl ?_;refine xp rfl (aG (H.qA _ _ _ _ _ _) rfl) ?_;refine xo rfl (az.aQ H.Mb) ?_;rintro _ h3 ⟨rfl,k7,e3,z3⟩;refine RW.bB rfl rfl rfl (az.au H.Mm rfl rfl k7 (by first|rfl|(simp;done)|(simp;omega)) (by first|decide|exact of_decide_eq_true rfl|(simp;done)|(simp;omega)) ((fun v hv=>by simp at hv;rcases hv with rfl|rfl|rfl|rfl|rfl|rfl<;>rfl))) ?_;rintro _ h4 ⟨rfl,k74,x4,z4⟩;have k74:bh h4 h2.size 76 (Er.map fun g=>Value.string (bs g)):=k74;have e24:aC h2 h4:=aC.only e3 x4 (Nat.le_refl _);have e14:=e2.trans e24;have e04:=e1.trans e14;have kx4:=kx.ax e24;have hen4:=hen.mv (Mv.ax e14);refine xd [0,1,4,5,6,7] rfl ?_;refine av rfl ?_;refine bf func7 1 [0,1,4,5,6,7,8] rfl ?_;refine G.block rfl rfl ?_;refine bO (σ:=Nat) (fun i=>[(5,.slice (some ⟨h.size,0,none⟩) 2 2),(6,p),(7,.pointer (some ⟨h2.size,0,none⟩)),(8,.int .i64 (i:Nat))]) (fun i h'=>aC h4 h'/\i<=6) (fun i=>6-i) (0) rfl ⟨rfl,rfl,rfl,rfl,trivial⟩ ⟨Ext.refl _ _,by decide⟩ ?_;rintro i h5 ⟨e5,hi⟩ ih;have e05:=e04.trans e5;have hg5:=hg.ax e05;refine av rfl ?_;refine bf func7 2 [5,6,7,8,27] rfl ?_;refine aM rfl rfl (fun hlt=>?_) (fun hlt=>?_)
 · have hi6:i<6:=by omega
   have htx:=(k74.ax e5).cell (GI hi6);have hP:=BB i hi6;have hout:=G8 (a:=a) (b:=b) ha i hi6
   have hsl:(Er.getD i []).length<=1000:=by
    have h6:i<Er.length:=hi6;rw[List.getD_eq_getElem?_getD,List.getElem?_eq_getElem h6];exact of_decide_eq_true (List.all_eq_true.1 wq.1 _ (List.getElem_mem h6))
   have hwt:(IA.getD i cP).wt<=1000000:=by
    have h6:i<IA.length:=hi6;rw[List.getD_eq_getElem?_getD,List.getElem?_eq_getElem h6];exact of_decide_eq_true (List.all_eq_true.1 wq.2 _ (List.getElem_mem h6))
   generalize Er.getD i []=s at htx hP hsl;generalize IA.getD i cP=n at hP hout hwt;have hlen:(eM s).1.length<=s.length:=uI _ _ _ _;have hb:(eM s).1.length*(s.length+2)<=1000000000000:=Nat.le_trans (Nat.mul_le_mul (Nat.le_trans hlen hsl) (show s.length+2<=1002 by omega)) (by decide);refine aB rfl ?_;refine av rfl ?_;refine G.block rfl rfl ?_;refine bl func7 2 rfl ?_;refine xp rfl (aj.cQ underlying76 H.eG rfl rfl i rfl hi6) ?_;refine xp rfl (ai H.fu rfl (by rw[Nat.zero_add,Nat.mul_one];exact htx)) ?_;refine xo rfl (aq (vs:=[_,_]) func15 rfl H.KM rfl (ah.bq (tI hg5.ex.lx (kx4.ax e5) s (by omega)))) ?_;rintro _ h6 ⟨⟨v,rfl,hv⟩,e6⟩;refine aV 3 rfl ?_;refine xo rfl (az.aQ H.yM) ?_;rintro _ h7 ⟨rfl,k10,e7,z7⟩;refine aV 1 rfl ?_;refine RW.bB rfl rfl rfl (az.au H.eu rfl rfl k10 (by first|rfl|(simp;done)|(simp;omega)) (by first|decide|exact of_decide_eq_true rfl|(simp;done)|(simp;omega)) (gC _)) ?_;rintro _ h8 ⟨rfl,k108,x8,z8⟩;have k108:bh h8 h6.size 41 (cC (eM s).2):=k108;have e68:aC h6 h8:=aC.only e7 x8 (Nat.le_refl _);have e58:=e6.trans e68;have e08:=e05.trans e58;have hcall:=oL ((hg.ax e08).ex.esc) (hv.ax e68) s (eM s).2 hb (by omega) hP;have htx8:=e58.cell (fun k=>k) htx;refine xd [5,6,7,8,9,10,27] rfl ?_;refine av rfl ?_;refine bQ (fun b=>Array.size h8<=b) (fun i=>Nat.blt i 13) (sz:=13) (listed:= #[false,false,false,false,false,false,false,false,false,false,false,false,false]) func7 H.mixed rfl rfl rfl ?_;refine cu 0 1 (by kernel_rfl) rfl ?_;refine bP 1 3 (by kernel_rfl) rfl (fun h' e=>aj.cQ underlying76 H.eG rfl rfl i rfl hi6) ?_;refine bP 2 7 (by kernel_rfl) rfl (fun h' e=>ai H.fu rfl (e.cell (by have:=(k74.ax e5).lt;have:=e58.size;dsimp only;omega) (by rw[Nat.zero_add,Nat.mul_one];exact htx8))) ?_;refine cu 3 15 (by kernel_rfl) rfl ?_;refine bP 4 31 (by kernel_rfl) rfl (fun h' e=>aj.aE H.ij H.eu rfl (e.rowAt (by have:=k108.lt;omega) k108.row) (by first|rfl|(simp;done)|(simp;omega))) ?_;refine dZ 5 63 (by kernel_rfl) rfl (aq (vs:=[_,_,_]) func23 rfl H.Ky rfl (ah.bq (hcall))) ?_;rintro _ h9 ⟨e9,lv,rfl,s9⟩;refine⟨fun _=>e9.of,?_⟩;have e59:=e58.trans e9;have e09:=e05.trans e59;obtain⟨la,ln,lc,rfl,hks⟩:=s9.open;have hkn:=hks.len;have hkn:1=ln:=hkn;subst hkn;obtain⟨b1,o1',xk,xt,xa,xn,xc,ha1,hb1,hr1,hk1⟩:=gE hks (i:=0) (by omega);refine cu 6 127 (by kernel_rfl) rfl ?_;refine cu 7 255 (by kernel_rfl) rfl ?_;refine cu 8 511 (by kernel_rfl) rfl ?_;refine cu 9 1023 (by kernel_rfl) rfl ?_;refine cu 10 2047 (by kernel_rfl) rfl ?_;refine cu 11 4095 (by kernel_rfl) rfl ?_;refine cu 12 8191 (by kernel_rfl) rfl ?_;refine bu (by kernel_rfl) ?_;refine xu [5,6,7,8,9,10,11,13,27] rfl ?_;refine av rfl ?_;refine av rfl ?_;refine G.bw [(54,.bool false)] [(5,_),(6,_),(7,_),(8,_),(9,_),(10,_),(11,_),(13,_),(27,_)] ⟨rfl,rfl,rfl,rfl,rfl,rfl,rfl,rfl,rfl,trivial⟩ func7 rfl ?_ ?_
   · refine aV 3 rfl ?_;refine RW.cS (d:=50) (b':=false) rfl (decide_eq_false (by decide)) ?_;refine cI 1 rfl rfl (aj.aS underlying23 rfl) ?_;refine aV 2 rfl ?_;refine aD rfl ?_;exact⟨rfl,aF rfl (by simp),rfl,rfl,rfl,rfl,rfl,rfl,rfl,rfl,rfl,trivial⟩
   · refine aJ rfl rfl (fun hc=>absurd hc (by simp)) (fun _=>?_);have hk1:fq h9 (fun b=>b<h8.size) (.agg #[.int .i64 xk,.string (bs xt),.slice xa xn xc]) n:=hk1;have hE:=uY (O:=fun _=>False) (hg.ax e09) (hen4.mv (Mv.ax (e5.trans e59))) (fun b q=>q.elim) (G9 a b) (hk1.mv (D8 (h:=h9) (fun _ q=>q.elim) h9)) hwt;generalize eJ (nw a b) n=o at hE hout;obtain⟨w,s',er⟩:=o;have hout:(er=0/\w=dA true)\/(i≠3/\er=2):=hout;refine aB rfl ?_;refine bl func7 2 rfl ?_;refine xp rfl (aj.aH underlying23 H.aY rfl rfl 0 rfl ha1 (by omega)) ?_;refine xp rfl (aj.aE H.bN H.aY rfl hr1 (by first|rfl|(simp;done)|(simp;omega))) ?_;refine xo rfl (aq (vs:=[_,_]) func17 rfl H.KI rfl (ah.bq (hE))) ?_;rintro _ h10 ⟨v10,rfl,hv10,e10⟩;have hv10:dz h10 (fun _=>False) v10 w:=hv10;obtain⟨nk',nt',ya,yn,yc,ea',en',ec',rfl,_,hR10,_⟩:=dz.get hv10;refine aV 4 rfl ?_;refine xo rfl (az.aQ H.gw) ?_;rintro _ h11 ⟨rfl,k14,e11,z11⟩;refine RW.bB rfl rfl rfl (az.au H.aW rfl rfl k14 (by first|rfl|(simp;done)|(simp;omega)) (by first|decide|exact of_decide_eq_true rfl|(simp;done)|(simp;omega)) (gm)) ?_;rintro _ h12 ⟨rfl,k142,x12,z12⟩;have k142:bh h12 h10.size 52 (kI w.kind w.num w.iu w.self nk' nt' ya yn yc ea' en' ec'):=k142;have e4c:aC h4 h12:=(e5.trans e59).trans (e10.trans (aC.only e11 x12 (Nat.le_refl _)))
     rcases hout with ⟨h1,h2⟩|⟨h1,h2⟩
     · subst h1;subst h2;have k142:bh h12 h10.size 52 (kI 2 1 [] [] nk' nt' ya yn yc ea' en' ec'):=k142;refine aN 2 [5,6,7,8,9,10,11,13,14,16,27,54] rfl ?_;refine av rfl ?_;refine G.bw [(91,.bool false)] [(5,_),(6,_),(7,_),(8,_),(9,_),(10,_),(11,_),(13,_),(14,_),(16,_),(27,_),(54,_)] ⟨rfl,rfl,rfl,rfl,rfl,rfl,rfl,rfl,rfl,rfl,rfl,rfl,trivial⟩ func7 rfl ?_ ?_
       · refine aV 3 rfl ?_;refine RW.cS (d:=66) (b':=true) rfl (decide_eq_true (by rfl)) ?_;refine xp rfl (af (off:=0) underlying52 rfl rfl H.bV rfl) ?_;refine xp rfl (ai H.cK rfl (k142.cell (i:=0) rfl)) ?_;refine aV 2 rfl ?_;refine RW.cS (d:=70) (b':=false) rfl (decide_eq_false (by simp)) ?_;refine xp rfl (af (off:=1) underlying52 rfl rfl H.Cb rfl) ?_;refine xp rfl (ai H.CL rfl (k142.cell (i:=1) rfl)) ?_;refine aV 4 rfl ?_;refine RW.cS (d:=76) (b':=false) rfl (decide_eq_false (by simp)) ?_;refine aV 3 rfl ?_;refine aL (d:=79) rfl (fun p3=>?_) (fun p3=>?_)
         · refine aV 5 rfl ?_;refine RW.cS (d:=84) (b':=false) rfl (decide_eq_false (by simp)) ?_;refine aV 3 rfl ?_;refine RW.cS (d:=87) (b':=false) rfl (decide_eq_false (by simp)) ?_;refine aV 4 rfl ?_;refine aD rfl ?_;exact⟨rfl,aF rfl (by simp),rfl,rfl,rfl,rfl,rfl,rfl,rfl,rfl,rfl,rfl,rfl,rfl,trivial⟩
         · refine aV 8 rfl ?_;refine RW.cS (d:=87) (b':=false) rfl (decide_eq_false (by simp)) ?_;refine aV 4 rfl ?_;refine aD rfl ?_;exact⟨rfl,aF rfl (by simp),rfl,rfl,rfl,rfl,rfl,rfl,rfl,rfl,rfl,rfl,rfl,rfl,trivial⟩
       · refine aJ rfl rfl (fun hc=>absurd hc (by simp)) (fun _=>?_);refine aB rfl ?_;refine G.aR ?_;refine G.cz func7 rfl ?_;refine cI 1 rfl rfl (aj.bJ rfl rfl ⟨by omega,by omega⟩) ?_;refine aN 1 [5,6,7,8,9,10,11,13,14,16,27,54,91] rfl ?_;exact ih (i+1) _ _ ⟨rfl,rfl,rfl,rfl,trivial⟩ ⟨e4c,by omega⟩ (by omega)
     · subst h2;refine aN 2 [5,6,7,8,9,10,11,13,14,16,27,54] rfl ?_;refine av rfl ?_;refine G.bw [(91,.bool false)] [(5,_),(6,_),(7,_),(8,_),(9,_),(10,_),(11,_),(13,_),(14,_),(16,_),(27,_),(54,_)] ⟨rfl,rfl,rfl,rfl,rfl,rfl,rfl,rfl,rfl,rfl,rfl,rfl,trivial⟩ func7 rfl ?_ ?_
       · refine aV 3 rfl ?_;refine RW.cS (d:=66) (b':=false) rfl (decide_eq_false (by simp)) ?_;refine aV 13 rfl ?_;refine RW.cS (d:=79) (b':=false) rfl (decide_eq_false (by omega)) ?_;refine aV 8 rfl ?_;refine RW.cS (d:=87) (b':=true) rfl (decide_eq_true (by simp)) ?_;refine aV 4 rfl ?_;refine aD rfl ?_;exact⟨rfl,aF rfl (by simp),rfl,rfl,rfl,rfl,rfl,rfl,rfl,rfl,rfl,rfl,rfl,rfl,trivial⟩
       · refine aJ rfl rfl (fun hc=>absurd hc (by simp)) (fun _=>?_);refine aB rfl ?_;refine G.aR ?_;refine G.cz func7 rfl ?_;refine cI 1 rfl rfl (aj.bJ rfl rfl ⟨by omega,by omega⟩) ?_;refine aN 1 [5,6,7,8,9,10,11,13,14,16,27,54,91] rfl ?_;exact ih (i+1) _ _ ⟨rfl,rfl,rfl,rfl,trivial⟩ ⟨e4c,by omega⟩ (by omega)
 · obtain rfl:i=6:=by omega
   refine bD rfl rfl ?_;refine xr func7 rfl ?_;refine xo rfl (aq (vs:=[]) func16 rfl H.M0 rfl (ah.bq (sP hg5))) ?_;rintro _ h6 ⟨rfl,e6⟩;refine aN 1 [4,5,6,7,8,27] rfl ?_;refine G.ret func7 rfl rfl ?_;exact⟨_,rfl,rfl,e05.trans e6⟩
end Go.Proofs.YtmehdcdbeafljaaGreatDoor
