/- What the proof of the statement leans on (part 23). -/
import Derived.Lib.LaidTab
import Derived.Test.YtbbjkiigpdjaaaaDoorQv

namespace Go.Proofs.YtbbjkiigpdjaaaaDoor
open Go.Proofs.Tryd
open Go Go.Lw Go.ChangeShapes Go.WideShapes Go.ChangeAt Go.RowKit
set_option maxRecDepth 20000
theorem BV {W:World}{g t:Nat}{cs:Array Value}{fuel:Nat}{pl:List MemPlace}{sp:Nat->Bool}{held:Bool}{enc:TypeId×Value->Unit}(hg:Tryd.prog.globalNamed "internal/strconv.uint64pow10" =some g) (ht:(Tryd.prog.globals[g]?).map (·.type)=some t) (hv:W.var? Tryd.prog "internal/strconv.uint64pow10" =some cs)
    (hd:DataW.trod enc Tryd.prog W 0 sp held fuel t cs.toList=some (Rows.laid_internal_strconv_uint64pow10,pl)):lI W.heap:=by
  have gT:Tryd.prog.globalNamed "internal/strconv.uint64pow10" =some 1:=by kernel_rfl
  have tT:(Tryd.prog.globals[1]?).map (·.type)=some 153:=by kernel_rfl
  obtain rfl:=Option.some.inj (gT.symm.trans hg);obtain rfl:=Option.some.inj (tT.symm.trans ht);unfold lI;rw[<-vk,hv];have hd2:DataW.trod enc Tryd.prog W 0 sp held fuel 153 cs.toList=some (Lib.tabData .u64 Lib.pow10Tab,pl):=hd;rw[<-Lib.cells_of_tab underlying153 underlying45 (by kernel_rfl) (by kernel_rfl) hd2]
end Go.Proofs.YtbbjkiigpdjaaaaDoor
