/- Plain words, the logic of walks, and walks that the statement's proof leans on (part 22). -/
import Derived.Lib.LaidTab
import Derived.Test.YtlkmlfofhbekoaaDoorQa
import Derived.Test.YtlkmlfofhbekoaaDoorQb
import Derived.Test.YtlkmlfofhbekoaaDoorQc
import Derived.Test.YtlkmlfofhbekoaaDoorQd
import Derived.Test.YtlkmlfofhbekoaaDoorQe
import Derived.Test.YtlkmlfofhbekoaaDoorQf
import Derived.Test.YtlkmlfofhbekoaaDoorQg
import Derived.Test.YtlkmlfofhbekoaaDoorQh
import Derived.Test.YtlkmlfofhbekoaaDoorQi
import Derived.Test.YtlkmlfofhbekoaaDoorQj
import Derived.Test.YtlkmlfofhbekoaaDoorQk
import Derived.Test.YtlkmlfofhbekoaaDoorQl
import Derived.Test.YtlkmlfofhbekoaaDoorQm
import Derived.Test.YtlkmlfofhbekoaaDoorQn
import Derived.Test.YtlkmlfofhbekoaaDoorQo
import Derived.Test.YtlkmlfofhbekoaaDoorQp
import Derived.Test.YtlkmlfofhbekoaaDoorQq
import Derived.Test.YtlkmlfofhbekoaaDoorQr
import Derived.Test.YtlkmlfofhbekoaaDoorQs
import Derived.Test.YtlkmlfofhbekoaaDoorQt
import Derived.Test.YtlkmlfofhbekoaaDoorQu

namespace Go.Proofs.YtlkmlfofhbekoaaDoor
open Go Go.Lw Go.ChangeShapes Go.WideShapes Go.ChangeAt Go.RowKit
set_option maxRecDepth 20000
theorem tens_of {W : World} {g t : Nat} {cs : Array Value} {fuel : Nat} {pl : List MemPlace} {sp : Nat → Bool} {held : Bool} {enc : TypeId × Value → Unit} (hg : Tryd.prog.globalNamed "internal/strconv.uint64pow10" = some g) (ht : (Tryd.prog.globals[g]?).map (·.type) = some t) (hv : W.var? Tryd.prog "internal/strconv.uint64pow10" = some cs)
 (hd : DataW.trod enc Tryd.prog W 0 sp held fuel t cs.toList = some (Rows.laid_internal_strconv_uint64pow10, pl)) : Tens W.heap := by
 have gT : Tryd.prog.globalNamed "internal/strconv.uint64pow10" = some 5 := by kernel_rfl
 have tT : (Tryd.prog.globals[5]?).map (·.type) = some 178 := by kernel_rfl
 obtain rfl := Option.some.inj (gT.symm.trans hg)
 obtain rfl := Option.some.inj (tT.symm.trans ht)
 unfold Tens
 rw [← varAt_world, hv]
 have hd2 : DataW.trod enc Tryd.prog W 0 sp held fuel 178 cs.toList = some (Lib.tabData .u64 Lib.pow10Tab, pl) := hd
 rw [← Lib.cells_of_tab Tryd.underlying178 Tryd.underlying83 (by kernel_rfl) (by kernel_rfl) hd2]
end Go.Proofs.YtlkmlfofhbekoaaDoor
