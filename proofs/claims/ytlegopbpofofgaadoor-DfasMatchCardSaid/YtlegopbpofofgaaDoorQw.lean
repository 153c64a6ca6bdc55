/- Plain words, the logic of walks, and walks that the statement's proof leans on (part 23). -/
import Derived.Lib.LaidTab
import Derived.Test.YtlegopbpofofgaaDoorQa
import Derived.Test.YtlegopbpofofgaaDoorQb
import Derived.Test.YtlegopbpofofgaaDoorQc
import Derived.Test.YtlegopbpofofgaaDoorQd
import Derived.Test.YtlegopbpofofgaaDoorQe
import Derived.Test.YtlegopbpofofgaaDoorQf
import Derived.Test.YtlegopbpofofgaaDoorQg
import Derived.Test.YtlegopbpofofgaaDoorQh
import Derived.Test.YtlegopbpofofgaaDoorQi
import Derived.Test.YtlegopbpofofgaaDoorQj
import Derived.Test.YtlegopbpofofgaaDoorQk
import Derived.Test.YtlegopbpofofgaaDoorQl
import Derived.Test.YtlegopbpofofgaaDoorQm
import Derived.Test.YtlegopbpofofgaaDoorQn
import Derived.Test.YtlegopbpofofgaaDoorQo
import Derived.Test.YtlegopbpofofgaaDoorQp
import Derived.Test.YtlegopbpofofgaaDoorQq
import Derived.Test.YtlegopbpofofgaaDoorQr
import Derived.Test.YtlegopbpofofgaaDoorQs
import Derived.Test.YtlegopbpofofgaaDoorQt
import Derived.Test.YtlegopbpofofgaaDoorQu
import Derived.Test.YtlegopbpofofgaaDoorQv

namespace Go.Proofs.YtlegopbpofofgaaDoor
open Go Go.Lw Go.ChangeShapes Go.WideShapes Go.ChangeAt Go.RowKit
set_option maxRecDepth 20000
theorem tens_of {W : World} {g t : Nat} {cs : Array Value} {fuel : Nat} {pl : List MemPlace} {sp : Nat → Bool} {held : Bool} {enc : TypeId × Value → Unit} (hg : Tryd.prog.globalNamed "internal/strconv.uint64pow10" = some g) (ht : (Tryd.prog.globals[g]?).map (·.type) = some t) (hv : W.var? Tryd.prog "internal/strconv.uint64pow10" = some cs)
    (hd : DataW.trod enc Tryd.prog W 0 sp held fuel t cs.toList = some (Rows.laid_internal_strconv_uint64pow10, pl)) : Tens W.heap := by
  have gT : Tryd.prog.globalNamed "internal/strconv.uint64pow10" = some 1 := by kernel_rfl
  have tT : (Tryd.prog.globals[1]?).map (·.type) = some 167 := by kernel_rfl
  obtain rfl := Option.some.inj (gT.symm.trans hg)
  obtain rfl := Option.some.inj (tT.symm.trans ht)
  unfold Tens
  rw [← varAt_world, hv]
  have hd2 : DataW.trod enc Tryd.prog W 0 sp held fuel 167 cs.toList = some (Lib.tabData .u64 Lib.pow10Tab, pl) := hd
  rw [← Lib.cells_of_tab Tryd.underlying167 Tryd.underlying59 (by kernel_rfl) (by kernel_rfl) hd2]
end Go.Proofs.YtlegopbpofofgaaDoor
