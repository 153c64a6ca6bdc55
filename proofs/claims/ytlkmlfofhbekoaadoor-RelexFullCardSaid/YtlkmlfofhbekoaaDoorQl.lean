/- Plain words, the logic of walks, and walks that the statement's proof leans on (part 12). -/
import Derived.Lib.Split
import Derived.Test.YtlkmlfofhbekoaaDoorQa
import Derived.Test.YtlkmlfofhbekoaaDoorQb
import Derived.Test.YtlkmlfofhbekoaaDoorQc
import Derived.Test.YtlkmlfofhbekoaaDoorQd
import Derived.Test.YtlkmlfofhbekoaaDoorQe
import Derived.Test.YtlkmlfofhbekoaaDoorQf
import Derived.Test.YtlkmlfofhbekoaaDoorQg
import Derived.Test.YtlkmlfofhbekoaaDoorQh
import Derived.Test.YtlkmlfofhbekoaaDoorQi
import Derived.Test.YtlkmlfofhbekoaaDoorQj
import Derived.Test.YtlkmlfofhbekoaaDoorQk

namespace Go.Proofs.YtlkmlfofhbekoaaDoor
open Go Go.Lw
theorem indexByte_calls {h : Heap} (s : ByteArray) (c : Int) : CallsH Tryd.prog 103 #[.string s, .int .u8 c] h (Ret fun r h' => r = .int .i64 (Lib.indexByte s.data.toList c.toNat.toUInt8) ∧ h' = h) :=
 CallsH.ofCalls fun w => Tryd.strings_IndexByte s c w
theorem wrap_u8 {i : Int} (h : 0 ≤ i ∧ i ≤ 255) : IntKind.u8.wrap i = i := by
 have h8 : (2:Int) ^ 8 = 256 := rfl
 simp only [IntKind.wrap, IntKind.bits, IntKind.signed, h8, Bool.false_and, Bool.false_eq_true, if_false]
 omega
end Go.Proofs.YtlkmlfofhbekoaaDoor
