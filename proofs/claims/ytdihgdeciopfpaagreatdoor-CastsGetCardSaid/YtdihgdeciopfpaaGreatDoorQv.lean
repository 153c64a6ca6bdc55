/- What the proof of the statement leans on (part 22). -/
import Derived.Lib.Split
import Derived.Test.YtdihgdeciopfpaaGreatDoorQu

namespace Go.Proofs.YtdihgdeciopfpaaGreatDoor
open Go Go.Lw
theorem eH {h:au}(s:ByteArray) (c:Int):af Tryz.prog 73 #[.string s,.int .u8 c] h (bC fun r h'=>r= .int .i64 (Lib.indexByte s.data.toList c.toNat.toUInt8)/\h'=h) :=
 af.CY fun w=>Tryz.strings_IndexByte s c w
theorem wrap_u8 {i:Int}(h:0<=i/\i<=255):IntKind.u8.wrap i=i:=by
 have h8:(2:Int) ^ 8=256:=rfl;simp only[IntKind.wrap,IntKind.bits,IntKind.signed,h8,Bool.false_and,Bool.false_eq_true,if_false];omega
end Go.Proofs.YtdihgdeciopfpaaGreatDoor
