/-
  DERIVED. GIVEN WITH THE SEED: THE PROGRAM's TIES (one call each: nine closed facts by the kernel) AND EACH ROW's TIE, after the 31st guide's Derived/Test/Toyas{Tie, Card}.lean. No idea stands in it: it is a product of the set-up. Laid BY PROGRAM, IN A SANDBOX (cutbox-door.mjs). By AI agents, Wed Nov 11 2026. No macro, syntax, notation, axiom, sorry.
-/
import Derived.Test.YtlegopbpofofgaaDoorRows
import Derived.LaidByTextLater
import Derived.SevenTiedAt
import Derived.LaidSub
import Derived.LaidOnce
namespace Go.Proofs.YtlegopbpofofgaaDoor
open Go
set_option maxRecDepth 100000
theorem seatTie1 : Tryd.prog.laidByTextLater [("math/bits.deBruijn32tab", Rows.laid_math_bits_deBruijn32tab), ("math/bits.deBruijn64tab", Rows.laid_math_bits_deBruijn64tab), ("internal/strconv.uint64pow10", Rows.laid_internal_strconv_uint64pow10), ("limner/regs.signs", Rows.laid_limner_regs_signs)] [.data, .data, .data, .mapped] true :=
  Program.laidByTextLater_by_one 44 8 65 (by kernel_rfl) (by kernel_rfl) (by kernel_rfl) (by kernel_rfl) (by kernel_rfl) (by kernel_rfl) (fun _ _ => by kernel_rfl)
theorem noOwnUnsafe : Tryd.pinned.checked.prog.headLifts.contains "ownunsafe" = false := by kernel_rfl
theorem tie : Tryd.prog.laidByTextLater [("limner/regs.signs", Rows.laid_limner_regs_signs)] [.mapped] true :=
  Program.laidByTextLater.sub seatTie1 ["limner/regs.signs"] (by kernel_rfl) (by kernel_rfl)
theorem nfasMake_row_tie : Rows.nfasMakeRow.laidByTextAt .later Tryd.pinned [.mapped] true :=
  OpenClaim.laidByTextAt_later rfl rfl tie noOwnUnsafe
theorem nfasMatch_row_tie : Rows.nfasMatchRow.laidByTextAt .later Tryd.pinned [.mapped] true :=
  OpenClaim.laidByTextAt_later rfl rfl tie noOwnUnsafe
theorem nfasNone_row_tie : Rows.nfasNoneRow.laidByTextAt .later Tryd.pinned [.mapped] true :=
  OpenClaim.laidByTextAt_later rfl rfl tie noOwnUnsafe
theorem nfasMore_row_tie : Rows.nfasMoreRow.laidByTextAt .later Tryd.pinned [.mapped] true :=
  OpenClaim.laidByTextAt_later rfl rfl tie noOwnUnsafe
theorem nfasText_row_tie : Rows.nfasTextRow.laidByTextAt .later Tryd.pinned [.mapped] true :=
  OpenClaim.laidByTextAt_later rfl rfl tie noOwnUnsafe
theorem tie2 : Tryd.prog.laidByTextLater [("math/bits.deBruijn32tab", Rows.laid_math_bits_deBruijn32tab), ("math/bits.deBruijn64tab", Rows.laid_math_bits_deBruijn64tab), ("internal/strconv.uint64pow10", Rows.laid_internal_strconv_uint64pow10), ("limner/regs.signs", Rows.laid_limner_regs_signs)] [.data, .data, .data, .mapped] true :=
  Program.laidByTextLater.sub seatTie1 ["math/bits.deBruijn32tab", "math/bits.deBruijn64tab", "internal/strconv.uint64pow10", "limner/regs.signs"] (by kernel_rfl) (by kernel_rfl)
theorem dfasMatch_row_tie : Rows.dfasMatchRow.laidByTextAt .later Tryd.pinned [.data, .data, .data, .mapped] true :=
  OpenClaim.laidByTextAt_later rfl rfl tie2 noOwnUnsafe
theorem dfasMin_row_tie : Rows.dfasMinRow.laidByTextAt .later Tryd.pinned [.data, .data, .data, .mapped] true :=
  OpenClaim.laidByTextAt_later rfl rfl tie2 noOwnUnsafe
theorem dfasMake_row_tie : Rows.dfasMakeRow.laidByTextAt .later Tryd.pinned [.data, .data, .data, .mapped] true :=
  OpenClaim.laidByTextAt_later rfl rfl tie2 noOwnUnsafe
theorem dfasNone_row_tie : Rows.dfasNoneRow.laidByTextAt .later Tryd.pinned [.data, .data, .data, .mapped] true :=
  OpenClaim.laidByTextAt_later rfl rfl tie2 noOwnUnsafe
theorem dfasLeast_row_tie : Rows.dfasLeastRow.laidByTextAt .later Tryd.pinned [.data, .data, .data, .mapped] true :=
  OpenClaim.laidByTextAt_later rfl rfl tie2 noOwnUnsafe
theorem dfasSame_row_tie : Rows.dfasSameRow.laidByTextAt .later Tryd.pinned [.data, .data, .data, .mapped] true :=
  OpenClaim.laidByTextAt_later rfl rfl tie2 noOwnUnsafe
theorem dfasNfa_row_tie : Rows.dfasNfaRow.laidByTextAt .later Tryd.pinned [.data, .data, .data, .mapped] true :=
  OpenClaim.laidByTextAt_later rfl rfl tie2 noOwnUnsafe
theorem nfasMakeUpto_row_tie : Rows.nfasMakeUptoRow.laidByTextAt .later Tryd.pinned [.mapped] true :=
  OpenClaim.laidByTextAt_later rfl rfl tie noOwnUnsafe
theorem nfasMatchUpto_row_tie : Rows.nfasMatchUptoRow.laidByTextAt .later Tryd.pinned [.mapped] true :=
  OpenClaim.laidByTextAt_later rfl rfl tie noOwnUnsafe
theorem nfasNoneUpto_row_tie : Rows.nfasNoneUptoRow.laidByTextAt .later Tryd.pinned [.mapped] true :=
  OpenClaim.laidByTextAt_later rfl rfl tie noOwnUnsafe
theorem nfasMoreUpto_row_tie : Rows.nfasMoreUptoRow.laidByTextAt .later Tryd.pinned [.mapped] true :=
  OpenClaim.laidByTextAt_later rfl rfl tie noOwnUnsafe
theorem nfasTextUpto_row_tie : Rows.nfasTextUptoRow.laidByTextAt .later Tryd.pinned [.mapped] true :=
  OpenClaim.laidByTextAt_later rfl rfl tie noOwnUnsafe
theorem dfasMatchUpto_row_tie : Rows.dfasMatchUptoRow.laidByTextAt .later Tryd.pinned [.data, .data, .data, .mapped] true :=
  OpenClaim.laidByTextAt_later rfl rfl tie2 noOwnUnsafe
theorem dfasMinUpto_row_tie : Rows.dfasMinUptoRow.laidByTextAt .later Tryd.pinned [.data, .data, .data, .mapped] true :=
  OpenClaim.laidByTextAt_later rfl rfl tie2 noOwnUnsafe
theorem dfasMakeUpto_row_tie : Rows.dfasMakeUptoRow.laidByTextAt .later Tryd.pinned [.data, .data, .data, .mapped] true :=
  OpenClaim.laidByTextAt_later rfl rfl tie2 noOwnUnsafe
theorem dfasNoneUpto_row_tie : Rows.dfasNoneUptoRow.laidByTextAt .later Tryd.pinned [.data, .data, .data, .mapped] true :=
  OpenClaim.laidByTextAt_later rfl rfl tie2 noOwnUnsafe
theorem dfasLeastUpto_row_tie : Rows.dfasLeastUptoRow.laidByTextAt .later Tryd.pinned [.data, .data, .data, .mapped] true :=
  OpenClaim.laidByTextAt_later rfl rfl tie2 noOwnUnsafe
theorem dfasSameUpto_row_tie : Rows.dfasSameUptoRow.laidByTextAt .later Tryd.pinned [.data, .data, .data, .mapped] true :=
  OpenClaim.laidByTextAt_later rfl rfl tie2 noOwnUnsafe
theorem dfasNfaUpto_row_tie : Rows.dfasNfaUptoRow.laidByTextAt .later Tryd.pinned [.data, .data, .data, .mapped] true :=
  OpenClaim.laidByTextAt_later rfl rfl tie2 noOwnUnsafe
end Go.Proofs.YtlegopbpofofgaaDoor
