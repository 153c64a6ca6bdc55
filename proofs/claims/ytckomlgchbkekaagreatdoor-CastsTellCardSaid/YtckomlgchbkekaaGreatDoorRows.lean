/-
  NARROWER THAN 'FOR EVERY INPUT', by the rows' own cells (each row's printed sentence says how): CastsTell: laid.
  DERIVED. THE GIVEN ROWS OF THIS SEAT. 1 by the template 'for every input the law returns true; each argument reads behind the call as it read before'; 0 by the template 'total and deterministic' (their statements: YtckomlgchbkekaaGreatDoorTotals.lean).
  GIVEN WITH THE SEED: the statements are not yours to turn. If you find one false, say at which input.
  Laid BY PROGRAM, IN A SANDBOX (cutbox-rows.mjs): the forced cells as the released guide's own fill.sh prints them over the translation b653330aa08c1d13… (all of the seat's roots in one cut). By AI agents, Wed Nov 11 2026. No macro, syntax, notation, axiom, sorry.
-/
import Derived.Test.YtckomlgchbkekaaGreatDoorChecked
import GoSem.PinnedTables
import GoSem.Claim
import GoSem.ClaimJoined
import GoSem.ClaimMapViews
import Derived.JoinedTies
import Derived.KernelRfl
namespace Go.Proofs.YtckomlgchbkekaaGreatDoor
/- THE CELL 'sum', in the pinned program and in every row, IS THE sha256 OF THE DUMP (.gsa) THAT YtckomlgchbkekaaGreatDoorProg.lean LOADS. Nothing in Lean hashes anything: it is a label: what it is worth is what the hold of that sum in a sandbox is worth. -/
noncomputable def Tryz.pinned : Pinned := { name := "ytckomlgchbkekaagreatdoor", sum := "b653330aa08c1d1324da4ec7898142b08d958b8560e728d417cf875fac4e5fa0", checked := Tryz.checked }
namespace Rows
def none {H : Type} : Left H := { results := [], args := [] }

/- WHAT THE LISTED PACKAGE-LEVEL VARIABLES READ AS WHEN THE CALL BEGINS. Each datum BY PROGRAM (the guide's laid-datum.mjs) off the statement by which the dump's own 'gosem.cut.vars' lays the variable. In a bare row this is a premise. The card (YtckomlgchbkekaaGreatDoorCards.lean) ties it to the program's text. -/
def laid_math_bits_deBruijn32tab {H : Type} : DataW H := .agg [.lit (.int .u8 0), .lit (.int .u8 1), .lit (.int .u8 28), .lit (.int .u8 2), .lit (.int .u8 29), .lit (.int .u8 14), .lit (.int .u8 24), .lit (.int .u8 3), .lit (.int .u8 30), .lit (.int .u8 22), .lit (.int .u8 20), .lit (.int .u8 15), .lit (.int .u8 25), .lit (.int .u8 17), .lit (.int .u8 4), .lit (.int .u8 8), .lit (.int .u8 31), .lit (.int .u8 27), .lit (.int .u8 13), .lit (.int .u8 23), .lit (.int .u8 21), .lit (.int .u8 19), .lit (.int .u8 16), .lit (.int .u8 7), .lit (.int .u8 26), .lit (.int .u8 12), .lit (.int .u8 18), .lit (.int .u8 6), .lit (.int .u8 11), .lit (.int .u8 5), .lit (.int .u8 10), .lit (.int .u8 9)]
def laid_math_bits_deBruijn64tab {H : Type} : DataW H := .agg [.lit (.int .u8 0), .lit (.int .u8 1), .lit (.int .u8 56), .lit (.int .u8 2), .lit (.int .u8 57), .lit (.int .u8 49), .lit (.int .u8 28), .lit (.int .u8 3), .lit (.int .u8 61), .lit (.int .u8 58), .lit (.int .u8 42), .lit (.int .u8 50), .lit (.int .u8 38), .lit (.int .u8 29), .lit (.int .u8 17), .lit (.int .u8 4), .lit (.int .u8 62), .lit (.int .u8 47), .lit (.int .u8 59), .lit (.int .u8 36), .lit (.int .u8 45), .lit (.int .u8 43), .lit (.int .u8 51), .lit (.int .u8 22), .lit (.int .u8 53), .lit (.int .u8 39), .lit (.int .u8 33), .lit (.int .u8 30), .lit (.int .u8 24), .lit (.int .u8 18), .lit (.int .u8 12), .lit (.int .u8 5), .lit (.int .u8 63), .lit (.int .u8 55), .lit (.int .u8 48), .lit (.int .u8 27), .lit (.int .u8 60), .lit (.int .u8 41), .lit (.int .u8 37), .lit (.int .u8 16), .lit (.int .u8 46), .lit (.int .u8 35), .lit (.int .u8 44), .lit (.int .u8 21), .lit (.int .u8 52), .lit (.int .u8 32), .lit (.int .u8 23), .lit (.int .u8 11), .lit (.int .u8 54), .lit (.int .u8 26), .lit (.int .u8 40), .lit (.int .u8 15), .lit (.int .u8 34), .lit (.int .u8 20), .lit (.int .u8 31), .lit (.int .u8 10), .lit (.int .u8 25), .lit (.int .u8 14), .lit (.int .u8 19), .lit (.int .u8 9), .lit (.int .u8 13), .lit (.int .u8 8), .lit (.int .u8 7), .lit (.int .u8 6)]
def laid_internal_strconv_uint64pow10 {H : Type} : DataW H := .agg [.lit (.int .u64 1), .lit (.int .u64 10), .lit (.int .u64 100), .lit (.int .u64 1000), .lit (.int .u64 10000), .lit (.int .u64 100000), .lit (.int .u64 1000000), .lit (.int .u64 10000000), .lit (.int .u64 100000000), .lit (.int .u64 1000000000), .lit (.int .u64 10000000000), .lit (.int .u64 100000000000), .lit (.int .u64 1000000000000), .lit (.int .u64 10000000000000), .lit (.int .u64 100000000000000), .lit (.int .u64 1000000000000000), .lit (.int .u64 10000000000000000), .lit (.int .u64 100000000000000000), .lit (.int .u64 1000000000000000000), .lit (.int .u64 10000000000000000000)]
def laid_unicode_utf8_acceptRanges {H : Type} : DataW H := .agg [.agg [.lit (.int .u8 128), .lit (.int .u8 191)], .agg [.lit (.int .u8 160), .lit (.int .u8 191)], .agg [.lit (.int .u8 128), .lit (.int .u8 159)], .agg [.lit (.int .u8 144), .lit (.int .u8 191)], .agg [.lit (.int .u8 128), .lit (.int .u8 143)], .agg [.lit (.int .u8 0), .lit (.int .u8 0)], .agg [.lit (.int .u8 0), .lit (.int .u8 0)], .agg [.lit (.int .u8 0), .lit (.int .u8 0)], .agg [.lit (.int .u8 0), .lit (.int .u8 0)], .agg [.lit (.int .u8 0), .lit (.int .u8 0)], .agg [.lit (.int .u8 0), .lit (.int .u8 0)], .agg [.lit (.int .u8 0), .lit (.int .u8 0)], .agg [.lit (.int .u8 0), .lit (.int .u8 0)], .agg [.lit (.int .u8 0), .lit (.int .u8 0)], .agg [.lit (.int .u8 0), .lit (.int .u8 0)], .agg [.lit (.int .u8 0), .lit (.int .u8 0)]]
def laid_strconv_ErrRange {H : Type} : DataW H := .iface "*errors.errorString" (.ptr (.agg [.lit (.string [118, 97, 108, 117, 101, 32, 111, 117, 116, 32, 111, 102, 32, 114, 97, 110, 103, 101])]))
def laid_strconv_ErrSyntax {H : Type} : DataW H := .iface "*errors.errorString" (.ptr (.agg [.lit (.string [105, 110, 118, 97, 108, 105, 100, 32, 115, 121, 110, 116, 97, 120])]))
def laid_limner_widths_hidden {H : Type} : DataW H := .agg [.agg [.lit (.int .i32 0), .lit (.int .i32 31)], .agg [.lit (.int .i32 127), .lit (.int .i32 159)], .agg [.lit (.int .i32 768), .lit (.int .i32 879)], .agg [.lit (.int .i32 8203), .lit (.int .i32 8207)], .agg [.lit (.int .i32 8232), .lit (.int .i32 8238)], .agg [.lit (.int .i32 55296), .lit (.int .i32 57343)], .agg [.lit (.int .i32 65024), .lit (.int .i32 65039)], .agg [.lit (.int .i32 65279), .lit (.int .i32 65279)]]
def laid_limner_widths_wide {H : Type} : DataW H := .agg [.agg [.lit (.int .i32 4352), .lit (.int .i32 4447)], .agg [.lit (.int .i32 11904), .lit (.int .i32 12350)], .agg [.lit (.int .i32 12353), .lit (.int .i32 13311)], .agg [.lit (.int .i32 13312), .lit (.int .i32 19903)], .agg [.lit (.int .i32 19968), .lit (.int .i32 40959)], .agg [.lit (.int .i32 40960), .lit (.int .i32 42191)], .agg [.lit (.int .i32 44032), .lit (.int .i32 55203)], .agg [.lit (.int .i32 63744), .lit (.int .i32 64255)], .agg [.lit (.int .i32 65072), .lit (.int .i32 65135)], .agg [.lit (.int .i32 65281), .lit (.int .i32 65376)], .agg [.lit (.int .i32 65504), .lit (.int .i32 65510)], .agg [.lit (.int .i32 127744), .lit (.int .i32 128591)], .agg [.lit (.int .i32 129280), .lit (.int .i32 129535)], .agg [.lit (.int .i32 131072), .lit (.int .i32 262141)]]
def laid_limner_grids_blank {H : Type} : DataW H := .agg [.lit (.int .i32 32), .lit (.int .i64 1), .agg [.lit (.int .i64 0), .lit (.bool false), .lit (.bool false), .lit (.bool false)]]
def laid_limner_layout_blank {H : Type} : DataW H := .agg [.lit (.int .i32 32), .lit (.int .i64 1), .agg [.lit (.int .i64 0), .lit (.bool false), .lit (.bool false), .lit (.bool false)]]
def laid_limner_regs_signs {H : Type} : DataW H := .map [(.int .u8 42, .lit (.int .i64 4)), (.int .u8 43, .lit (.int .i64 5)), (.int .u8 63, .lit (.int .i64 6))]
def laid_limner_rules_table {H : Type} : DataW H := .agg [.slice [.agg [.lit (.string [91, 32, 92, 116, 92, 114, 93, 43]), .lit (.int .i64 1), .lit (.int .i64 0)], .agg [.lit (.string [92, 110]), .lit (.int .i64 2), .lit (.int .i64 0)], .agg [.lit (.string [91, 97, 45, 122, 65, 45, 90, 95, 93, 91, 97, 45, 122, 65, 45, 90, 48, 45, 57, 95, 93, 42]), .lit (.int .i64 3), .lit (.int .i64 0)], .agg [.lit (.string [91, 48, 45, 57, 93, 43, 40, 92, 46, 91, 48, 45, 57, 93, 43, 41, 63, 40, 91, 101, 69, 93, 91, 92, 43, 92, 45, 93, 63, 91, 48, 45, 57, 93, 43, 41, 63]), .lit (.int .i64 5), .lit (.int .i64 0)], .agg [.lit (.string [47, 47, 91, 94, 92, 110, 93, 42]), .lit (.int .i64 11), .lit (.int .i64 0)], .agg [.lit (.string [47, 92, 42]), .lit (.int .i64 11), .lit (.int .i64 3)], .agg [.lit (.string [34]), .lit (.int .i64 9), .lit (.int .i64 1)], .agg [.lit (.string [91, 92, 40, 92, 91, 123, 93]), .lit (.int .i64 7), .lit (.int .i64 0)], .agg [.lit (.string [91, 92, 41, 92, 93, 125, 93]), .lit (.int .i64 8), .lit (.int .i64 0)], .agg [.lit (.string [91, 92, 43, 92, 45, 92, 42, 47, 37, 60, 62, 33, 61, 44, 59, 58, 92, 46, 93, 124, 61, 61, 124, 33, 61, 124, 60, 61, 124, 62, 61, 124, 38, 38, 124, 92, 124, 92, 124, 124, 92, 45, 62]), .lit (.int .i64 6), .lit (.int .i64 0)]] [], .slice [.agg [.lit (.string [91, 94, 34, 92, 92, 92, 110, 93, 43]), .lit (.int .i64 9), .lit (.int .i64 0)], .agg [.lit (.string [92, 92, 91, 110, 114, 116, 34, 92, 92, 48, 93]), .lit (.int .i64 10), .lit (.int .i64 0)], .agg [.lit (.string [34]), .lit (.int .i64 9), .lit (.int .i64 2)], .agg [.lit (.string [92, 110]), .lit (.int .i64 9), .lit (.int .i64 0)]] [], .slice [.agg [.lit (.string [47, 92, 42]), .lit (.int .i64 11), .lit (.int .i64 3)], .agg [.lit (.string [92, 42, 47]), .lit (.int .i64 11), .lit (.int .i64 4)], .agg [.lit (.string [91, 94, 92, 42, 47, 93, 43]), .lit (.int .i64 11), .lit (.int .i64 0)], .agg [.lit (.string [91, 92, 42, 47, 93]), .lit (.int .i64 11), .lit (.int .i64 0)]] []]
def laid_limner_term_blank {H : Type} : DataW H := .agg [.lit (.int .i32 32), .lit (.int .i64 1), .agg [.lit (.int .i64 0), .lit (.bool false), .lit (.bool false), .lit (.bool false)]]
/-- One of Go's own tables, pinned by name: the form's constant. -/
def laid_unicode_utf8_first : DataW Unit := Go.Pinned.utf8First

/-- 'limnerlaw36.CastsTell': WHATEVER THE INPUT: true; the input reads as it did. -/
def castsTellSpec : ChangeSpec := { name := "castsTell", fn := fun _ => fun
  | [d1, d2, d3] => { results := [.lit (.bool true)], args := [d1, d2, d3] }
  | _ => none }
def castsTellRow : OpenClaim := { program := "ytckomlgchbkekaagreatdoor", sum := "b653330aa08c1d1324da4ec7898142b08d958b8560e728d417cf875fac4e5fa0", func := "limner/limnerlaw36.CastsTell", spec := "castsTell", inPlace := ["internal/bytealg.IndexByteString", "internal/abi.NoEscape", "internal/bytealg.IndexString", "internal/bytealg.MakeNoZero"], unfollowed := true, recurses := true, named := ["limner/grids.blank", "limner/rules.table", "limner/regs.signs", "internal/strconv.uint64pow10", "math/bits.deBruijn32tab", "math/bits.deBruijn64tab", "unicode/utf8.first", "unicode/utf8.acceptRanges", "internal/bytealg.MaxLen", "limner/layout.blank", "limner/widths.hidden", "limner/widths.wide", "limner/term.blank", "strconv.ErrSyntax", "strconv.ErrRange"], apart := false, laid := [("math/bits.deBruijn32tab", laid_math_bits_deBruijn32tab), ("math/bits.deBruijn64tab", laid_math_bits_deBruijn64tab), ("internal/strconv.uint64pow10", laid_internal_strconv_uint64pow10), ("unicode/utf8.acceptRanges", laid_unicode_utf8_acceptRanges), ("strconv.ErrRange", laid_strconv_ErrRange), ("strconv.ErrSyntax", laid_strconv_ErrSyntax), ("limner/widths.hidden", laid_limner_widths_hidden), ("limner/widths.wide", laid_limner_widths_wide), ("limner/grids.blank", laid_limner_grids_blank), ("limner/layout.blank", laid_limner_layout_blank), ("limner/regs.signs", laid_limner_regs_signs), ("limner/rules.table", laid_limner_rules_table), ("limner/term.blank", laid_limner_term_blank), ("unicode/utf8.first", laid_unicode_utf8_first)] }
def CastsTellSaid : Prop := castsTellRow.holds Tryz.pinned (OpenSpec.ofChange castsTellSpec)

/-- ITS FALSE NEIGHBOUR: 'it returns false'. Refute it at one input. -/
def castsTellWrong : ChangeSpec := { name := "castsTell", fn := fun _ => fun
  | [d1, d2, d3] => { results := [.lit (.bool false)], args := [d1, d2, d3] }
  | _ => none }
def CastsTellWrongFalsely : Prop := castsTellRow.holds Tryz.pinned (OpenSpec.ofChange castsTellWrong)

/- THE SECOND FORM. 'bulk': how many values and letters a reading holds, each counted each time it is reached (what is shared counts as often as it is met; a slice's spare places count too). A statement '..UptoSaid' is the law's where the arguments, and the package variables that the reading takes, are together of bulk at most 1048576: NARROWER than '..Said'. Prove '..Said' where nothing that the law and all that it calls make is longer than what came in: it says more and counts as full. Else prove '..UptoSaid'. A law counts once. -/
mutual
def uptoBulk {H : Type} : DataW H → Nat
  | .lit (.string bytes) => bytes.length + 1
  | .lit _ => 1
  | .nil => 1
  | .ptr d => uptoBulk d + 1
  | .slice elems spare => uptoBulkAll elems + uptoBulkAll spare + 1
  | .agg parts => uptoBulkAll parts + 1
  | .iface _ d => uptoBulk d + 1
  | .map entries => uptoBulkEntries entries + 1
  | .held _ => 1
def uptoBulkAll {H : Type} : List (DataW H) → Nat
  | [] => 0
  | d :: r => uptoBulk d + uptoBulkAll r
def uptoBulkEntries {H : Type} : List (Lit × DataW H) → Nat
  | [] => 0
  | x :: r => uptoBulkEntry x + uptoBulkEntries r
def uptoBulkEntry {H : Type} : Lit × DataW H → Nat
  | (.string bytes, d) => bytes.length + uptoBulk d + 1
  | (_, d) => uptoBulk d + 1
 end
def uptoSmall : (H : Type) → List (DataW H) → Bool := fun _ ds => decide (uptoBulkAll ds ≤ 1048576)
def OpenSpec.upto (s : _root_.Go.ChangeSpec) : _root_.Go.OpenSpec := { _root_.Go.OpenSpec.ofChange s with cond := some uptoSmall }

/-- 'limnerlaw36.CastsTell', WHERE WHAT IT READS IS OF BULK AT MOST 1048576: true; the input reads as it did. -/
def castsTellUptoRow : OpenClaim := { program := "ytckomlgchbkekaagreatdoor", sum := "b653330aa08c1d1324da4ec7898142b08d958b8560e728d417cf875fac4e5fa0", func := "limner/limnerlaw36.CastsTell", spec := "castsTell", inPlace := ["internal/bytealg.IndexByteString", "internal/abi.NoEscape", "internal/bytealg.IndexString", "internal/bytealg.MakeNoZero"], unfollowed := true, recurses := true, named := ["limner/grids.blank", "limner/rules.table", "limner/regs.signs", "internal/strconv.uint64pow10", "math/bits.deBruijn32tab", "math/bits.deBruijn64tab", "unicode/utf8.first", "unicode/utf8.acceptRanges", "internal/bytealg.MaxLen", "limner/layout.blank", "limner/widths.hidden", "limner/widths.wide", "limner/term.blank", "strconv.ErrSyntax", "strconv.ErrRange"], apart := false, laid := [("math/bits.deBruijn32tab", laid_math_bits_deBruijn32tab), ("math/bits.deBruijn64tab", laid_math_bits_deBruijn64tab), ("internal/strconv.uint64pow10", laid_internal_strconv_uint64pow10), ("unicode/utf8.acceptRanges", laid_unicode_utf8_acceptRanges), ("strconv.ErrRange", laid_strconv_ErrRange), ("strconv.ErrSyntax", laid_strconv_ErrSyntax), ("limner/widths.hidden", laid_limner_widths_hidden), ("limner/widths.wide", laid_limner_widths_wide), ("limner/grids.blank", laid_limner_grids_blank), ("limner/layout.blank", laid_limner_layout_blank), ("limner/regs.signs", laid_limner_regs_signs), ("limner/rules.table", laid_limner_rules_table), ("limner/term.blank", laid_limner_term_blank), ("unicode/utf8.first", laid_unicode_utf8_first)], narrowed := true }
def CastsTellUptoSaid : Prop := castsTellUptoRow.holds Tryz.pinned (OpenSpec.upto castsTellSpec)

end Rows
end Go.Proofs.YtckomlgchbkekaaGreatDoor
