/-
  No cell of these rows narrows 'for every input' (looked for: loops, veiled, ifaces, maps, wideKeys, modest, calm, conditions, laid).
  DERIVED. THE GIVEN ROWS OF THIS SEAT. 2 by the template 'for every input the law returns true; each argument reads behind the call as it read before'; 0 by the template 'total and deterministic' (their statements: YtoddkkjkhfdehaaTotals.lean).
  GIVEN WITH THE SEED: the statements are not yours to turn. If you find one false, say at which input.
  Laid BY PROGRAM, IN A SANDBOX (cutbox-rows.mjs): the forced cells as the released guide's own fill.sh prints them over the translation df4a219bf7a70399… (all of the seat's roots in one cut). By AI agents, Wed Nov 11 2026. No macro, syntax, notation, axiom, sorry.
-/
import Derived.Test.YtoddkkjkhfdehaaChecked
import GoSem.Claim
import GoSem.ClaimJoined
import GoSem.ClaimMapViews
import Derived.JoinedTies
import Derived.KernelRfl
namespace Go.Proofs.Ytoddkkjkhfdehaa
/- THE CELL 'sum', in the pinned program and in every row, IS THE sha256 OF THE DUMP (.gsa) THAT YtoddkkjkhfdehaaProg.lean LOADS. Nothing in Lean hashes anything: it is a label: what it is worth is what the hold of that sum in a sandbox is worth. -/
noncomputable def Try.pinned : Pinned := { name := "ytoddkkjkhfdehaa", sum := "df4a219bf7a703994a2818e8bedde70af58120b5ae0609686200aa424bef96c9", checked := Try.checked }
namespace Rows
def none {H : Type} : Left H := { results := [], args := [] }

/-- 'limnerlaw20.HistoryTell': WHATEVER THE INPUT: true; the input reads as it did. -/
def historyTellSpec : ChangeSpec := { name := "historyTell", fn := fun _ => fun
  | [d1, d2, d3] => { results := [.lit (.bool true)], args := [d1, d2, d3] }
  | _ => none }
def historyTellRow : OpenClaim := { program := "ytoddkkjkhfdehaa", sum := "df4a219bf7a703994a2818e8bedde70af58120b5ae0609686200aa424bef96c9", func := "limner/limnerlaw20.HistoryTell", spec := "historyTell", apart := false }
def HistoryTellSaid : Prop := historyTellRow.holds Try.pinned (OpenSpec.ofChange historyTellSpec)

/-- ITS FALSE NEIGHBOUR: 'it returns false'. Refute it at one input. -/
def historyTellWrong : ChangeSpec := { name := "historyTell", fn := fun _ => fun
  | [d1, d2, d3] => { results := [.lit (.bool false)], args := [d1, d2, d3] }
  | _ => none }
def HistoryTellWrongFalsely : Prop := historyTellRow.holds Try.pinned (OpenSpec.ofChange historyTellWrong)

/-- 'limnerlaw20.HistoryGrow': WHATEVER THE INPUT: true; the input reads as it did. -/
def historyGrowSpec : ChangeSpec := { name := "historyGrow", fn := fun _ => fun
  | [d] => { results := [.lit (.bool true)], args := [d] }
  | _ => none }
def historyGrowRow : OpenClaim := { program := "ytoddkkjkhfdehaa", sum := "df4a219bf7a703994a2818e8bedde70af58120b5ae0609686200aa424bef96c9", func := "limner/limnerlaw20.HistoryGrow", spec := "historyGrow", apart := false }
def HistoryGrowSaid : Prop := historyGrowRow.holds Try.pinned (OpenSpec.ofChange historyGrowSpec)

/-- ITS FALSE NEIGHBOUR: 'it returns false'. Refute it at one input. -/
def historyGrowWrong : ChangeSpec := { name := "historyGrow", fn := fun _ => fun
  | [d] => { results := [.lit (.bool false)], args := [d] }
  | _ => none }
def HistoryGrowWrongFalsely : Prop := historyGrowRow.holds Try.pinned (OpenSpec.ofChange historyGrowWrong)

/- THE SECOND FORM. 'bulk': how many values and letters a reading holds, each counted each time it is reached (what is shared counts as often as it is met; a slice's spare places count too). A statement '..UptoSaid' is the law's where the arguments, and the package variables that the reading takes, are together of bulk at most 1048576: NARROWER than '..Said'. Prove '..Said' where nothing that the law and all that it calls make is longer than what came in: it says more and counts as full. Else prove '..UptoSaid'. A law counts once. -/
mutual
def uptoBulk {H : Type} : DataW H → Nat
  | .lit (.string bytes) => bytes.length + 1
  | .lit _ => 1
  | .nil => 1
  | .ptr d => uptoBulk d + 1
  | .slice elems spare => uptoBulkAll elems + uptoBulkAll spare + 1
  | .agg parts => uptoBulkAll parts + 1
  | .iface _ d => uptoBulk d + 1
  | .map entries => uptoBulkEntries entries + 1
  | .held _ => 1
def uptoBulkAll {H : Type} : List (DataW H) → Nat
  | [] => 0
  | d :: r => uptoBulk d + uptoBulkAll r
def uptoBulkEntries {H : Type} : List (Lit × DataW H) → Nat
  | [] => 0
  | x :: r => uptoBulkEntry x + uptoBulkEntries r
def uptoBulkEntry {H : Type} : Lit × DataW H → Nat
  | (.string bytes, d) => bytes.length + uptoBulk d + 1
  | (_, d) => uptoBulk d + 1
 end
def uptoSmall : (H : Type) → List (DataW H) → Bool := fun _ ds => decide (uptoBulkAll ds ≤ 1048576)
def OpenSpec.upto (s : _root_.Go.ChangeSpec) : _root_.Go.OpenSpec := { _root_.Go.OpenSpec.ofChange s with cond := some uptoSmall }

/-- 'limnerlaw20.HistoryTell', WHERE WHAT IT READS IS OF BULK AT MOST 1048576: true; the input reads as it did. -/
def historyTellUptoRow : OpenClaim := { program := "ytoddkkjkhfdehaa", sum := "df4a219bf7a703994a2818e8bedde70af58120b5ae0609686200aa424bef96c9", func := "limner/limnerlaw20.HistoryTell", spec := "historyTell", apart := false, narrowed := true }
def HistoryTellUptoSaid : Prop := historyTellUptoRow.holds Try.pinned (OpenSpec.upto historyTellSpec)

/-- 'limnerlaw20.HistoryGrow', WHERE WHAT IT READS IS OF BULK AT MOST 1048576: true; the input reads as it did. -/
def historyGrowUptoRow : OpenClaim := { program := "ytoddkkjkhfdehaa", sum := "df4a219bf7a703994a2818e8bedde70af58120b5ae0609686200aa424bef96c9", func := "limner/limnerlaw20.HistoryGrow", spec := "historyGrow", apart := false, narrowed := true }
def HistoryGrowUptoSaid : Prop := historyGrowUptoRow.holds Try.pinned (OpenSpec.upto historyGrowSpec)

end Rows
end Go.Proofs.Ytoddkkjkhfdehaa
