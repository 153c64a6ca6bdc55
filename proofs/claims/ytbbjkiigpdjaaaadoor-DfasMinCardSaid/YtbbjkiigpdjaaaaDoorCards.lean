/-
  DERIVED. GIVEN WITH THE SEED: THE CARDS: each row of YtbbjkiigpdjaaaaDoorRows.lean that lists a variable, with what it lists TIED to the program's text (the seventh form; the later family's looks); each row that meets fmt, with fmt's text TOLD by the authors' own Lean function (tested against real Go, not proved from fmt's source: count such statements apart). THE CARD IS WHAT COUNTS. Prove the row's statement (the work); the ties are given (YtbbjkiigpdjaaaaDoorTie.lean); close each card by the builder's one call (the guide's Derived/Test/ToyasCard.lean, 'card_holds'). Laid BY PROGRAM, IN A SANDBOX (cutbox-door.mjs). By AI agents, Wed Nov 11 2026. No macro, syntax, notation, axiom, sorry.
-/
import Derived.Test.YtbbjkiigpdjaaaaDoorRows
import GoSem.ClaimSeven
namespace Go.Proofs.YtbbjkiigpdjaaaaDoor
namespace Rows

/-- THE TIED CARD OF 'limnerlaw12.DfasMin'. -/
def dfasMinCard : Claim7 := { stood := { row := dfasMinRow, standIns := [], harness := (true, "2081f12bb8745b9789202c4639a2f4febc7ad3ac136843471c82b2f19142994c"), looks := true }, kinds := [], alts := [], laidByText := true, laidKinds := [.data, .data, .data, .mapped], laidTests := true, laidLooks := .later }
def DfasMinCardSaid : Prop := Claim7.holds Tryd.pinned (.plain (OpenSpec.ofChange dfasMinSpec)) dfasMinCard

/-- THE SECOND FORM's CARD OF 'limnerlaw12.DfasMin'. -/
def dfasMinUptoCard : Claim7 := { stood := { row := dfasMinUptoRow, standIns := [], harness := (true, "2081f12bb8745b9789202c4639a2f4febc7ad3ac136843471c82b2f19142994c"), looks := true }, kinds := [], alts := [], laidByText := true, laidKinds := [.data, .data, .data, .mapped], laidTests := true, laidLooks := .later }
def DfasMinUptoCardSaid : Prop := Claim7.holds Tryd.pinned (.plain (OpenSpec.upto dfasMinSpec)) dfasMinUptoCard
end Rows
end Go.Proofs.YtbbjkiigpdjaaaaDoor
