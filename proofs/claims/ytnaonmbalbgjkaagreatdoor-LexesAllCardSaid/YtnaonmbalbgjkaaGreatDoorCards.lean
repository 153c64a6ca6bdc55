/-
  DERIVED. GIVEN WITH THE SEED: THE CARDS: each row of YtnaonmbalbgjkaaGreatDoorRows.lean that lists a variable, with what it lists TIED to the program's text (the seventh form; the later family's looks); each row that meets fmt, with fmt's text TOLD by the authors' own Lean function (tested against real Go, not proved from fmt's source: count such statements apart). THE CARD IS WHAT COUNTS. Prove the row's statement (the work); the ties are given (YtnaonmbalbgjkaaGreatDoorTie.lean); close each card by the builder's one call (the guide's Derived/Test/ToyasCard.lean, 'card_holds'). Laid BY PROGRAM, IN A SANDBOX (cutbox-door.mjs). By AI agents, Wed Nov 11 2026. No macro, syntax, notation, axiom, sorry.
-/
import Derived.Test.YtnaonmbalbgjkaaGreatDoorRows
import GoSem.ClaimSeven
namespace Go.Proofs.YtnaonmbalbgjkaaGreatDoor
namespace Rows

/-- THE TIED CARD OF 'limnerlaw14.LexesAll'. -/
def lexesAllCard : Claim7 := { stood := { row := lexesAllRow, standIns := [], harness := (true, "a5314f204f242ac7215878b4ba332d1a2dc3f3436fdc6bc3c33cb39536c615cf"), looks := true }, kinds := [], alts := [], laidByText := true, laidKinds := [.data, .data, .data, .data, .mapped, .widerDeep, .pinned], laidTests := true, laidLooks := .later }
def LexesAllCardSaid : Prop := Claim7.holds Tryz.pinned (.plain (OpenSpec.ofChange lexesAllSpec)) lexesAllCard

/-- THE SECOND FORM's CARD OF 'limnerlaw14.LexesAll'. -/
def lexesAllUptoCard : Claim7 := { stood := { row := lexesAllUptoRow, standIns := [], harness := (true, "a5314f204f242ac7215878b4ba332d1a2dc3f3436fdc6bc3c33cb39536c615cf"), looks := true }, kinds := [], alts := [], laidByText := true, laidKinds := [.data, .data, .data, .data, .mapped, .widerDeep, .pinned], laidTests := true, laidLooks := .later }
def LexesAllUptoCardSaid : Prop := Claim7.holds Tryz.pinned (.plain (OpenSpec.upto lexesAllSpec)) lexesAllUptoCard
end Rows
end Go.Proofs.YtnaonmbalbgjkaaGreatDoor
