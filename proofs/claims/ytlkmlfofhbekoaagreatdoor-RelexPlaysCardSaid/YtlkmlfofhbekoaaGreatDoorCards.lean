/-
  DERIVED. GIVEN WITH THE SEED: THE CARDS: each row of YtlkmlfofhbekoaaGreatDoorRows.lean that lists a variable, with what it lists TIED to the program's text (the seventh form; the later family's looks); each row that meets fmt, with fmt's text TOLD by the authors' own Lean function (tested against real Go, not proved from fmt's source: count such statements apart). THE CARD IS WHAT COUNTS. Prove the row's statement (the work); the ties are given (YtlkmlfofhbekoaaGreatDoorTie.lean); close each card by the builder's one call (the guide's Derived/Test/ToyasCard.lean, 'card_holds'). Laid BY PROGRAM, IN A SANDBOX (cutbox-door.mjs). By AI agents, Wed Nov 11 2026. No macro, syntax, notation, axiom, sorry.
-/
import Derived.Test.YtlkmlfofhbekoaaGreatDoorRows
import GoSem.ClaimSeven
namespace Go.Proofs.YtlkmlfofhbekoaaGreatDoor
namespace Rows

/-- THE TIED CARD OF 'limnerlaw15.RelexPlays'. -/
def relexPlaysCard : Claim7 := { stood := { row := relexPlaysRow, standIns := [], harness := (true, "e1922444a288f7ca953da6398dddbc96d4306275e98a6f3cbbcfe0c3d2b0d16f"), looks := true }, kinds := [], alts := [], laidByText := true, laidKinds := [.data, .data, .data, .data, .mapped, .widerDeep, .pinned], laidTests := true, laidLooks := .later }
def RelexPlaysCardSaid : Prop := Claim7.holds Tryz.pinned (.plain (OpenSpec.ofChange relexPlaysSpec)) relexPlaysCard

/-- THE SECOND FORM's CARD OF 'limnerlaw15.RelexPlays'. -/
def relexPlaysUptoCard : Claim7 := { stood := { row := relexPlaysUptoRow, standIns := [], harness := (true, "e1922444a288f7ca953da6398dddbc96d4306275e98a6f3cbbcfe0c3d2b0d16f"), looks := true }, kinds := [], alts := [], laidByText := true, laidKinds := [.data, .data, .data, .data, .mapped, .widerDeep, .pinned], laidTests := true, laidLooks := .later }
def RelexPlaysUptoCardSaid : Prop := Claim7.holds Tryz.pinned (.plain (OpenSpec.upto relexPlaysSpec)) relexPlaysUptoCard
end Rows
end Go.Proofs.YtlkmlfofhbekoaaGreatDoor
