/-
  DERIVED. GIVEN WITH THE SEED: THE CARDS: each row of YtoickfdopobmgaaGreatDoorRows.lean that lists a variable, with what it lists TIED to the program's text (the seventh form; the later family's looks); each row that meets fmt, with fmt's text TOLD by the authors' own Lean function (tested against real Go, not proved from fmt's source: count such statements apart). THE CARD IS WHAT COUNTS. Prove the row's statement (the work); the ties are given (YtoickfdopobmgaaGreatDoorTie.lean); close each card by the builder's one call (the guide's Derived/Test/ToyasCard.lean, 'card_holds'). Laid BY PROGRAM, IN A SANDBOX (cutbox-door.mjs). By AI agents, Wed Nov 11 2026. No macro, syntax, notation, axiom, sorry.
-/
import Derived.Test.YtoickfdopobmgaaGreatDoorRows
import GoSem.ClaimSeven
namespace Go.Proofs.YtoickfdopobmgaaGreatDoor
namespace Rows

/-- THE TIED CARD OF 'limnerlaw31.SessionWhole'. -/
def sessionWholeCard : Claim7 := { stood := { row := sessionWholeRow, standIns := [], harness := (true, "40bd9d0d9e76219d27a056efd26a67143dfb3cec84e42eb7117cc9d85522b760"), looks := true }, kinds := [], alts := [], laidByText := true, laidKinds := [.data, .data, .data, .data, .sentinel, .sentinel, .mapped, .widerDeep, .widerDeep, .widerDeep, .widerDeep, .pinned], laidTests := true, laidLooks := .later }
def SessionWholeCardSaid : Prop := Claim7.holds Tryz.pinned (.plain (OpenSpec.ofChange sessionWholeSpec)) sessionWholeCard

/-- THE SECOND FORM's CARD OF 'limnerlaw31.SessionWhole'. -/
def sessionWholeUptoCard : Claim7 := { stood := { row := sessionWholeUptoRow, standIns := [], harness := (true, "40bd9d0d9e76219d27a056efd26a67143dfb3cec84e42eb7117cc9d85522b760"), looks := true }, kinds := [], alts := [], laidByText := true, laidKinds := [.data, .data, .data, .data, .sentinel, .sentinel, .mapped, .widerDeep, .widerDeep, .widerDeep, .widerDeep, .pinned], laidTests := true, laidLooks := .later }
def SessionWholeUptoCardSaid : Prop := Claim7.holds Tryz.pinned (.plain (OpenSpec.upto sessionWholeSpec)) sessionWholeUptoCard
end Rows
end Go.Proofs.YtoickfdopobmgaaGreatDoor
