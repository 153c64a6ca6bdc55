/-
  DERIVED. GIVEN WITH THE SEED: THE CARDS: each row of YtnjahnbpnpkmhaaGreatDoorRows.lean that lists a variable, with what it lists TIED to the program's text (the seventh form; the later family's looks); each row that meets fmt, with fmt's text TOLD by the authors' own Lean function (tested against real Go, not proved from fmt's source: count such statements apart). THE CARD IS WHAT COUNTS. Prove the row's statement (the work); the ties are given (YtnjahnbpnpkmhaaGreatDoorTie.lean); close each card by the builder's one call (the guide's Derived/Test/ToyasCard.lean, 'card_holds'). Laid BY PROGRAM, IN A SANDBOX (cutbox-door.mjs). By AI agents, Wed Nov 11 2026. No macro, syntax, notation, axiom, sorry.
-/
import Derived.Test.YtnjahnbpnpkmhaaGreatDoorRows
import GoSem.ClaimSeven
namespace Go.Proofs.YtnjahnbpnpkmhaaGreatDoor
namespace Rows

/-- THE TIED CARD OF 'limnerlaw29.ExprsParse'. -/
def exprsParseCard : Claim7 := { stood := { row := exprsParseRow, standIns := [], harness := (true, "55ce459f3214517f8d6d7100805181342285148c33e3e4fae11c32feb995bb9b"), looks := true }, kinds := [], alts := [], laidByText := true, laidKinds := [.data, .data, .data, .data, .mapped, .widerDeep, .widerDeep, .widerDeep, .widerDeep, .pinned], laidTests := true, laidLooks := .later }
def ExprsParseCardSaid : Prop := Claim7.holds Tryz.pinned (.plain (OpenSpec.ofChange exprsParseSpec)) exprsParseCard

/-- THE SECOND FORM's CARD OF 'limnerlaw29.ExprsParse'. -/
def exprsParseUptoCard : Claim7 := { stood := { row := exprsParseUptoRow, standIns := [], harness := (true, "55ce459f3214517f8d6d7100805181342285148c33e3e4fae11c32feb995bb9b"), looks := true }, kinds := [], alts := [], laidByText := true, laidKinds := [.data, .data, .data, .data, .mapped, .widerDeep, .widerDeep, .widerDeep, .widerDeep, .pinned], laidTests := true, laidLooks := .later }
def ExprsParseUptoCardSaid : Prop := Claim7.holds Tryz.pinned (.plain (OpenSpec.upto exprsParseSpec)) exprsParseUptoCard
end Rows
end Go.Proofs.YtnjahnbpnpkmhaaGreatDoor
