/-
  DERIVED. GIVEN WITH THE SEED: THE CARDS: each row of YtdihgdeciopfpaaGreatDoorRows.lean that lists a variable, with what it lists TIED to the program's text (the seventh form; the later family's looks); each row that meets fmt, with fmt's text TOLD by the authors' own Lean function (tested against real Go, not proved from fmt's source: count such statements apart). THE CARD IS WHAT COUNTS. Prove the row's statement (the work); the ties are given (YtdihgdeciopfpaaGreatDoorTie.lean); close each card by the builder's one call (the guide's Derived/Test/ToyasCard.lean, 'card_holds'). Laid BY PROGRAM, IN A SANDBOX (cutbox-door.mjs). By AI agents, Wed Nov 11 2026. No macro, syntax, notation, axiom, sorry.
-/
import Derived.Test.YtdihgdeciopfpaaGreatDoorRows
import GoSem.ClaimSeven
namespace Go.Proofs.YtdihgdeciopfpaaGreatDoor
namespace Rows

/-- THE TIED CARD OF 'limnerlaw28.WorldsNone'. -/
def worldsNoneCard : Claim7 := { stood := { row := worldsNoneRow, standIns := [], harness := (true, "8afe56610b5222e914b2470764314f339019c675ce69d56785e7f6713e8b0306"), looks := true }, kinds := [], alts := [], laidByText := true, laidKinds := [.data, .data, .data, .data, .widerDeep, .widerDeep, .data, .data, .mapped, .widerDeep, .data, .pinned], laidTests := true, laidLooks := .later }
def WorldsNoneCardSaid : Prop := Claim7.holds Tryz.pinned (.plain (OpenSpec.ofChange worldsNoneSpec)) worldsNoneCard

/-- THE TIED CARD OF 'limnerlaw36.CastsGet'. -/
def castsGetCard : Claim7 := { stood := { row := castsGetRow, standIns := [], harness := (true, "8afe56610b5222e914b2470764314f339019c675ce69d56785e7f6713e8b0306"), looks := true }, kinds := [], alts := [], laidByText := true, laidKinds := [.data, .data, .data, .data, .sentinel, .sentinel, .widerDeep, .widerDeep, .data, .data, .mapped, .widerDeep, .data, .pinned], laidTests := true, laidLooks := .later }
def CastsGetCardSaid : Prop := Claim7.holds Tryz.pinned (.plain (OpenSpec.ofChange castsGetSpec)) castsGetCard

/-- THE SECOND FORM's CARD OF 'limnerlaw28.WorldsNone'. -/
def worldsNoneUptoCard : Claim7 := { stood := { row := worldsNoneUptoRow, standIns := [], harness := (true, "8afe56610b5222e914b2470764314f339019c675ce69d56785e7f6713e8b0306"), looks := true }, kinds := [], alts := [], laidByText := true, laidKinds := [.data, .data, .data, .data, .widerDeep, .widerDeep, .data, .data, .mapped, .widerDeep, .data, .pinned], laidTests := true, laidLooks := .later }
def WorldsNoneUptoCardSaid : Prop := Claim7.holds Tryz.pinned (.plain (OpenSpec.upto worldsNoneSpec)) worldsNoneUptoCard

/-- THE SECOND FORM's CARD OF 'limnerlaw36.CastsGet'. -/
def castsGetUptoCard : Claim7 := { stood := { row := castsGetUptoRow, standIns := [], harness := (true, "8afe56610b5222e914b2470764314f339019c675ce69d56785e7f6713e8b0306"), looks := true }, kinds := [], alts := [], laidByText := true, laidKinds := [.data, .data, .data, .data, .sentinel, .sentinel, .widerDeep, .widerDeep, .data, .data, .mapped, .widerDeep, .data, .pinned], laidTests := true, laidLooks := .later }
def CastsGetUptoCardSaid : Prop := Claim7.holds Tryz.pinned (.plain (OpenSpec.upto castsGetSpec)) castsGetUptoCard
end Rows
end Go.Proofs.YtdihgdeciopfpaaGreatDoor
