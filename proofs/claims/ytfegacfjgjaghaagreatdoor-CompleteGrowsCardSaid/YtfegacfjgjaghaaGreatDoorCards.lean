/-
  DERIVED. GIVEN WITH THE SEED: THE CARDS: each row of YtfegacfjgjaghaaGreatDoorRows.lean that lists a variable, with what it lists TIED to the program's text (the seventh form; the later family's looks); each row that meets fmt, with fmt's text TOLD by the authors' own Lean function (tested against real Go, not proved from fmt's source: count such statements apart). THE CARD IS WHAT COUNTS. Prove the row's statement (the work); the ties are given (YtfegacfjgjaghaaGreatDoorTie.lean); close each card by the builder's one call (the guide's Derived/Test/ToyasCard.lean, 'card_holds'). Laid BY PROGRAM, IN A SANDBOX (cutbox-door.mjs). By AI agents, Wed Nov 11 2026. No macro, syntax, notation, axiom, sorry.
-/
import Derived.Test.YtfegacfjgjaghaaGreatDoorRows
import GoSem.ClaimSeven
namespace Go.Proofs.YtfegacfjgjaghaaGreatDoor
namespace Rows

/-- THE TIED CARD OF 'limnerlaw32.CompleteOf'. -/
def completeOfCard : Claim7 := { stood := { row := completeOfRow, standIns := [], harness := (true, "ff406c8c9e90da06424059441ae462ec1aea58566a65033e6e6d83ef73d9b5b9"), looks := true }, kinds := [], alts := [], laidByText := true, laidKinds := [.data, .data, .data, .data, .widerDeep, .mapped, .widerDeep, .pinned], laidTests := true, laidLooks := .later }
def CompleteOfCardSaid : Prop := Claim7.holds Tryz.pinned (.plain (OpenSpec.ofChange completeOfSpec)) completeOfCard

/-- THE TIED CARD OF 'limnerlaw32.CompleteRaw'. -/
def completeRawCard : Claim7 := { stood := { row := completeRawRow, standIns := [], harness := (true, "ff406c8c9e90da06424059441ae462ec1aea58566a65033e6e6d83ef73d9b5b9"), looks := true }, kinds := [], alts := [], laidByText := true, laidKinds := [.data, .data, .data, .data, .widerDeep, .mapped, .widerDeep, .pinned], laidTests := true, laidLooks := .later }
def CompleteRawCardSaid : Prop := Claim7.holds Tryz.pinned (.plain (OpenSpec.ofChange completeRawSpec)) completeRawCard

/-- THE TIED CARD OF 'limnerlaw32.CompleteGrows'. -/
def completeGrowsCard : Claim7 := { stood := { row := completeGrowsRow, standIns := [], harness := (true, "ff406c8c9e90da06424059441ae462ec1aea58566a65033e6e6d83ef73d9b5b9"), looks := true }, kinds := [], alts := [], laidByText := true, laidKinds := [.data, .data, .data, .data, .widerDeep, .mapped, .widerDeep, .pinned], laidTests := true, laidLooks := .later }
def CompleteGrowsCardSaid : Prop := Claim7.holds Tryz.pinned (.plain (OpenSpec.ofChange completeGrowsSpec)) completeGrowsCard

/-- THE SECOND FORM's CARD OF 'limnerlaw32.CompleteOf'. -/
def completeOfUptoCard : Claim7 := { stood := { row := completeOfUptoRow, standIns := [], harness := (true, "ff406c8c9e90da06424059441ae462ec1aea58566a65033e6e6d83ef73d9b5b9"), looks := true }, kinds := [], alts := [], laidByText := true, laidKinds := [.data, .data, .data, .data, .widerDeep, .mapped, .widerDeep, .pinned], laidTests := true, laidLooks := .later }
def CompleteOfUptoCardSaid : Prop := Claim7.holds Tryz.pinned (.plain (OpenSpec.upto completeOfSpec)) completeOfUptoCard

/-- THE SECOND FORM's CARD OF 'limnerlaw32.CompleteRaw'. -/
def completeRawUptoCard : Claim7 := { stood := { row := completeRawUptoRow, standIns := [], harness := (true, "ff406c8c9e90da06424059441ae462ec1aea58566a65033e6e6d83ef73d9b5b9"), looks := true }, kinds := [], alts := [], laidByText := true, laidKinds := [.data, .data, .data, .data, .widerDeep, .mapped, .widerDeep, .pinned], laidTests := true, laidLooks := .later }
def CompleteRawUptoCardSaid : Prop := Claim7.holds Tryz.pinned (.plain (OpenSpec.upto completeRawSpec)) completeRawUptoCard

/-- THE SECOND FORM's CARD OF 'limnerlaw32.CompleteGrows'. -/
def completeGrowsUptoCard : Claim7 := { stood := { row := completeGrowsUptoRow, standIns := [], harness := (true, "ff406c8c9e90da06424059441ae462ec1aea58566a65033e6e6d83ef73d9b5b9"), looks := true }, kinds := [], alts := [], laidByText := true, laidKinds := [.data, .data, .data, .data, .widerDeep, .mapped, .widerDeep, .pinned], laidTests := true, laidLooks := .later }
def CompleteGrowsUptoCardSaid : Prop := Claim7.holds Tryz.pinned (.plain (OpenSpec.upto completeGrowsSpec)) completeGrowsUptoCard
end Rows
end Go.Proofs.YtfegacfjgjaghaaGreatDoor
