/-
  DERIVED. GIVEN WITH THE SEED: THE CARDS: each row of YthiojfjndphkbaaDoorRows.lean that lists a variable, with what it lists TIED to the program's text (the seventh form; the later family's looks); each row that meets fmt, with fmt's text TOLD by the authors' own Lean function (tested against real Go, not proved from fmt's source: count such statements apart). THE CARD IS WHAT COUNTS. Prove the row's statement (the work); the ties are given (YthiojfjndphkbaaDoorTie.lean); close each card by the builder's one call (the guide's Derived/Test/ToyasCard.lean, 'card_holds'). Laid BY PROGRAM, IN A SANDBOX (cutbox-door.mjs). By AI agents, Wed Nov 11 2026. No macro, syntax, notation, axiom, sorry.
-/
import Derived.Test.YthiojfjndphkbaaDoorRows
import GoSem.ClaimSeven
namespace Go.Proofs.YthiojfjndphkbaaDoor
namespace Rows

/-- THE TIED CARD OF 'limnerlaw14.LexesNone'. -/
def lexesNoneCard : Claim7 := { stood := { row := lexesNoneRow, standIns := [], harness := (true, "adec903f6807eed4007ff52afd27ac8461c8a484213b9d4c58309fb09c401283"), looks := true }, kinds := [], alts := [], laidByText := true, laidKinds := [.data, .data, .data, .data, .mapped, .widerDeep, .pinned], laidTests := true, laidLooks := .later }
def LexesNoneCardSaid : Prop := Claim7.holds Tryd.pinned (.plain (OpenSpec.ofChange lexesNoneSpec)) lexesNoneCard

/-- THE TIED CARD OF 'limnerlaw14.LexesParts'. -/
def lexesPartsCard : Claim7 := { stood := { row := lexesPartsRow, standIns := [], harness := (true, "adec903f6807eed4007ff52afd27ac8461c8a484213b9d4c58309fb09c401283"), looks := true }, kinds := [], alts := [], laidByText := true, laidKinds := [.data, .data, .data, .data, .mapped, .widerDeep, .pinned], laidTests := true, laidLooks := .later }
def LexesPartsCardSaid : Prop := Claim7.holds Tryd.pinned (.plain (OpenSpec.ofChange lexesPartsSpec)) lexesPartsCard

/-- THE TIED CARD OF 'limnerlaw14.LexesAhead'. -/
def lexesAheadCard : Claim7 := { stood := { row := lexesAheadRow, standIns := [], harness := (true, "adec903f6807eed4007ff52afd27ac8461c8a484213b9d4c58309fb09c401283"), looks := true }, kinds := [], alts := [], laidByText := true, laidKinds := [.data, .data, .data, .data, .mapped, .widerDeep, .pinned], laidTests := true, laidLooks := .later }
def LexesAheadCardSaid : Prop := Claim7.holds Tryd.pinned (.plain (OpenSpec.ofChange lexesAheadSpec)) lexesAheadCard

/-- THE TIED CARD OF 'limnerlaw14.LexesFrom'. -/
def lexesFromCard : Claim7 := { stood := { row := lexesFromRow, standIns := [], harness := (true, "adec903f6807eed4007ff52afd27ac8461c8a484213b9d4c58309fb09c401283"), looks := true }, kinds := [], alts := [], laidByText := true, laidKinds := [.data, .data, .data, .data, .mapped, .widerDeep, .pinned], laidTests := true, laidLooks := .later }
def LexesFromCardSaid : Prop := Claim7.holds Tryd.pinned (.plain (OpenSpec.ofChange lexesFromSpec)) lexesFromCard

/-- THE SECOND FORM's CARD OF 'limnerlaw14.LexesNone'. -/
def lexesNoneUptoCard : Claim7 := { stood := { row := lexesNoneUptoRow, standIns := [], harness := (true, "adec903f6807eed4007ff52afd27ac8461c8a484213b9d4c58309fb09c401283"), looks := true }, kinds := [], alts := [], laidByText := true, laidKinds := [.data, .data, .data, .data, .mapped, .widerDeep, .pinned], laidTests := true, laidLooks := .later }
def LexesNoneUptoCardSaid : Prop := Claim7.holds Tryd.pinned (.plain (OpenSpec.upto lexesNoneSpec)) lexesNoneUptoCard

/-- THE SECOND FORM's CARD OF 'limnerlaw14.LexesParts'. -/
def lexesPartsUptoCard : Claim7 := { stood := { row := lexesPartsUptoRow, standIns := [], harness := (true, "adec903f6807eed4007ff52afd27ac8461c8a484213b9d4c58309fb09c401283"), looks := true }, kinds := [], alts := [], laidByText := true, laidKinds := [.data, .data, .data, .data, .mapped, .widerDeep, .pinned], laidTests := true, laidLooks := .later }
def LexesPartsUptoCardSaid : Prop := Claim7.holds Tryd.pinned (.plain (OpenSpec.upto lexesPartsSpec)) lexesPartsUptoCard

/-- THE SECOND FORM's CARD OF 'limnerlaw14.LexesAhead'. -/
def lexesAheadUptoCard : Claim7 := { stood := { row := lexesAheadUptoRow, standIns := [], harness := (true, "adec903f6807eed4007ff52afd27ac8461c8a484213b9d4c58309fb09c401283"), looks := true }, kinds := [], alts := [], laidByText := true, laidKinds := [.data, .data, .data, .data, .mapped, .widerDeep, .pinned], laidTests := true, laidLooks := .later }
def LexesAheadUptoCardSaid : Prop := Claim7.holds Tryd.pinned (.plain (OpenSpec.upto lexesAheadSpec)) lexesAheadUptoCard

/-- THE SECOND FORM's CARD OF 'limnerlaw14.LexesFrom'. -/
def lexesFromUptoCard : Claim7 := { stood := { row := lexesFromUptoRow, standIns := [], harness := (true, "adec903f6807eed4007ff52afd27ac8461c8a484213b9d4c58309fb09c401283"), looks := true }, kinds := [], alts := [], laidByText := true, laidKinds := [.data, .data, .data, .data, .mapped, .widerDeep, .pinned], laidTests := true, laidLooks := .later }
def LexesFromUptoCardSaid : Prop := Claim7.holds Tryd.pinned (.plain (OpenSpec.upto lexesFromSpec)) lexesFromUptoCard
end Rows
end Go.Proofs.YthiojfjndphkbaaDoor
