/-
  DERIVED. GIVEN WITH THE SEED: THE CARDS: each row of YtdgckfkoihcmjaaGreatDoorRows.lean that lists a variable, with what it lists TIED to the program's text (the seventh form; the later family's looks); each row that meets fmt, with fmt's text TOLD by the authors' own Lean function (tested against real Go, not proved from fmt's source: count such statements apart). THE CARD IS WHAT COUNTS. Prove the row's statement (the work); the ties are given (YtdgckfkoihcmjaaGreatDoorTie.lean); close each card by the builder's one call (the guide's Derived/Test/ToyasCard.lean, 'card_holds'). Laid BY PROGRAM, IN A SANDBOX (cutbox-door.mjs). By AI agents, Wed Nov 11 2026. No macro, syntax, notation, axiom, sorry.
-/
import Derived.Test.YtdgckfkoihcmjaaGreatDoorRows
import GoSem.ClaimSeven
namespace Go.Proofs.YtdgckfkoihcmjaaGreatDoor
namespace Rows

/-- THE TIED CARD OF 'limnerlaw30.ValuesNumbers'. -/
def valuesNumbersCard : Claim7 := { stood := { row := valuesNumbersRow, standIns := [], harness := (true, "14ebbd8ff49bba63b59fb3d730cce8a7189e0c0a13678bf61998bfbada8be698"), looks := true }, kinds := [], alts := [], laidByText := true, laidKinds := [.data, .data, .data, .data, .sentinel, .sentinel, .mapped, .widerDeep, .widerDeep, .widerDeep, .widerDeep, .pinned], laidTests := true, laidLooks := .later }
def ValuesNumbersCardSaid : Prop := Claim7.holds Tryz.pinned (.plain (OpenSpec.ofChange valuesNumbersSpec)) valuesNumbersCard

/-- THE TIED CARD OF 'limnerlaw30.ValuesEnds'. -/
def valuesEndsCard : Claim7 := { stood := { row := valuesEndsRow, standIns := [], harness := (true, "14ebbd8ff49bba63b59fb3d730cce8a7189e0c0a13678bf61998bfbada8be698"), looks := true }, kinds := [], alts := [], laidByText := true, laidKinds := [.data, .data, .data, .data, .sentinel, .sentinel, .mapped, .widerDeep, .widerDeep, .widerDeep, .widerDeep, .pinned], laidTests := true, laidLooks := .later }
def ValuesEndsCardSaid : Prop := Claim7.holds Tryz.pinned (.plain (OpenSpec.ofChange valuesEndsSpec)) valuesEndsCard

/-- THE SECOND FORM's CARD OF 'limnerlaw30.ValuesNumbers'. -/
def valuesNumbersUptoCard : Claim7 := { stood := { row := valuesNumbersUptoRow, standIns := [], harness := (true, "14ebbd8ff49bba63b59fb3d730cce8a7189e0c0a13678bf61998bfbada8be698"), looks := true }, kinds := [], alts := [], laidByText := true, laidKinds := [.data, .data, .data, .data, .sentinel, .sentinel, .mapped, .widerDeep, .widerDeep, .widerDeep, .widerDeep, .pinned], laidTests := true, laidLooks := .later }
def ValuesNumbersUptoCardSaid : Prop := Claim7.holds Tryz.pinned (.plain (OpenSpec.upto valuesNumbersSpec)) valuesNumbersUptoCard

/-- THE SECOND FORM's CARD OF 'limnerlaw30.ValuesEnds'. -/
def valuesEndsUptoCard : Claim7 := { stood := { row := valuesEndsUptoRow, standIns := [], harness := (true, "14ebbd8ff49bba63b59fb3d730cce8a7189e0c0a13678bf61998bfbada8be698"), looks := true }, kinds := [], alts := [], laidByText := true, laidKinds := [.data, .data, .data, .data, .sentinel, .sentinel, .mapped, .widerDeep, .widerDeep, .widerDeep, .widerDeep, .pinned], laidTests := true, laidLooks := .later }
def ValuesEndsUptoCardSaid : Prop := Claim7.holds Tryz.pinned (.plain (OpenSpec.upto valuesEndsSpec)) valuesEndsUptoCard
end Rows
end Go.Proofs.YtdgckfkoihcmjaaGreatDoor
