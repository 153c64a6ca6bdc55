/-
  DERIVED. GIVEN WITH THE SEED: THE CARDS: each row of YtedocgkapmeceaaGreatDoorRows.lean that lists a variable, with what it lists TIED to the program's text (the seventh form; the later family's looks); each row that meets fmt, with fmt's text TOLD by the authors' own Lean function (tested against real Go, not proved from fmt's source: count such statements apart). THE CARD IS WHAT COUNTS. Prove the row's statement (the work); the ties are given (YtedocgkapmeceaaGreatDoorTie.lean); close each card by the builder's one call (the guide's Derived/Test/ToyasCard.lean, 'card_holds'). Laid BY PROGRAM, IN A SANDBOX (cutbox-door.mjs). By AI agents, Wed Nov 11 2026. No macro, syntax, notation, axiom, sorry.
-/
import Derived.Test.YtedocgkapmeceaaGreatDoorRows
import GoSem.ClaimSeven
namespace Go.Proofs.YtedocgkapmeceaaGreatDoor
namespace Rows

/-- THE TIED CARD OF 'limnerlaw29.ExprsParse'. -/
def exprsParseCard : Claim7 := { stood := { row := exprsParseRow, standIns := [], harness := (true, "cd8eee65873472536307412df3223d8c6368c3fc44c1adcccf8064fd5ff2837c"), looks := true }, kinds := [], alts := [], laidByText := true, laidKinds := [.data, .data, .data, .data, .mapped, .widerDeep, .widerDeep, .widerDeep, .widerDeep, .pinned], laidTests := true, laidLooks := .later }
def ExprsParseCardSaid : Prop := Claim7.holds Tryz.pinned (.plain (OpenSpec.ofChange exprsParseSpec)) exprsParseCard

/-- THE TIED CARD OF 'limnerlaw29.ExprsShow'. -/
def exprsShowCard : Claim7 := { stood := { row := exprsShowRow, standIns := [], harness := (true, "cd8eee65873472536307412df3223d8c6368c3fc44c1adcccf8064fd5ff2837c"), looks := true }, kinds := [], alts := [], laidByText := true, laidKinds := [.data, .data, .data, .data, .mapped, .widerDeep, .widerDeep, .widerDeep, .widerDeep, .pinned], laidTests := true, laidLooks := .later }
def ExprsShowCardSaid : Prop := Claim7.holds Tryz.pinned (.plain (OpenSpec.ofChange exprsShowSpec)) exprsShowCard

/-- THE TIED CARD OF 'limnerlaw29.ExprsBack'. -/
def exprsBackCard : Claim7 := { stood := { row := exprsBackRow, standIns := [], harness := (true, "cd8eee65873472536307412df3223d8c6368c3fc44c1adcccf8064fd5ff2837c"), looks := true }, kinds := [], alts := [], laidByText := true, laidKinds := [.data, .data, .data, .data, .mapped, .widerDeep, .widerDeep, .widerDeep, .widerDeep, .pinned], laidTests := true, laidLooks := .later }
def ExprsBackCardSaid : Prop := Claim7.holds Tryz.pinned (.plain (OpenSpec.ofChange exprsBackSpec)) exprsBackCard

/-- THE TIED CARD OF 'limnerlaw29.ExprsBlank'. -/
def exprsBlankCard : Claim7 := { stood := { row := exprsBlankRow, standIns := [], harness := (true, "cd8eee65873472536307412df3223d8c6368c3fc44c1adcccf8064fd5ff2837c"), looks := true }, kinds := [], alts := [], laidByText := true, laidKinds := [.data, .data, .data, .data, .mapped, .widerDeep, .widerDeep, .widerDeep, .widerDeep, .pinned], laidTests := true, laidLooks := .later }
def ExprsBlankCardSaid : Prop := Claim7.holds Tryz.pinned (.plain (OpenSpec.ofChange exprsBlankSpec)) exprsBlankCard

/-- THE SECOND FORM's CARD OF 'limnerlaw29.ExprsParse'. -/
def exprsParseUptoCard : Claim7 := { stood := { row := exprsParseUptoRow, standIns := [], harness := (true, "cd8eee65873472536307412df3223d8c6368c3fc44c1adcccf8064fd5ff2837c"), looks := true }, kinds := [], alts := [], laidByText := true, laidKinds := [.data, .data, .data, .data, .mapped, .widerDeep, .widerDeep, .widerDeep, .widerDeep, .pinned], laidTests := true, laidLooks := .later }
def ExprsParseUptoCardSaid : Prop := Claim7.holds Tryz.pinned (.plain (OpenSpec.upto exprsParseSpec)) exprsParseUptoCard

/-- THE SECOND FORM's CARD OF 'limnerlaw29.ExprsShow'. -/
def exprsShowUptoCard : Claim7 := { stood := { row := exprsShowUptoRow, standIns := [], harness := (true, "cd8eee65873472536307412df3223d8c6368c3fc44c1adcccf8064fd5ff2837c"), looks := true }, kinds := [], alts := [], laidByText := true, laidKinds := [.data, .data, .data, .data, .mapped, .widerDeep, .widerDeep, .widerDeep, .widerDeep, .pinned], laidTests := true, laidLooks := .later }
def ExprsShowUptoCardSaid : Prop := Claim7.holds Tryz.pinned (.plain (OpenSpec.upto exprsShowSpec)) exprsShowUptoCard

/-- THE SECOND FORM's CARD OF 'limnerlaw29.ExprsBack'. -/
def exprsBackUptoCard : Claim7 := { stood := { row := exprsBackUptoRow, standIns := [], harness := (true, "cd8eee65873472536307412df3223d8c6368c3fc44c1adcccf8064fd5ff2837c"), looks := true }, kinds := [], alts := [], laidByText := true, laidKinds := [.data, .data, .data, .data, .mapped, .widerDeep, .widerDeep, .widerDeep, .widerDeep, .pinned], laidTests := true, laidLooks := .later }
def ExprsBackUptoCardSaid : Prop := Claim7.holds Tryz.pinned (.plain (OpenSpec.upto exprsBackSpec)) exprsBackUptoCard

/-- THE SECOND FORM's CARD OF 'limnerlaw29.ExprsBlank'. -/
def exprsBlankUptoCard : Claim7 := { stood := { row := exprsBlankUptoRow, standIns := [], harness := (true, "cd8eee65873472536307412df3223d8c6368c3fc44c1adcccf8064fd5ff2837c"), looks := true }, kinds := [], alts := [], laidByText := true, laidKinds := [.data, .data, .data, .data, .mapped, .widerDeep, .widerDeep, .widerDeep, .widerDeep, .pinned], laidTests := true, laidLooks := .later }
def ExprsBlankUptoCardSaid : Prop := Claim7.holds Tryz.pinned (.plain (OpenSpec.upto exprsBlankSpec)) exprsBlankUptoCard
end Rows
end Go.Proofs.YtedocgkapmeceaaGreatDoor
