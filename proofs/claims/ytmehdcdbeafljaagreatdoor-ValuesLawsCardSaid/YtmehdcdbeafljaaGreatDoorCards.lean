/-
  DERIVED. GIVEN WITH THE SEED: THE CARDS: each row of YtmehdcdbeafljaaGreatDoorRows.lean that lists a variable, with what it lists TIED to the program's text (the seventh form; the later family's looks); each row that meets fmt, with fmt's text TOLD by the authors' own Lean function (tested against real Go, not proved from fmt's source: count such statements apart). THE CARD IS WHAT COUNTS. Prove the row's statement (the work); the ties are given (YtmehdcdbeafljaaGreatDoorTie.lean); close each card by the builder's one call (the guide's Derived/Test/ToyasCard.lean, 'card_holds'). Laid BY PROGRAM, IN A SANDBOX (cutbox-door.mjs). By AI agents, Wed Nov 11 2026. No macro, syntax, notation, axiom, sorry.
-/
import Derived.Test.YtmehdcdbeafljaaGreatDoorRows
import GoSem.ClaimSeven
namespace Go.Proofs.YtmehdcdbeafljaaGreatDoor
namespace Rows

/-- THE TIED CARD OF 'limnerlaw29.ExprsBack'. -/
def exprsBackCard : Claim7 := { stood := { row := exprsBackRow, standIns := [], harness := (true, "59ba2534eeb8d62116b3feba8fb8f1092f1d2a421e4562931cae5bbb98eea26c"), looks := true }, kinds := [], alts := [], laidByText := true, laidKinds := [.data, .data, .data, .data, .mapped, .widerDeep, .widerDeep, .widerDeep, .widerDeep, .pinned], laidTests := true, laidLooks := .later }
def ExprsBackCardSaid : Prop := Claim7.holds Tryz.pinned (.plain (OpenSpec.ofChange exprsBackSpec)) exprsBackCard

/-- THE TIED CARD OF 'limnerlaw29.ExprsBlank'. -/
def exprsBlankCard : Claim7 := { stood := { row := exprsBlankRow, standIns := [], harness := (true, "59ba2534eeb8d62116b3feba8fb8f1092f1d2a421e4562931cae5bbb98eea26c"), looks := true }, kinds := [], alts := [], laidByText := true, laidKinds := [.data, .data, .data, .data, .mapped, .widerDeep, .widerDeep, .widerDeep, .widerDeep, .pinned], laidTests := true, laidLooks := .later }
def ExprsBlankCardSaid : Prop := Claim7.holds Tryz.pinned (.plain (OpenSpec.ofChange exprsBlankSpec)) exprsBlankCard

/-- THE TIED CARD OF 'limnerlaw30.ValuesNumbers'. -/
def valuesNumbersCard : Claim7 := { stood := { row := valuesNumbersRow, standIns := [], harness := (true, "59ba2534eeb8d62116b3feba8fb8f1092f1d2a421e4562931cae5bbb98eea26c"), looks := true }, kinds := [], alts := [], laidByText := true, laidKinds := [.data, .data, .data, .data, .sentinel, .sentinel, .mapped, .widerDeep, .widerDeep, .widerDeep, .widerDeep, .pinned], laidTests := true, laidLooks := .later }
def ValuesNumbersCardSaid : Prop := Claim7.holds Tryz.pinned (.plain (OpenSpec.ofChange valuesNumbersSpec)) valuesNumbersCard

/-- THE TIED CARD OF 'limnerlaw30.ValuesEnds'. -/
def valuesEndsCard : Claim7 := { stood := { row := valuesEndsRow, standIns := [], harness := (true, "59ba2534eeb8d62116b3feba8fb8f1092f1d2a421e4562931cae5bbb98eea26c"), looks := true }, kinds := [], alts := [], laidByText := true, laidKinds := [.data, .data, .data, .data, .sentinel, .sentinel, .mapped, .widerDeep, .widerDeep, .widerDeep, .widerDeep, .pinned], laidTests := true, laidLooks := .later }
def ValuesEndsCardSaid : Prop := Claim7.holds Tryz.pinned (.plain (OpenSpec.ofChange valuesEndsSpec)) valuesEndsCard

/-- THE TIED CARD OF 'limnerlaw30.ValuesLaws'. -/
def valuesLawsCard : Claim7 := { stood := { row := valuesLawsRow, standIns := [], harness := (true, "59ba2534eeb8d62116b3feba8fb8f1092f1d2a421e4562931cae5bbb98eea26c"), looks := true }, kinds := [], alts := [], laidByText := true, laidKinds := [.data, .data, .data, .data, .sentinel, .sentinel, .mapped, .widerDeep, .widerDeep, .widerDeep, .widerDeep, .pinned], laidTests := true, laidLooks := .later }
def ValuesLawsCardSaid : Prop := Claim7.holds Tryz.pinned (.plain (OpenSpec.ofChange valuesLawsSpec)) valuesLawsCard

/-- THE SECOND FORM's CARD OF 'limnerlaw29.ExprsBack'. -/
def exprsBackUptoCard : Claim7 := { stood := { row := exprsBackUptoRow, standIns := [], harness := (true, "59ba2534eeb8d62116b3feba8fb8f1092f1d2a421e4562931cae5bbb98eea26c"), looks := true }, kinds := [], alts := [], laidByText := true, laidKinds := [.data, .data, .data, .data, .mapped, .widerDeep, .widerDeep, .widerDeep, .widerDeep, .pinned], laidTests := true, laidLooks := .later }
def ExprsBackUptoCardSaid : Prop := Claim7.holds Tryz.pinned (.plain (OpenSpec.upto exprsBackSpec)) exprsBackUptoCard

/-- THE SECOND FORM's CARD OF 'limnerlaw29.ExprsBlank'. -/
def exprsBlankUptoCard : Claim7 := { stood := { row := exprsBlankUptoRow, standIns := [], harness := (true, "59ba2534eeb8d62116b3feba8fb8f1092f1d2a421e4562931cae5bbb98eea26c"), looks := true }, kinds := [], alts := [], laidByText := true, laidKinds := [.data, .data, .data, .data, .mapped, .widerDeep, .widerDeep, .widerDeep, .widerDeep, .pinned], laidTests := true, laidLooks := .later }
def ExprsBlankUptoCardSaid : Prop := Claim7.holds Tryz.pinned (.plain (OpenSpec.upto exprsBlankSpec)) exprsBlankUptoCard

/-- THE SECOND FORM's CARD OF 'limnerlaw30.ValuesNumbers'. -/
def valuesNumbersUptoCard : Claim7 := { stood := { row := valuesNumbersUptoRow, standIns := [], harness := (true, "59ba2534eeb8d62116b3feba8fb8f1092f1d2a421e4562931cae5bbb98eea26c"), looks := true }, kinds := [], alts := [], laidByText := true, laidKinds := [.data, .data, .data, .data, .sentinel, .sentinel, .mapped, .widerDeep, .widerDeep, .widerDeep, .widerDeep, .pinned], laidTests := true, laidLooks := .later }
def ValuesNumbersUptoCardSaid : Prop := Claim7.holds Tryz.pinned (.plain (OpenSpec.upto valuesNumbersSpec)) valuesNumbersUptoCard

/-- THE SECOND FORM's CARD OF 'limnerlaw30.ValuesEnds'. -/
def valuesEndsUptoCard : Claim7 := { stood := { row := valuesEndsUptoRow, standIns := [], harness := (true, "59ba2534eeb8d62116b3feba8fb8f1092f1d2a421e4562931cae5bbb98eea26c"), looks := true }, kinds := [], alts := [], laidByText := true, laidKinds := [.data, .data, .data, .data, .sentinel, .sentinel, .mapped, .widerDeep, .widerDeep, .widerDeep, .widerDeep, .pinned], laidTests := true, laidLooks := .later }
def ValuesEndsUptoCardSaid : Prop := Claim7.holds Tryz.pinned (.plain (OpenSpec.upto valuesEndsSpec)) valuesEndsUptoCard

/-- THE SECOND FORM's CARD OF 'limnerlaw30.ValuesLaws'. -/
def valuesLawsUptoCard : Claim7 := { stood := { row := valuesLawsUptoRow, standIns := [], harness := (true, "59ba2534eeb8d62116b3feba8fb8f1092f1d2a421e4562931cae5bbb98eea26c"), looks := true }, kinds := [], alts := [], laidByText := true, laidKinds := [.data, .data, .data, .data, .sentinel, .sentinel, .mapped, .widerDeep, .widerDeep, .widerDeep, .widerDeep, .pinned], laidTests := true, laidLooks := .later }
def ValuesLawsUptoCardSaid : Prop := Claim7.holds Tryz.pinned (.plain (OpenSpec.upto valuesLawsSpec)) valuesLawsUptoCard
end Rows
end Go.Proofs.YtmehdcdbeafljaaGreatDoor
