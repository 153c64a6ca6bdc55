/-
  DERIVED. GIVEN WITH THE SEED: THE CARDS: each row of YteicdopggikieaaDoorRows.lean that lists a variable, with what it lists TIED to the program's text (the seventh form; the later family's looks); each row that meets fmt, with fmt's text TOLD by the authors' own Lean function (tested against real Go, not proved from fmt's source: count such statements apart). THE CARD IS WHAT COUNTS. Prove the row's statement (the work); the ties are given (YteicdopggikieaaDoorTie.lean); close each card by the builder's one call (the guide's Derived/Test/ToyasCard.lean, 'card_holds'). Laid BY PROGRAM, IN A SANDBOX (cutbox-door.mjs). By AI agents, Wed Nov 11 2026. No macro, syntax, notation, axiom, sorry.
-/
import Derived.Test.YteicdopggikieaaDoorRows
import GoSem.ClaimSeven
namespace Go.Proofs.YteicdopggikieaaDoor
namespace Rows

/-- THE TIED CARD OF 'limnerlaw34.MacrosName'. -/
def macrosNameCard : Claim7 := { stood := { row := macrosNameRow, standIns := [], harness := (true, "6a4275325463f0f6ed01d7ed9286466bc72f02a4f095d5b8fbf8fd2a44fee623"), looks := true }, kinds := [], alts := [], laidByText := true, laidKinds := [.data, .data, .data, .data, .sentinel, .sentinel, .widerDeep, .pinned], laidTests := true, laidLooks := .later }
def MacrosNameCardSaid : Prop := Claim7.holds Tryd.pinned (.plain (OpenSpec.ofChange macrosNameSpec)) macrosNameCard

/-- THE TIED CARD OF 'limnerlaw34.MacrosGet'. -/
def macrosGetCard : Claim7 := { stood := { row := macrosGetRow, standIns := [], harness := (true, "6a4275325463f0f6ed01d7ed9286466bc72f02a4f095d5b8fbf8fd2a44fee623"), looks := true }, kinds := [], alts := [], laidByText := true, laidKinds := [.data, .data, .data, .data, .sentinel, .sentinel, .widerDeep, .pinned], laidTests := true, laidLooks := .later }
def MacrosGetCardSaid : Prop := Claim7.holds Tryd.pinned (.plain (OpenSpec.ofChange macrosGetSpec)) macrosGetCard

/-- THE TIED CARD OF 'limnerlaw34.MacrosBack'. -/
def macrosBackCard : Claim7 := { stood := { row := macrosBackRow, standIns := [], harness := (true, "6a4275325463f0f6ed01d7ed9286466bc72f02a4f095d5b8fbf8fd2a44fee623"), looks := true }, kinds := [], alts := [], laidByText := true, laidKinds := [.data, .data, .data, .data, .sentinel, .sentinel, .widerDeep, .pinned], laidTests := true, laidLooks := .later }
def MacrosBackCardSaid : Prop := Claim7.holds Tryd.pinned (.plain (OpenSpec.ofChange macrosBackSpec)) macrosBackCard

/-- THE TIED CARD OF 'limnerlaw34.MacrosFull'. -/
def macrosFullCard : Claim7 := { stood := { row := macrosFullRow, standIns := [], harness := (true, "6a4275325463f0f6ed01d7ed9286466bc72f02a4f095d5b8fbf8fd2a44fee623"), looks := true }, kinds := [], alts := [], laidByText := true, laidKinds := [.data, .data, .data, .data, .sentinel, .sentinel, .widerDeep, .pinned], laidTests := true, laidLooks := .later }
def MacrosFullCardSaid : Prop := Claim7.holds Tryd.pinned (.plain (OpenSpec.ofChange macrosFullSpec)) macrosFullCard

/-- THE TIED CARD OF 'limnerlaw34.MacrosKeep'. -/
def macrosKeepCard : Claim7 := { stood := { row := macrosKeepRow, standIns := [], harness := (true, "6a4275325463f0f6ed01d7ed9286466bc72f02a4f095d5b8fbf8fd2a44fee623"), looks := true }, kinds := [], alts := [], laidByText := true, laidKinds := [.data, .data, .data, .data, .sentinel, .sentinel, .widerDeep, .pinned], laidTests := true, laidLooks := .later }
def MacrosKeepCardSaid : Prop := Claim7.holds Tryd.pinned (.plain (OpenSpec.ofChange macrosKeepSpec)) macrosKeepCard

/-- THE TIED CARD OF 'limnerlaw34.MacrosNone'. -/
def macrosNoneCard : Claim7 := { stood := { row := macrosNoneRow, standIns := [], harness := (true, "6a4275325463f0f6ed01d7ed9286466bc72f02a4f095d5b8fbf8fd2a44fee623"), looks := true }, kinds := [], alts := [], laidByText := true, laidKinds := [.data, .data, .data, .data, .sentinel, .sentinel, .widerDeep, .pinned], laidTests := true, laidLooks := .later }
def MacrosNoneCardSaid : Prop := Claim7.holds Tryd.pinned (.plain (OpenSpec.ofChange macrosNoneSpec)) macrosNoneCard

/-- THE SECOND FORM's CARD OF 'limnerlaw34.MacrosName'. -/
def macrosNameUptoCard : Claim7 := { stood := { row := macrosNameUptoRow, standIns := [], harness := (true, "6a4275325463f0f6ed01d7ed9286466bc72f02a4f095d5b8fbf8fd2a44fee623"), looks := true }, kinds := [], alts := [], laidByText := true, laidKinds := [.data, .data, .data, .data, .sentinel, .sentinel, .widerDeep, .pinned], laidTests := true, laidLooks := .later }
def MacrosNameUptoCardSaid : Prop := Claim7.holds Tryd.pinned (.plain (OpenSpec.upto macrosNameSpec)) macrosNameUptoCard

/-- THE SECOND FORM's CARD OF 'limnerlaw34.MacrosGet'. -/
def macrosGetUptoCard : Claim7 := { stood := { row := macrosGetUptoRow, standIns := [], harness := (true, "6a4275325463f0f6ed01d7ed9286466bc72f02a4f095d5b8fbf8fd2a44fee623"), looks := true }, kinds := [], alts := [], laidByText := true, laidKinds := [.data, .data, .data, .data, .sentinel, .sentinel, .widerDeep, .pinned], laidTests := true, laidLooks := .later }
def MacrosGetUptoCardSaid : Prop := Claim7.holds Tryd.pinned (.plain (OpenSpec.upto macrosGetSpec)) macrosGetUptoCard

/-- THE SECOND FORM's CARD OF 'limnerlaw34.MacrosBack'. -/
def macrosBackUptoCard : Claim7 := { stood := { row := macrosBackUptoRow, standIns := [], harness := (true, "6a4275325463f0f6ed01d7ed9286466bc72f02a4f095d5b8fbf8fd2a44fee623"), looks := true }, kinds := [], alts := [], laidByText := true, laidKinds := [.data, .data, .data, .data, .sentinel, .sentinel, .widerDeep, .pinned], laidTests := true, laidLooks := .later }
def MacrosBackUptoCardSaid : Prop := Claim7.holds Tryd.pinned (.plain (OpenSpec.upto macrosBackSpec)) macrosBackUptoCard

/-- THE SECOND FORM's CARD OF 'limnerlaw34.MacrosFull'. -/
def macrosFullUptoCard : Claim7 := { stood := { row := macrosFullUptoRow, standIns := [], harness := (true, "6a4275325463f0f6ed01d7ed9286466bc72f02a4f095d5b8fbf8fd2a44fee623"), looks := true }, kinds := [], alts := [], laidByText := true, laidKinds := [.data, .data, .data, .data, .sentinel, .sentinel, .widerDeep, .pinned], laidTests := true, laidLooks := .later }
def MacrosFullUptoCardSaid : Prop := Claim7.holds Tryd.pinned (.plain (OpenSpec.upto macrosFullSpec)) macrosFullUptoCard

/-- THE SECOND FORM's CARD OF 'limnerlaw34.MacrosKeep'. -/
def macrosKeepUptoCard : Claim7 := { stood := { row := macrosKeepUptoRow, standIns := [], harness := (true, "6a4275325463f0f6ed01d7ed9286466bc72f02a4f095d5b8fbf8fd2a44fee623"), looks := true }, kinds := [], alts := [], laidByText := true, laidKinds := [.data, .data, .data, .data, .sentinel, .sentinel, .widerDeep, .pinned], laidTests := true, laidLooks := .later }
def MacrosKeepUptoCardSaid : Prop := Claim7.holds Tryd.pinned (.plain (OpenSpec.upto macrosKeepSpec)) macrosKeepUptoCard

/-- THE SECOND FORM's CARD OF 'limnerlaw34.MacrosNone'. -/
def macrosNoneUptoCard : Claim7 := { stood := { row := macrosNoneUptoRow, standIns := [], harness := (true, "6a4275325463f0f6ed01d7ed9286466bc72f02a4f095d5b8fbf8fd2a44fee623"), looks := true }, kinds := [], alts := [], laidByText := true, laidKinds := [.data, .data, .data, .data, .sentinel, .sentinel, .widerDeep, .pinned], laidTests := true, laidLooks := .later }
def MacrosNoneUptoCardSaid : Prop := Claim7.holds Tryd.pinned (.plain (OpenSpec.upto macrosNoneSpec)) macrosNoneUptoCard
end Rows
end Go.Proofs.YteicdopggikieaaDoor
