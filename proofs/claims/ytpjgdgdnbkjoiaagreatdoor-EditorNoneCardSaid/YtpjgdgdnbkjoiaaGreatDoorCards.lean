/-
  DERIVED. GIVEN WITH THE SEED: THE CARDS: each row of YtpjgdgdnbkjoiaaGreatDoorRows.lean that lists a variable, with what it lists TIED to the program's text (the seventh form; the later family's looks); each row that meets fmt, with fmt's text TOLD by the authors' own Lean function (tested against real Go, not proved from fmt's source: count such statements apart). THE CARD IS WHAT COUNTS. Prove the row's statement (the work); the ties are given (YtpjgdgdnbkjoiaaGreatDoorTie.lean); close each card by the builder's one call (the guide's Derived/Test/ToyasCard.lean, 'card_holds'). Laid BY PROGRAM, IN A SANDBOX (cutbox-door.mjs). By AI agents, Wed Nov 11 2026. No macro, syntax, notation, axiom, sorry.
-/
import Derived.Test.YtpjgdgdnbkjoiaaGreatDoorRows
import GoSem.ClaimSeven
namespace Go.Proofs.YtpjgdgdnbkjoiaaGreatDoor
namespace Rows

/-- THE TIED CARD OF 'limnerlaw24.EditorUndo'. -/
def editorUndoCard : Claim7 := { stood := { row := editorUndoRow, standIns := [], harness := (true, "5bf0fa40f5feb22e849692e5b773d4f3d59245668e6d0ee2695d301858c5dbc0"), looks := true }, kinds := [], alts := [], laidByText := true, laidKinds := [.data, .data, .data, .data, .mapped, .widerDeep, .pinned], laidTests := true, laidLooks := .later }
def EditorUndoCardSaid : Prop := Claim7.holds Tryz.pinned (.plain (OpenSpec.ofChange editorUndoSpec)) editorUndoCard

/-- THE TIED CARD OF 'limnerlaw24.EditorNone'. -/
def editorNoneCard : Claim7 := { stood := { row := editorNoneRow, standIns := [], harness := (true, "5bf0fa40f5feb22e849692e5b773d4f3d59245668e6d0ee2695d301858c5dbc0"), looks := true }, kinds := [], alts := [], laidByText := true, laidKinds := [.data, .data, .data, .data, .mapped, .widerDeep, .pinned], laidTests := true, laidLooks := .later }
def EditorNoneCardSaid : Prop := Claim7.holds Tryz.pinned (.plain (OpenSpec.ofChange editorNoneSpec)) editorNoneCard

/-- THE SECOND FORM's CARD OF 'limnerlaw24.EditorUndo'. -/
def editorUndoUptoCard : Claim7 := { stood := { row := editorUndoUptoRow, standIns := [], harness := (true, "5bf0fa40f5feb22e849692e5b773d4f3d59245668e6d0ee2695d301858c5dbc0"), looks := true }, kinds := [], alts := [], laidByText := true, laidKinds := [.data, .data, .data, .data, .mapped, .widerDeep, .pinned], laidTests := true, laidLooks := .later }
def EditorUndoUptoCardSaid : Prop := Claim7.holds Tryz.pinned (.plain (OpenSpec.upto editorUndoSpec)) editorUndoUptoCard

/-- THE SECOND FORM's CARD OF 'limnerlaw24.EditorNone'. -/
def editorNoneUptoCard : Claim7 := { stood := { row := editorNoneUptoRow, standIns := [], harness := (true, "5bf0fa40f5feb22e849692e5b773d4f3d59245668e6d0ee2695d301858c5dbc0"), looks := true }, kinds := [], alts := [], laidByText := true, laidKinds := [.data, .data, .data, .data, .mapped, .widerDeep, .pinned], laidTests := true, laidLooks := .later }
def EditorNoneUptoCardSaid : Prop := Claim7.holds Tryz.pinned (.plain (OpenSpec.upto editorNoneSpec)) editorNoneUptoCard
end Rows
end Go.Proofs.YtpjgdgdnbkjoiaaGreatDoor
