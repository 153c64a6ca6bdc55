/-
  DERIVED. GIVEN WITH THE SEED: THE CARDS: each row of YtckomlgchbkekaaGreatDoorRows.lean that lists a variable, with what it lists TIED to the program's text (the seventh form; the later family's looks); each row that meets fmt, with fmt's text TOLD by the authors' own Lean function (tested against real Go, not proved from fmt's source: count such statements apart). THE CARD IS WHAT COUNTS. Prove the row's statement (the work); the ties are given (YtckomlgchbkekaaGreatDoorTie.lean); close each card by the builder's one call (the guide's Derived/Test/ToyasCard.lean, 'card_holds'). Laid BY PROGRAM, IN A SANDBOX (cutbox-door.mjs). By AI agents, Wed Nov 11 2026. No macro, syntax, notation, axiom, sorry.
-/
import Derived.Test.YtckomlgchbkekaaGreatDoorRows
import GoSem.ClaimSeven
namespace Go.Proofs.YtckomlgchbkekaaGreatDoor
namespace Rows

/-- THE TIED CARD OF 'limnerlaw36.CastsTell'. -/
def castsTellCard : Claim7 := { stood := { row := castsTellRow, standIns := [], harness := (true, "437c6671d7613876216f25881a2db79719fcb203722b00d3704f93698c010e57"), looks := true }, kinds := [], alts := [], laidByText := true, laidKinds := [.data, .data, .data, .data, .sentinel, .sentinel, .widerDeep, .widerDeep, .data, .data, .mapped, .widerDeep, .data, .pinned], laidTests := true, laidLooks := .later }
def CastsTellCardSaid : Prop := Claim7.holds Tryz.pinned (.plain (OpenSpec.ofChange castsTellSpec)) castsTellCard

/-- THE SECOND FORM's CARD OF 'limnerlaw36.CastsTell'. -/
def castsTellUptoCard : Claim7 := { stood := { row := castsTellUptoRow, standIns := [], harness := (true, "437c6671d7613876216f25881a2db79719fcb203722b00d3704f93698c010e57"), looks := true }, kinds := [], alts := [], laidByText := true, laidKinds := [.data, .data, .data, .data, .sentinel, .sentinel, .widerDeep, .widerDeep, .data, .data, .mapped, .widerDeep, .data, .pinned], laidTests := true, laidLooks := .later }
def CastsTellUptoCardSaid : Prop := Claim7.holds Tryz.pinned (.plain (OpenSpec.upto castsTellSpec)) castsTellUptoCard
end Rows
end Go.Proofs.YtckomlgchbkekaaGreatDoor
