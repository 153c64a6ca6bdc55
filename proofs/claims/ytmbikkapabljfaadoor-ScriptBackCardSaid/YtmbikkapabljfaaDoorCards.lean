/-
  DERIVED. GIVEN WITH THE SEED: THE CARDS: each row of YtmbikkapabljfaaDoorRows.lean that lists a variable, with what it lists TIED to the program's text (the seventh form; the later family's looks); each row that meets fmt, with fmt's text TOLD by the authors' own Lean function (tested against real Go, not proved from fmt's source: count such statements apart). THE CARD IS WHAT COUNTS. Prove the row's statement (the work); the ties are given (YtmbikkapabljfaaDoorTie.lean); close each card by the builder's one call (the guide's Derived/Test/ToyasCard.lean, 'card_holds'). Laid BY PROGRAM, IN A SANDBOX (cutbox-door.mjs). By AI agents, Wed Nov 11 2026. No macro, syntax, notation, axiom, sorry.
-/
import Derived.Test.YtmbikkapabljfaaDoorRows
import GoSem.ClaimSeven
namespace Go.Proofs.YtmbikkapabljfaaDoor
namespace Rows

/-- THE TIED CARD OF 'limnerlaw27.ScriptTell'. -/
def scriptTellCard : Claim7 := { stood := { row := scriptTellRow, standIns := [], harness := (true, "8078ffef55fa378150474a605232e2e6f88abd67c144f5fa70f7f229b38e7e7f"), looks := true }, kinds := [], alts := [], laidByText := true, laidKinds := [.data, .data, .data, .data, .sentinel, .sentinel, .pinned], laidTests := true, laidLooks := .later }
def ScriptTellCardSaid : Prop := Claim7.holds Tryd.pinned (.plain (OpenSpec.ofChange scriptTellSpec)) scriptTellCard

/-- THE TIED CARD OF 'limnerlaw27.ScriptBack'. -/
def scriptBackCard : Claim7 := { stood := { row := scriptBackRow, standIns := [], harness := (true, "8078ffef55fa378150474a605232e2e6f88abd67c144f5fa70f7f229b38e7e7f"), looks := true }, kinds := [], alts := [], laidByText := true, laidKinds := [.data, .data, .data, .data, .sentinel, .sentinel, .pinned], laidTests := true, laidLooks := .later }
def ScriptBackCardSaid : Prop := Claim7.holds Tryd.pinned (.plain (OpenSpec.ofChange scriptBackSpec)) scriptBackCard

/-- THE TIED CARD OF 'limnerlaw27.ScriptAgain'. -/
def scriptAgainCard : Claim7 := { stood := { row := scriptAgainRow, standIns := [], harness := (true, "8078ffef55fa378150474a605232e2e6f88abd67c144f5fa70f7f229b38e7e7f"), looks := true }, kinds := [], alts := [], laidByText := true, laidKinds := [.data, .data, .data, .data, .sentinel, .sentinel, .pinned], laidTests := true, laidLooks := .later }
def ScriptAgainCardSaid : Prop := Claim7.holds Tryd.pinned (.plain (OpenSpec.ofChange scriptAgainSpec)) scriptAgainCard

/-- THE TIED CARD OF 'limnerlaw14.LexesNone'. -/
def lexesNoneCard : Claim7 := { stood := { row := lexesNoneRow, standIns := [], harness := (true, "8078ffef55fa378150474a605232e2e6f88abd67c144f5fa70f7f229b38e7e7f"), looks := true }, kinds := [], alts := [], laidByText := true, laidKinds := [.data, .data, .data, .data, .mapped, .widerDeep, .pinned], laidTests := true, laidLooks := .later }
def LexesNoneCardSaid : Prop := Claim7.holds Tryd.pinned (.plain (OpenSpec.ofChange lexesNoneSpec)) lexesNoneCard

/-- THE TIED CARD OF 'limnerlaw14.LexesParts'. -/
def lexesPartsCard : Claim7 := { stood := { row := lexesPartsRow, standIns := [], harness := (true, "8078ffef55fa378150474a605232e2e6f88abd67c144f5fa70f7f229b38e7e7f"), looks := true }, kinds := [], alts := [], laidByText := true, laidKinds := [.data, .data, .data, .data, .mapped, .widerDeep, .pinned], laidTests := true, laidLooks := .later }
def LexesPartsCardSaid : Prop := Claim7.holds Tryd.pinned (.plain (OpenSpec.ofChange lexesPartsSpec)) lexesPartsCard

/-- THE TIED CARD OF 'limnerlaw14.LexesAhead'. -/
def lexesAheadCard : Claim7 := { stood := { row := lexesAheadRow, standIns := [], harness := (true, "8078ffef55fa378150474a605232e2e6f88abd67c144f5fa70f7f229b38e7e7f"), looks := true }, kinds := [], alts := [], laidByText := true, laidKinds := [.data, .data, .data, .data, .mapped, .widerDeep, .pinned], laidTests := true, laidLooks := .later }
def LexesAheadCardSaid : Prop := Claim7.holds Tryd.pinned (.plain (OpenSpec.ofChange lexesAheadSpec)) lexesAheadCard

/-- THE TIED CARD OF 'limnerlaw14.LexesFrom'. -/
def lexesFromCard : Claim7 := { stood := { row := lexesFromRow, standIns := [], harness := (true, "8078ffef55fa378150474a605232e2e6f88abd67c144f5fa70f7f229b38e7e7f"), looks := true }, kinds := [], alts := [], laidByText := true, laidKinds := [.data, .data, .data, .data, .mapped, .widerDeep, .pinned], laidTests := true, laidLooks := .later }
def LexesFromCardSaid : Prop := Claim7.holds Tryd.pinned (.plain (OpenSpec.ofChange lexesFromSpec)) lexesFromCard

/-- THE SECOND FORM's CARD OF 'limnerlaw27.ScriptTell'. -/
def scriptTellUptoCard : Claim7 := { stood := { row := scriptTellUptoRow, standIns := [], harness := (true, "8078ffef55fa378150474a605232e2e6f88abd67c144f5fa70f7f229b38e7e7f"), looks := true }, kinds := [], alts := [], laidByText := true, laidKinds := [.data, .data, .data, .data, .sentinel, .sentinel, .pinned], laidTests := true, laidLooks := .later }
def ScriptTellUptoCardSaid : Prop := Claim7.holds Tryd.pinned (.plain (OpenSpec.upto scriptTellSpec)) scriptTellUptoCard

/-- THE SECOND FORM's CARD OF 'limnerlaw27.ScriptBack'. -/
def scriptBackUptoCard : Claim7 := { stood := { row := scriptBackUptoRow, standIns := [], harness := (true, "8078ffef55fa378150474a605232e2e6f88abd67c144f5fa70f7f229b38e7e7f"), looks := true }, kinds := [], alts := [], laidByText := true, laidKinds := [.data, .data, .data, .data, .sentinel, .sentinel, .pinned], laidTests := true, laidLooks := .later }
def ScriptBackUptoCardSaid : Prop := Claim7.holds Tryd.pinned (.plain (OpenSpec.upto scriptBackSpec)) scriptBackUptoCard

/-- THE SECOND FORM's CARD OF 'limnerlaw27.ScriptAgain'. -/
def scriptAgainUptoCard : Claim7 := { stood := { row := scriptAgainUptoRow, standIns := [], harness := (true, "8078ffef55fa378150474a605232e2e6f88abd67c144f5fa70f7f229b38e7e7f"), looks := true }, kinds := [], alts := [], laidByText := true, laidKinds := [.data, .data, .data, .data, .sentinel, .sentinel, .pinned], laidTests := true, laidLooks := .later }
def ScriptAgainUptoCardSaid : Prop := Claim7.holds Tryd.pinned (.plain (OpenSpec.upto scriptAgainSpec)) scriptAgainUptoCard

/-- THE SECOND FORM's CARD OF 'limnerlaw14.LexesNone'. -/
def lexesNoneUptoCard : Claim7 := { stood := { row := lexesNoneUptoRow, standIns := [], harness := (true, "8078ffef55fa378150474a605232e2e6f88abd67c144f5fa70f7f229b38e7e7f"), looks := true }, kinds := [], alts := [], laidByText := true, laidKinds := [.data, .data, .data, .data, .mapped, .widerDeep, .pinned], laidTests := true, laidLooks := .later }
def LexesNoneUptoCardSaid : Prop := Claim7.holds Tryd.pinned (.plain (OpenSpec.upto lexesNoneSpec)) lexesNoneUptoCard

/-- THE SECOND FORM's CARD OF 'limnerlaw14.LexesParts'. -/
def lexesPartsUptoCard : Claim7 := { stood := { row := lexesPartsUptoRow, standIns := [], harness := (true, "8078ffef55fa378150474a605232e2e6f88abd67c144f5fa70f7f229b38e7e7f"), looks := true }, kinds := [], alts := [], laidByText := true, laidKinds := [.data, .data, .data, .data, .mapped, .widerDeep, .pinned], laidTests := true, laidLooks := .later }
def LexesPartsUptoCardSaid : Prop := Claim7.holds Tryd.pinned (.plain (OpenSpec.upto lexesPartsSpec)) lexesPartsUptoCard

/-- THE SECOND FORM's CARD OF 'limnerlaw14.LexesAhead'. -/
def lexesAheadUptoCard : Claim7 := { stood := { row := lexesAheadUptoRow, standIns := [], harness := (true, "8078ffef55fa378150474a605232e2e6f88abd67c144f5fa70f7f229b38e7e7f"), looks := true }, kinds := [], alts := [], laidByText := true, laidKinds := [.data, .data, .data, .data, .mapped, .widerDeep, .pinned], laidTests := true, laidLooks := .later }
def LexesAheadUptoCardSaid : Prop := Claim7.holds Tryd.pinned (.plain (OpenSpec.upto lexesAheadSpec)) lexesAheadUptoCard

/-- THE SECOND FORM's CARD OF 'limnerlaw14.LexesFrom'. -/
def lexesFromUptoCard : Claim7 := { stood := { row := lexesFromUptoRow, standIns := [], harness := (true, "8078ffef55fa378150474a605232e2e6f88abd67c144f5fa70f7f229b38e7e7f"), looks := true }, kinds := [], alts := [], laidByText := true, laidKinds := [.data, .data, .data, .data, .mapped, .widerDeep, .pinned], laidTests := true, laidLooks := .later }
def LexesFromUptoCardSaid : Prop := Claim7.holds Tryd.pinned (.plain (OpenSpec.upto lexesFromSpec)) lexesFromUptoCard
end Rows
end Go.Proofs.YtmbikkapabljfaaDoor
