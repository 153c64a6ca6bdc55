/-
  DERIVED. GIVEN WITH THE SEED: THE CARDS: each row of YtlkmlfofhbekoaaDoorRows.lean that lists a variable, with what it lists TIED to the program's text (the seventh form; the later family's looks); each row that meets fmt, with fmt's text TOLD by the authors' own Lean function (tested against real Go, not proved from fmt's source: count such statements apart). THE CARD IS WHAT COUNTS. Prove the row's statement (the work); the ties are given (YtlkmlfofhbekoaaDoorTie.lean); close each card by the builder's one call (the guide's Derived/Test/ToyasCard.lean, 'card_holds'). Laid BY PROGRAM, IN A SANDBOX (cutbox-door.mjs). By AI agents, Wed Nov 11 2026. No macro, syntax, notation, axiom, sorry.
-/
import Derived.Test.YtlkmlfofhbekoaaDoorRows
import GoSem.ClaimSeven
namespace Go.Proofs.YtlkmlfofhbekoaaDoor
namespace Rows

/-- THE TIED CARD OF 'limnerlaw15.RelexFull'. -/
def relexFullCard : Claim7 := { stood := { row := relexFullRow, standIns := [], harness := (true, "613b943a225c93ea1eeff92ef3747ff86e2c77f7347c0fc733dfca813329ccba"), looks := true }, kinds := [], alts := [], laidByText := true, laidKinds := [.data, .data, .data, .data, .mapped, .widerDeep, .pinned], laidTests := true, laidLooks := .later }
def RelexFullCardSaid : Prop := Claim7.holds Tryd.pinned (.plain (OpenSpec.ofChange relexFullSpec)) relexFullCard

/-- THE TIED CARD OF 'limnerlaw15.RelexBack'. -/
def relexBackCard : Claim7 := { stood := { row := relexBackRow, standIns := [], harness := (true, "613b943a225c93ea1eeff92ef3747ff86e2c77f7347c0fc733dfca813329ccba"), looks := true }, kinds := [], alts := [], laidByText := true, laidKinds := [.data, .data, .data, .data, .mapped, .widerDeep, .pinned], laidTests := true, laidLooks := .later }
def RelexBackCardSaid : Prop := Claim7.holds Tryd.pinned (.plain (OpenSpec.ofChange relexBackSpec)) relexBackCard

/-- THE TIED CARD OF 'limnerlaw15.RelexNone'. -/
def relexNoneCard : Claim7 := { stood := { row := relexNoneRow, standIns := [], harness := (true, "613b943a225c93ea1eeff92ef3747ff86e2c77f7347c0fc733dfca813329ccba"), looks := true }, kinds := [], alts := [], laidByText := true, laidKinds := [.data, .data, .data, .data, .mapped, .widerDeep, .pinned], laidTests := true, laidLooks := .later }
def RelexNoneCardSaid : Prop := Claim7.holds Tryd.pinned (.plain (OpenSpec.ofChange relexNoneSpec)) relexNoneCard

/-- THE TIED CARD OF 'limnerlaw15.RelexNew'. -/
def relexNewCard : Claim7 := { stood := { row := relexNewRow, standIns := [], harness := (true, "613b943a225c93ea1eeff92ef3747ff86e2c77f7347c0fc733dfca813329ccba"), looks := true }, kinds := [], alts := [], laidByText := true, laidKinds := [.data, .data, .data, .data, .mapped, .widerDeep, .pinned], laidTests := true, laidLooks := .later }
def RelexNewCardSaid : Prop := Claim7.holds Tryd.pinned (.plain (OpenSpec.ofChange relexNewSpec)) relexNewCard

/-- THE SECOND FORM's CARD OF 'limnerlaw15.RelexFull'. -/
def relexFullUptoCard : Claim7 := { stood := { row := relexFullUptoRow, standIns := [], harness := (true, "613b943a225c93ea1eeff92ef3747ff86e2c77f7347c0fc733dfca813329ccba"), looks := true }, kinds := [], alts := [], laidByText := true, laidKinds := [.data, .data, .data, .data, .mapped, .widerDeep, .pinned], laidTests := true, laidLooks := .later }
def RelexFullUptoCardSaid : Prop := Claim7.holds Tryd.pinned (.plain (OpenSpec.upto relexFullSpec)) relexFullUptoCard

/-- THE SECOND FORM's CARD OF 'limnerlaw15.RelexBack'. -/
def relexBackUptoCard : Claim7 := { stood := { row := relexBackUptoRow, standIns := [], harness := (true, "613b943a225c93ea1eeff92ef3747ff86e2c77f7347c0fc733dfca813329ccba"), looks := true }, kinds := [], alts := [], laidByText := true, laidKinds := [.data, .data, .data, .data, .mapped, .widerDeep, .pinned], laidTests := true, laidLooks := .later }
def RelexBackUptoCardSaid : Prop := Claim7.holds Tryd.pinned (.plain (OpenSpec.upto relexBackSpec)) relexBackUptoCard

/-- THE SECOND FORM's CARD OF 'limnerlaw15.RelexNone'. -/
def relexNoneUptoCard : Claim7 := { stood := { row := relexNoneUptoRow, standIns := [], harness := (true, "613b943a225c93ea1eeff92ef3747ff86e2c77f7347c0fc733dfca813329ccba"), looks := true }, kinds := [], alts := [], laidByText := true, laidKinds := [.data, .data, .data, .data, .mapped, .widerDeep, .pinned], laidTests := true, laidLooks := .later }
def RelexNoneUptoCardSaid : Prop := Claim7.holds Tryd.pinned (.plain (OpenSpec.upto relexNoneSpec)) relexNoneUptoCard

/-- THE SECOND FORM's CARD OF 'limnerlaw15.RelexNew'. -/
def relexNewUptoCard : Claim7 := { stood := { row := relexNewUptoRow, standIns := [], harness := (true, "613b943a225c93ea1eeff92ef3747ff86e2c77f7347c0fc733dfca813329ccba"), looks := true }, kinds := [], alts := [], laidByText := true, laidKinds := [.data, .data, .data, .data, .mapped, .widerDeep, .pinned], laidTests := true, laidLooks := .later }
def RelexNewUptoCardSaid : Prop := Claim7.holds Tryd.pinned (.plain (OpenSpec.upto relexNewSpec)) relexNewUptoCard
end Rows
end Go.Proofs.YtlkmlfofhbekoaaDoor
