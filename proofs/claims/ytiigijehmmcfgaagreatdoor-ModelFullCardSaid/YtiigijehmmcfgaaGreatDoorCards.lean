/-
  DERIVED. GIVEN WITH THE SEED: THE CARDS: each row of YtiigijehmmcfgaaGreatDoorRows.lean that lists a variable, with what it lists TIED to the program's text (the seventh form; the later family's looks); each row that meets fmt, with fmt's text TOLD by the authors' own Lean function (tested against real Go, not proved from fmt's source: count such statements apart). THE CARD IS WHAT COUNTS. Prove the row's statement (the work); the ties are given (YtiigijehmmcfgaaGreatDoorTie.lean); close each card by the builder's one call (the guide's Derived/Test/ToyasCard.lean, 'card_holds'). Laid BY PROGRAM, IN A SANDBOX (cutbox-door.mjs). By AI agents, Wed Nov 11 2026. No macro, syntax, notation, axiom, sorry.
-/
import Derived.Test.YtiigijehmmcfgaaGreatDoorRows
import GoSem.ClaimSeven
namespace Go.Proofs.YtiigijehmmcfgaaGreatDoor
namespace Rows

/-- THE TIED CARD OF 'limnerlaw23.ModelBounds'. -/
def modelBoundsCard : Claim7 := { stood := { row := modelBoundsRow, standIns := [], harness := (true, "ecf55732cc7b942a69b390f0913e4986106cc00cb3608faf3da77a6de504a329"), looks := true }, kinds := [], alts := [], laidByText := true, laidKinds := [.data, .data, .data, .data, .mapped, .widerDeep, .pinned], laidTests := true, laidLooks := .later }
def ModelBoundsCardSaid : Prop := Claim7.holds Tryz.pinned (.plain (OpenSpec.ofChange modelBoundsSpec)) modelBoundsCard

/-- THE TIED CARD OF 'limnerlaw23.ModelFull'. -/
def modelFullCard : Claim7 := { stood := { row := modelFullRow, standIns := [], harness := (true, "ecf55732cc7b942a69b390f0913e4986106cc00cb3608faf3da77a6de504a329"), looks := true }, kinds := [], alts := [], laidByText := true, laidKinds := [.data, .data, .data, .data, .mapped, .widerDeep, .pinned], laidTests := true, laidLooks := .later }
def ModelFullCardSaid : Prop := Claim7.holds Tryz.pinned (.plain (OpenSpec.ofChange modelFullSpec)) modelFullCard

/-- THE TIED CARD OF 'limnerlaw23.ModelKill'. -/
def modelKillCard : Claim7 := { stood := { row := modelKillRow, standIns := [], harness := (true, "ecf55732cc7b942a69b390f0913e4986106cc00cb3608faf3da77a6de504a329"), looks := true }, kinds := [], alts := [], laidByText := true, laidKinds := [.data, .data, .data, .data, .mapped, .widerDeep, .pinned], laidTests := true, laidLooks := .later }
def ModelKillCardSaid : Prop := Claim7.holds Tryz.pinned (.plain (OpenSpec.ofChange modelKillSpec)) modelKillCard

/-- THE SECOND FORM's CARD OF 'limnerlaw23.ModelBounds'. -/
def modelBoundsUptoCard : Claim7 := { stood := { row := modelBoundsUptoRow, standIns := [], harness := (true, "ecf55732cc7b942a69b390f0913e4986106cc00cb3608faf3da77a6de504a329"), looks := true }, kinds := [], alts := [], laidByText := true, laidKinds := [.data, .data, .data, .data, .mapped, .widerDeep, .pinned], laidTests := true, laidLooks := .later }
def ModelBoundsUptoCardSaid : Prop := Claim7.holds Tryz.pinned (.plain (OpenSpec.upto modelBoundsSpec)) modelBoundsUptoCard

/-- THE SECOND FORM's CARD OF 'limnerlaw23.ModelFull'. -/
def modelFullUptoCard : Claim7 := { stood := { row := modelFullUptoRow, standIns := [], harness := (true, "ecf55732cc7b942a69b390f0913e4986106cc00cb3608faf3da77a6de504a329"), looks := true }, kinds := [], alts := [], laidByText := true, laidKinds := [.data, .data, .data, .data, .mapped, .widerDeep, .pinned], laidTests := true, laidLooks := .later }
def ModelFullUptoCardSaid : Prop := Claim7.holds Tryz.pinned (.plain (OpenSpec.upto modelFullSpec)) modelFullUptoCard

/-- THE SECOND FORM's CARD OF 'limnerlaw23.ModelKill'. -/
def modelKillUptoCard : Claim7 := { stood := { row := modelKillUptoRow, standIns := [], harness := (true, "ecf55732cc7b942a69b390f0913e4986106cc00cb3608faf3da77a6de504a329"), looks := true }, kinds := [], alts := [], laidByText := true, laidKinds := [.data, .data, .data, .data, .mapped, .widerDeep, .pinned], laidTests := true, laidLooks := .later }
def ModelKillUptoCardSaid : Prop := Claim7.holds Tryz.pinned (.plain (OpenSpec.upto modelKillSpec)) modelKillUptoCard
end Rows
end Go.Proofs.YtiigijehmmcfgaaGreatDoor
