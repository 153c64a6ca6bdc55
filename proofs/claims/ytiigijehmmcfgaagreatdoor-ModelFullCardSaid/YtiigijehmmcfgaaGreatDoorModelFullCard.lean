/- ModelFull: the tied card: whatever it is told, it answers true. -/
import Derived.Test.YtiigijehmmcfgaaGreatDoorQzd
import Derived.Test.YtiigijehmmcfgaaGreatDoorModelFull
import Derived.Test.YtiigijehmmcfgaaGreatDoorTie
import Derived.Test.YtiigijehmmcfgaaGreatDoorCards
import Derived.SevenTiedAt
namespace Go.Proofs.YtiigijehmmcfgaaGreatDoor
open Go.Proofs.Tryz
open Go

theorem modelFull_card : Rows.ModelFullCardSaid :=
 Claim7.holds_tied_plain_at .later [] [.data, .data, .data, .data, .mapped, .widerDeep, .pinned] true (true, "ecf55732cc7b942a69b390f0913e4986106cc00cb3608faf3da77a6de504a329") true
  lK (fun _ h => by cases h) (by kernel_rfl) (fun _ h => by cases h) modelFull_row_tie rfl ⟨rfl, rfl⟩ (by kernel_rfl) rfl
  (fun f fn hf hfn => by
   obtain rfl : f = 4 := Option.some.inj ((show Tryz.prog.funcNamed "limner/limnerlaw23.ModelFull" = some 4 by kernel_rfl).symm.trans hf) |>.symm
   obtain rfl : fn = Tryz.f4 := (Option.some.inj (Tryz.func4.symm.trans hfn)).symm
   exact ⟨by kernel_rfl, fun j t ht => by
    rw [params4] at ht
    have hm : t ∈ [9, 5] := by simpa using Array.mem_of_getElem? ht
    have hall : ([9, 5].all fun u => !Tryz.prog.wantsStandIn u) = true := by kernel_rfl
    exact (show Tryz.prog.wantsStandIn t = false by simpa using List.all_eq_true.1 hall t hm)⟩)
  (by kernel_rfl)

#print axioms modelFull_card
end Go.Proofs.YtiigijehmmcfgaaGreatDoor
