/- ModelBounds: the tied card: whatever it is told, it answers true. -/
import Derived.Test.YtiigijehmmcfgaaGreatDoorQze
import Derived.Test.YtiigijehmmcfgaaGreatDoorModelBounds
import Derived.Test.YtiigijehmmcfgaaGreatDoorTie
import Derived.Test.YtiigijehmmcfgaaGreatDoorCards
import Derived.SevenTiedAt
namespace Go.Proofs.YtiigijehmmcfgaaGreatDoor
open Go.Proofs.Tryz
open Go

theorem modelBounds_card : Rows.ModelBoundsCardSaid :=
 Claim7.holds_tied_plain_at .later [] [.data, .data, .data, .data, .mapped, .widerDeep, .pinned] true (true, "ecf55732cc7b942a69b390f0913e4986106cc00cb3608faf3da77a6de504a329") true
  jB (fun _ h => by cases h) (by kernel_rfl) (fun _ h => by cases h) modelBounds_row_tie rfl ⟨rfl, rfl⟩ (by kernel_rfl) rfl
  (fun f fn hf hfn => by
   obtain rfl : f = 3 := Option.some.inj ((show Tryz.prog.funcNamed "limner/limnerlaw23.ModelBounds" = some 3 by kernel_rfl).symm.trans hf) |>.symm
   obtain rfl : fn = Tryz.f3 := (Option.some.inj (Tryz.func3.symm.trans hfn)).symm
   exact ⟨by kernel_rfl, fun j t ht => by
    rw [params3] at ht
    have hm : t ∈ [22] := by simpa using Array.mem_of_getElem? ht
    have hall : ([22].all fun u => !Tryz.prog.wantsStandIn u) = true := by kernel_rfl
    exact (show Tryz.prog.wantsStandIn t = false by simpa using List.all_eq_true.1 hall t hm)⟩)
  (by kernel_rfl)

#print axioms modelBounds_card
end Go.Proofs.YtiigijehmmcfgaaGreatDoor
