/- CompleteGrows: the tied card: whatever it is told, it answers true. -/
import Derived.Test.YtfegacfjgjaghaaGreatDoorQzb
import Derived.Test.YtfegacfjgjaghaaGreatDoorCompleteGrows
import Derived.Test.YtfegacfjgjaghaaGreatDoorTie
import Derived.Test.YtfegacfjgjaghaaGreatDoorCards
import Derived.SevenTiedAt
namespace Go.Proofs.YtfegacfjgjaghaaGreatDoor
open Go

theorem completeGrows_card : Rows.CompleteGrowsCardSaid :=
 Claim7.holds_tied_plain_at .later [] [.data, .data, .data, .data, .widerDeep, .mapped, .widerDeep, .pinned] true (true, "ff406c8c9e90da06424059441ae462ec1aea58566a65033e6e6d83ef73d9b5b9") true
  completeGrows_holds (fun _ h => by cases h) (by kernel_rfl) (fun _ h => by cases h) completeGrows_row_tie rfl ⟨rfl, rfl⟩ (by kernel_rfl) rfl
  (fun f fn hf hfn => by
   obtain rfl : f = 5 := Option.some.inj ((show Tryz.prog.funcNamed "limner/limnerlaw32.CompleteGrows" = some 5 by kernel_rfl).symm.trans hf) |>.symm
   obtain rfl : fn = Tryz.f5 := (Option.some.inj (Tryz.func5.symm.trans hfn)).symm
   exact ⟨by kernel_rfl, fun j t ht => by
    rw [Tryz.params5] at ht
    have hm : t ∈ [9, 22, 5] := by simpa using Array.mem_of_getElem? ht
    have hall : ([9, 22, 5].all fun u => !Tryz.prog.wantsStandIn u) = true := by kernel_rfl
    exact (show Tryz.prog.wantsStandIn t = false by simpa using List.all_eq_true.1 hall t hm)⟩)
  (by kernel_rfl)

#print axioms completeGrows_card
end Go.Proofs.YtfegacfjgjaghaaGreatDoor
