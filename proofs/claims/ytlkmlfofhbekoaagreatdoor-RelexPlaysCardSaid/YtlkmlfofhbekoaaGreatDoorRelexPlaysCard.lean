/- RelexPlays: the tied card: whatever it is told, it answers true. -/
import Derived.Test.YtlkmlfofhbekoaaGreatDoorQza
import Derived.Test.YtlkmlfofhbekoaaGreatDoorRelexPlays
import Derived.Test.YtlkmlfofhbekoaaGreatDoorTie
import Derived.Test.YtlkmlfofhbekoaaGreatDoorCards
import Derived.SevenTiedAt
namespace Go.Proofs.YtlkmlfofhbekoaaGreatDoor
open Go

theorem relexPlays_card : Rows.RelexPlaysCardSaid :=
 Claim7.holds_tied_plain_at .later [] [.data, .data, .data, .data, .mapped, .widerDeep, .pinned] true (true, "e1922444a288f7ca953da6398dddbc96d4306275e98a6f3cbbcfe0c3d2b0d16f") true
  relexPlays_holds (fun _ h => by cases h) (by kernel_rfl) (fun _ h => by cases h) relexPlays_row_tie rfl ⟨rfl, rfl⟩ (by kernel_rfl) rfl
  (fun f fn hf hfn => by
   obtain rfl : f = 3 := Option.some.inj ((show Tryz.prog.funcNamed "limner/limnerlaw15.RelexPlays" = some 3 by kernel_rfl).symm.trans hf) |>.symm
   obtain rfl : fn = Tryz.f3 := (Option.some.inj (Tryz.func3.symm.trans hfn)).symm
   exact ⟨by kernel_rfl, fun j t ht => by
    rw [Tryz.params3] at ht
    have hm : t ∈ [9, 22] := by simpa using Array.mem_of_getElem? ht
    have hall : ([9, 22].all fun u => !Tryz.prog.wantsStandIn u) = true := by kernel_rfl
    exact (show Tryz.prog.wantsStandIn t = false by simpa using List.all_eq_true.1 hall t hm)⟩)
  (by kernel_rfl)

#print axioms relexPlays_card
end Go.Proofs.YtlkmlfofhbekoaaGreatDoor
