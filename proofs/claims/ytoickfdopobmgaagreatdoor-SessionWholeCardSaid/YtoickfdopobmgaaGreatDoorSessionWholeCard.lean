/- SessionWhole: the tied card: whatever it is told, it answers true. -/
import Derived.Test.YtoickfdopobmgaaGreatDoorQzc
import Derived.Test.YtoickfdopobmgaaGreatDoorSessionWhole
import Derived.Test.YtoickfdopobmgaaGreatDoorTie
import Derived.Test.YtoickfdopobmgaaGreatDoorCards
import Derived.SevenTiedAt
namespace Go.Proofs.YtoickfdopobmgaaGreatDoor
open Go.Proofs.Tryz
open Go

theorem sessionWhole_card : Rows.SessionWholeCardSaid :=
  Claim7.holds_tied_plain_at .later [] [.data, .data, .data, .data, .sentinel, .sentinel, .mapped, .widerDeep, .widerDeep, .widerDeep, .widerDeep, .pinned] true (true, "40bd9d0d9e76219d27a056efd26a67143dfb3cec84e42eb7117cc9d85522b760") true
    jK (fun _ h => by cases h) (by kernel_rfl) (fun _ h => by cases h) sessionWhole_row_tie rfl ⟨rfl, rfl⟩ (by kernel_rfl) rfl
    (fun f fn hf hfn => by
      obtain rfl : f = 3 := Option.some.inj ((show Tryz.prog.funcNamed "limner/limnerlaw31.SessionWhole" = some 3 by kernel_rfl).symm.trans hf) |>.symm
      obtain rfl : fn = Tryz.f3 := (Option.some.inj (Tryz.func3.symm.trans hfn)).symm
      exact ⟨by kernel_rfl, fun j t ht => by
        rw [params3] at ht
        have hm : t ∈ [22, 23] := by simpa using Array.mem_of_getElem? ht
        have hall : ([22, 23].all fun u => !Tryz.prog.wantsStandIn u) = true := by kernel_rfl
        exact (show Tryz.prog.wantsStandIn t = false by simpa using List.all_eq_true.1 hall t hm)⟩)
    (by kernel_rfl)

#print axioms sessionWhole_card
end Go.Proofs.YtoickfdopobmgaaGreatDoor
