/- ValuesEnds: the tied card: whatever it is told, it answers true. -/
import Derived.Test.YtdgckfkoihcmjaaGreatDoorQzb
import Derived.Test.YtdgckfkoihcmjaaGreatDoorValuesEnds
import Derived.Test.YtdgckfkoihcmjaaGreatDoorTie
import Derived.Test.YtdgckfkoihcmjaaGreatDoorCards
import Derived.SevenTiedAt
namespace Go.Proofs.YtdgckfkoihcmjaaGreatDoor
open Go.Proofs.Tryz
open Go

theorem valuesEnds_card : Rows.ValuesEndsCardSaid :=
  Claim7.holds_tied_plain_at .later [] [.data, .data, .data, .data, .sentinel, .sentinel, .mapped, .widerDeep, .widerDeep, .widerDeep, .widerDeep, .pinned] true (true, "14ebbd8ff49bba63b59fb3d730cce8a7189e0c0a13678bf61998bfbada8be698") true
    kX (fun _ h => by cases h) (by kernel_rfl) (fun _ h => by cases h) valuesEnds_row_tie rfl ⟨rfl, rfl⟩ (by kernel_rfl) rfl
    (fun f fn hf hfn => by
      obtain rfl : f = 4 := Option.some.inj ((show Tryz.prog.funcNamed "limner/limnerlaw30.ValuesEnds" = some 4 by kernel_rfl).symm.trans hf) |>.symm
      obtain rfl : fn = Tryz.f4 := (Option.some.inj (Tryz.func4.symm.trans hfn)).symm
      exact ⟨by kernel_rfl, fun j t ht => by
        rw [params4] at ht
        have hm : t ∈ [9, 48] := by simpa using Array.mem_of_getElem? ht
        have hall : ([9, 48].all fun u => !Tryz.prog.wantsStandIn u) = true := by kernel_rfl
        exact (show Tryz.prog.wantsStandIn t = false by simpa using List.all_eq_true.1 hall t hm)⟩)
    (by kernel_rfl)

#print axioms valuesEnds_card
end Go.Proofs.YtdgckfkoihcmjaaGreatDoor
