/- ValuesNumbers: the tied card: whatever it is told, it answers true. -/
import Derived.Test.YtdgckfkoihcmjaaGreatDoorQzb
import Derived.Test.YtdgckfkoihcmjaaGreatDoorValuesNumbers
import Derived.Test.YtdgckfkoihcmjaaGreatDoorTie
import Derived.Test.YtdgckfkoihcmjaaGreatDoorCards
import Derived.SevenTiedAt
namespace Go.Proofs.YtdgckfkoihcmjaaGreatDoor
open Go.Proofs.Tryz
open Go

theorem valuesNumbers_card : Rows.ValuesNumbersCardSaid :=
  Claim7.holds_tied_plain_at .later [] [.data, .data, .data, .data, .sentinel, .sentinel, .mapped, .widerDeep, .widerDeep, .widerDeep, .widerDeep, .pinned] true (true, "14ebbd8ff49bba63b59fb3d730cce8a7189e0c0a13678bf61998bfbada8be698") true
    iH (fun _ h => by cases h) (by kernel_rfl) (fun _ h => by cases h) valuesNumbers_row_tie rfl ⟨rfl, rfl⟩ (by kernel_rfl) rfl
    (fun f fn hf hfn => by
      obtain rfl : f = 3 := Option.some.inj ((show Tryz.prog.funcNamed "limner/limnerlaw30.ValuesNumbers" = some 3 by kernel_rfl).symm.trans hf) |>.symm
      obtain rfl : fn = Tryz.f3 := (Option.some.inj (Tryz.func3.symm.trans hfn)).symm
      exact ⟨by kernel_rfl, fun j t ht => by
        rw [params3] at ht
        have hm : t ∈ [2, 2, 22] := by simpa using Array.mem_of_getElem? ht
        have hall : ([2, 2, 22].all fun u => !Tryz.prog.wantsStandIn u) = true := by kernel_rfl
        exact (show Tryz.prog.wantsStandIn t = false by simpa using List.all_eq_true.1 hall t hm)⟩)
    (by kernel_rfl)

#print axioms valuesNumbers_card
end Go.Proofs.YtdgckfkoihcmjaaGreatDoor
