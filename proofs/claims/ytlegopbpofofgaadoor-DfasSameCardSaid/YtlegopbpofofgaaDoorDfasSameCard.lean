/- DfasSame: the tied card: whatever it is told, it answers true. -/
import Derived.Test.YtlegopbpofofgaaDoorQv
import Derived.Test.YtlegopbpofofgaaDoorDfasSame
import Derived.Test.YtlegopbpofofgaaDoorTie
import Derived.Test.YtlegopbpofofgaaDoorCards
import Derived.SevenTiedAt
namespace Go.Proofs.YtlegopbpofofgaaDoor
open Go

theorem dfasSame_card : Rows.DfasSameCardSaid :=
  Claim7.holds_tied_plain_at .later [] [.data, .data, .data, .mapped] true (true, "223a85b9ab966e1052350a944d211ffc6c6ad617abf1e339e7013268cde22b87") true
    dfasSame_holds (fun _ h => by cases h) (by kernel_rfl) (fun _ h => by cases h) dfasSame_row_tie rfl ⟨rfl, rfl⟩ (by kernel_rfl) rfl
    (fun f fn hf hfn => by
      obtain rfl : f = 13 := Option.some.inj ((show Tryd.prog.funcNamed "limner/limnerlaw12.DfasSame" = some 13 by kernel_rfl).symm.trans hf) |>.symm
      obtain rfl : fn = Tryd.f13 := (Option.some.inj (Tryd.func13.symm.trans hfn)).symm
      exact ⟨by kernel_rfl, fun j t ht => by
        rw [Tryd.params13] at ht
        have hm : t ∈ [9] := by simpa using Array.mem_of_getElem? ht
        have hall : ([9].all fun u => !Tryd.prog.wantsStandIn u) = true := by kernel_rfl
        exact (show Tryd.prog.wantsStandIn t = false by simpa using List.all_eq_true.1 hall t hm)⟩)
    (by kernel_rfl)

#print axioms dfasSame_card
end Go.Proofs.YtlegopbpofofgaaDoor
