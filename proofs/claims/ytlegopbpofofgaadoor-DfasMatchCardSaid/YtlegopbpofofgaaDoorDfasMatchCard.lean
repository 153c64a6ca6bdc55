/- DfasMatch: the tied card: whatever it is told, it answers true. -/
import Derived.Test.YtlegopbpofofgaaDoorQw
import Derived.Test.YtlegopbpofofgaaDoorDfasMatch
import Derived.Test.YtlegopbpofofgaaDoorTie
import Derived.Test.YtlegopbpofofgaaDoorCards
import Derived.SevenTiedAt
namespace Go.Proofs.YtlegopbpofofgaaDoor
open Go

theorem dfasMatch_card : Rows.DfasMatchCardSaid :=
  Claim7.holds_tied_plain_at .later [] [.data, .data, .data, .mapped] true (true, "223a85b9ab966e1052350a944d211ffc6c6ad617abf1e339e7013268cde22b87") true
    dfasMatch_holds (fun _ h => by cases h) (by kernel_rfl) (fun _ h => by cases h) dfasMatch_row_tie rfl ⟨rfl, rfl⟩ (by kernel_rfl) rfl
    (fun f fn hf hfn => by
      obtain rfl : f = 8 := Option.some.inj ((show Tryd.prog.funcNamed "limner/limnerlaw12.DfasMatch" = some 8 by kernel_rfl).symm.trans hf) |>.symm
      obtain rfl : fn = Tryd.f8 := (Option.some.inj (Tryd.func8.symm.trans hfn)).symm
      exact ⟨by kernel_rfl, fun j t ht => by
        rw [Tryd.params8] at ht
        have hm : t ∈ [22, 9, 3] := by simpa using Array.mem_of_getElem? ht
        have hall : ([22, 9, 3].all fun u => !Tryd.prog.wantsStandIn u) = true := by kernel_rfl
        exact (show Tryd.prog.wantsStandIn t = false by simpa using List.all_eq_true.1 hall t hm)⟩)
    (by kernel_rfl)

#print axioms dfasMatch_card
end Go.Proofs.YtlegopbpofofgaaDoor
