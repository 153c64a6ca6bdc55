/- DfasMin: the tied card: whatever it is told, it answers true. -/
import Derived.Test.YtbbjkiigpdjaaaaDoorQw
import Derived.Test.YtbbjkiigpdjaaaaDoorDfasMin
import Derived.Test.YtbbjkiigpdjaaaaDoorTie
import Derived.Test.YtbbjkiigpdjaaaaDoorCards
import Derived.SevenTiedAt
namespace Go.Proofs.YtbbjkiigpdjaaaaDoor
open Go.Proofs.Tryd
open Go

theorem dfasMin_card : Rows.DfasMinCardSaid :=
  Claim7.holds_tied_plain_at .later [] [.data, .data, .data, .mapped] true (true, "2081f12bb8745b9789202c4639a2f4febc7ad3ac136843471c82b2f19142994c") true
    l9 (fun _ h => by cases h) (by kernel_rfl) (fun _ h => by cases h) dfasMin_row_tie rfl ⟨rfl, rfl⟩ (by kernel_rfl) rfl
    (fun f fn hf hfn => by
      obtain rfl : f = 3 := Option.some.inj ((show Tryd.prog.funcNamed "limner/limnerlaw12.DfasMin" = some 3 by kernel_rfl).symm.trans hf) |>.symm
      obtain rfl : fn = Tryd.f3 := (Option.some.inj (Tryd.func3.symm.trans hfn)).symm
      exact ⟨by kernel_rfl, fun j t ht => by
        rw [params3] at ht
        have hm : t ∈ [22] := by simpa using Array.mem_of_getElem? ht
        have hall : ([22].all fun u => !Tryd.prog.wantsStandIn u) = true := by kernel_rfl
        exact (show Tryd.prog.wantsStandIn t = false by simpa using List.all_eq_true.1 hall t hm)⟩)
    (by kernel_rfl)

#print axioms dfasMin_card
end Go.Proofs.YtbbjkiigpdjaaaaDoor
