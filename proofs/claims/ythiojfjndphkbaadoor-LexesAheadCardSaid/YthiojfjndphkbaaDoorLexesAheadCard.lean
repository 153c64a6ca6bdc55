/- LexesAhead: the tied card: whatever it is told, it answers true. -/
import Derived.Test.YthiojfjndphkbaaDoorQy
import Derived.Test.YthiojfjndphkbaaDoorLexesAhead
import Derived.Test.YthiojfjndphkbaaDoorTie
import Derived.Test.YthiojfjndphkbaaDoorCards
import Derived.SevenTiedAt
namespace Go.Proofs.YthiojfjndphkbaaDoor
open Go

theorem lexesAhead_card : Rows.LexesAheadCardSaid :=
  Claim7.holds_tied_plain_at .later [] [.data, .data, .data, .data, .mapped, .widerDeep, .pinned] true (true, "adec903f6807eed4007ff52afd27ac8461c8a484213b9d4c58309fb09c401283") true
    lexesAhead_holds (fun _ h => by cases h) (by kernel_rfl) (fun _ h => by cases h) lexesAhead_row_tie rfl ⟨rfl, rfl⟩ (by kernel_rfl) rfl
    (fun f fn hf hfn => by
      obtain rfl : f = 5 := Option.some.inj ((show Tryd.prog.funcNamed "limner/limnerlaw14.LexesAhead" = some 5 by kernel_rfl).symm.trans hf) |>.symm
      obtain rfl : fn = Tryd.f5 := (Option.some.inj (Tryd.func5.symm.trans hfn)).symm
      exact ⟨by kernel_rfl, fun j t ht => by
        rw [Tryd.params5] at ht
        have hm : t ∈ [9, 9] := by simpa using Array.mem_of_getElem? ht
        have hall : ([9, 9].all fun u => !Tryd.prog.wantsStandIn u) = true := by kernel_rfl
        exact (show Tryd.prog.wantsStandIn t = false by simpa using List.all_eq_true.1 hall t hm)⟩)
    (by kernel_rfl)

#print axioms lexesAhead_card
end Go.Proofs.YthiojfjndphkbaaDoor
