/- LexesParts: the tied card: whatever it is told, it answers true. -/
import Derived.Test.YthiojfjndphkbaaDoorQy
import Derived.Test.YthiojfjndphkbaaDoorLexesParts
import Derived.Test.YthiojfjndphkbaaDoorTie
import Derived.Test.YthiojfjndphkbaaDoorCards
import Derived.SevenTiedAt
namespace Go.Proofs.YthiojfjndphkbaaDoor
open Go

theorem lexesParts_card : Rows.LexesPartsCardSaid :=
  Claim7.holds_tied_plain_at .later [] [.data, .data, .data, .data, .mapped, .widerDeep, .pinned] true (true, "adec903f6807eed4007ff52afd27ac8461c8a484213b9d4c58309fb09c401283") true
    lexesParts_holds (fun _ h => by cases h) (by kernel_rfl) (fun _ h => by cases h) lexesParts_row_tie rfl ⟨rfl, rfl⟩ (by kernel_rfl) rfl
    (fun f fn hf hfn => by
      obtain rfl : f = 4 := Option.some.inj ((show Tryd.prog.funcNamed "limner/limnerlaw14.LexesParts" = some 4 by kernel_rfl).symm.trans hf) |>.symm
      obtain rfl : fn = Tryd.f4 := (Option.some.inj (Tryd.func4.symm.trans hfn)).symm
      exact ⟨by kernel_rfl, fun j t ht => by
        rw [Tryd.params4] at ht
        have hm : t ∈ [9] := by simpa using Array.mem_of_getElem? ht
        have hall : ([9].all fun u => !Tryd.prog.wantsStandIn u) = true := by kernel_rfl
        exact (show Tryd.prog.wantsStandIn t = false by simpa using List.all_eq_true.1 hall t hm)⟩)
    (by kernel_rfl)

#print axioms lexesParts_card
end Go.Proofs.YthiojfjndphkbaaDoor
