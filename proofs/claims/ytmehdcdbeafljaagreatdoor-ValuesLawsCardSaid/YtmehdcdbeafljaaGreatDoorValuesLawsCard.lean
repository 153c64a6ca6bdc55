/- ValuesLaws: the tied card: whatever it is told, it answers true. -/
import Derived.Test.YtmehdcdbeafljaaGreatDoorQzc
import Derived.Test.YtmehdcdbeafljaaGreatDoorValuesLaws
import Derived.Test.YtmehdcdbeafljaaGreatDoorTie
import Derived.Test.YtmehdcdbeafljaaGreatDoorCards
import Derived.SevenTiedAt
namespace Go.Proofs.YtmehdcdbeafljaaGreatDoor
open Go.Proofs.Tryz
open Go

theorem valuesLaws_card : Rows.ValuesLawsCardSaid :=
 Claim7.holds_tied_plain_at .later [] [.data, .data, .data, .data, .sentinel, .sentinel, .mapped, .widerDeep, .widerDeep, .widerDeep, .widerDeep, .pinned] true (true, "59ba2534eeb8d62116b3feba8fb8f1092f1d2a421e4562931cae5bbb98eea26c") true
  jV (fun _ h => by cases h) (by kernel_rfl) (fun _ h => by cases h) valuesLaws_row_tie rfl ⟨rfl, rfl⟩ (by kernel_rfl) rfl
  (fun f fn hf hfn => by
   obtain rfl : f = 7 := Option.some.inj ((show Tryz.prog.funcNamed "limner/limnerlaw30.ValuesLaws" = some 7 by kernel_rfl).symm.trans hf) |>.symm
   obtain rfl : fn = f7 := (Option.some.inj (Tryz.func7.symm.trans hfn)).symm
   exact ⟨by kernel_rfl, fun j t ht => by
    rw [params7] at ht
    have hm : t ∈ [2, 2] := by simpa using Array.mem_of_getElem? ht
    have hall : ([2, 2].all fun u => !Tryz.prog.wantsStandIn u) = true := by kernel_rfl
    exact (show Tryz.prog.wantsStandIn t = false by simpa using List.all_eq_true.1 hall t hm)⟩)
  (by kernel_rfl)

#print axioms valuesLaws_card
end Go.Proofs.YtmehdcdbeafljaaGreatDoor
