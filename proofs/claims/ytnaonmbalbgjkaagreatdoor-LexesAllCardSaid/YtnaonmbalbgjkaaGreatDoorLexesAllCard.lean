/- LexesAll: the tied card: whatever it is told, it answers true. -/
import Derived.Test.YtnaonmbalbgjkaaGreatDoorQz
import Derived.Test.YtnaonmbalbgjkaaGreatDoorLexesAll
import Derived.Test.YtnaonmbalbgjkaaGreatDoorTie
import Derived.Test.YtnaonmbalbgjkaaGreatDoorCards
import Derived.SevenTiedAt
namespace Go.Proofs.YtnaonmbalbgjkaaGreatDoor
open Go

theorem lexesAll_card : Rows.LexesAllCardSaid :=
 Claim7.holds_tied_plain_at .later [] [.data, .data, .data, .data, .mapped, .widerDeep, .pinned] true (true, "a5314f204f242ac7215878b4ba332d1a2dc3f3436fdc6bc3c33cb39536c615cf") true
  lexesAll_holds (fun _ h => by cases h) (by kernel_rfl) (fun _ h => by cases h) lexesAll_row_tie rfl ⟨rfl, rfl⟩ (by kernel_rfl) rfl
  (fun f fn hf hfn => by
   obtain rfl : f = 3 := Option.some.inj ((show Tryz.prog.funcNamed "limner/limnerlaw14.LexesAll" = some 3 by kernel_rfl).symm.trans hf) |>.symm
   obtain rfl : fn = Tryz.f3 := (Option.some.inj (Tryz.func3.symm.trans hfn)).symm
   exact ⟨by kernel_rfl, fun j t ht => by
    rw [Tryz.params3] at ht
    have hm : t ∈ [9] := by simpa using Array.mem_of_getElem? ht
    have hall : ([9].all fun u => !Tryz.prog.wantsStandIn u) = true := by kernel_rfl
    exact (show Tryz.prog.wantsStandIn t = false by simpa using List.all_eq_true.1 hall t hm)⟩)
  (by kernel_rfl)

#print axioms lexesAll_card
end Go.Proofs.YtnaonmbalbgjkaaGreatDoor
