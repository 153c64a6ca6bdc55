/- ExprsBlank: the tied card: whatever it is told, it answers true. -/
import Derived.Test.YtmehdcdbeafljaaGreatDoorQzb
import Derived.Test.YtmehdcdbeafljaaGreatDoorExprsBlank
import Derived.Test.YtmehdcdbeafljaaGreatDoorTie
import Derived.Test.YtmehdcdbeafljaaGreatDoorCards
import Derived.SevenTiedAt
namespace Go.Proofs.YtmehdcdbeafljaaGreatDoor
open Go.Proofs.Tryz
open Go

theorem exprsBlank_card : Rows.ExprsBlankCardSaid :=
 Claim7.holds_tied_plain_at .later [] [.data, .data, .data, .data, .mapped, .widerDeep, .widerDeep, .widerDeep, .widerDeep, .pinned] true (true, "59ba2534eeb8d62116b3feba8fb8f1092f1d2a421e4562931cae5bbb98eea26c") true
  kB (fun _ h => by cases h) (by kernel_rfl) (fun _ h => by cases h) exprsBlank_row_tie rfl ⟨rfl, rfl⟩ (by kernel_rfl) rfl
  (fun f fn hf hfn => by
   obtain rfl : f = 4 := Option.some.inj ((show Tryz.prog.funcNamed "limner/limnerlaw29.ExprsBlank" = some 4 by kernel_rfl).symm.trans hf) |>.symm
   obtain rfl : fn = Tryz.f4 := (Option.some.inj (Tryz.func4.symm.trans hfn)).symm
   exact ⟨by kernel_rfl, fun j t ht => by
    rw [params4] at ht
    have hm : t ∈ [9, 38] := by simpa using Array.mem_of_getElem? ht
    have hall : ([9, 38].all fun u => !Tryz.prog.wantsStandIn u) = true := by kernel_rfl
    exact (show Tryz.prog.wantsStandIn t = false by simpa using List.all_eq_true.1 hall t hm)⟩)
  (by kernel_rfl)

#print axioms exprsBlank_card
end Go.Proofs.YtmehdcdbeafljaaGreatDoor
