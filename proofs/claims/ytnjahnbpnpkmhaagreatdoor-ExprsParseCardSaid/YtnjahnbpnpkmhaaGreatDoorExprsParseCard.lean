/- ExprsParse: the tied card: whatever it is told, it answers true. -/
import Derived.Test.YtnjahnbpnpkmhaaGreatDoorQzb
import Derived.Test.YtnjahnbpnpkmhaaGreatDoorExprsParse
import Derived.Test.YtnjahnbpnpkmhaaGreatDoorTie
import Derived.Test.YtnjahnbpnpkmhaaGreatDoorCards
import Derived.SevenTiedAt
namespace Go.Proofs.YtnjahnbpnpkmhaaGreatDoor
open Go.Proofs.Tryz
open Go

theorem exprsParse_card : Rows.ExprsParseCardSaid :=
  Claim7.holds_tied_plain_at .later [] [.data, .data, .data, .data, .mapped, .widerDeep, .widerDeep, .widerDeep, .widerDeep, .pinned] true (true, "55ce459f3214517f8d6d7100805181342285148c33e3e4fae11c32feb995bb9b") true
    mN (fun _ h => by cases h) (by kernel_rfl) (fun _ h => by cases h) exprsParse_row_tie rfl ⟨rfl, rfl⟩ (by kernel_rfl) rfl
    (fun f fn hf hfn => by
      obtain rfl : f = 3 := Option.some.inj ((show Tryz.prog.funcNamed "limner/limnerlaw29.ExprsParse" = some 3 by kernel_rfl).symm.trans hf) |>.symm
      obtain rfl : fn = Tryz.f3 := (Option.some.inj (Tryz.func3.symm.trans hfn)).symm
      exact ⟨by kernel_rfl, fun j t ht => by
        rw [params3] at ht
        have hm : t ∈ [9] := by simpa using Array.mem_of_getElem? ht
        have hall : ([9].all fun u => !Tryz.prog.wantsStandIn u) = true := by kernel_rfl
        exact (show Tryz.prog.wantsStandIn t = false by simpa using List.all_eq_true.1 hall t hm)⟩)
    (by kernel_rfl)

#print axioms exprsParse_card
end Go.Proofs.YtnjahnbpnpkmhaaGreatDoor
