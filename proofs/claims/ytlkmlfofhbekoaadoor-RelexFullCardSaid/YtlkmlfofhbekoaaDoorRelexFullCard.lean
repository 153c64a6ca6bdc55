/- RelexFull: the tied card: whatever it is told, it answers true. -/
import Derived.Test.YtlkmlfofhbekoaaDoorQy
import Derived.Test.YtlkmlfofhbekoaaDoorRelexFull
import Derived.Test.YtlkmlfofhbekoaaDoorTie
import Derived.Test.YtlkmlfofhbekoaaDoorCards
import Derived.SevenTiedAt
namespace Go.Proofs.YtlkmlfofhbekoaaDoor
open Go

theorem relexFull_card : Rows.RelexFullCardSaid :=
 Claim7.holds_tied_plain_at .later [] [.data, .data, .data, .data, .mapped, .widerDeep, .pinned] true (true, "613b943a225c93ea1eeff92ef3747ff86e2c77f7347c0fc733dfca813329ccba") true
  relexFull_holds (fun _ h => by cases h) (by kernel_rfl) (fun _ h => by cases h) relexFull_row_tie rfl ⟨rfl, rfl⟩ (by kernel_rfl) rfl
  (fun f fn hf hfn => by
   obtain rfl : f = 3 := Option.some.inj ((show Tryd.prog.funcNamed "limner/limnerlaw15.RelexFull" = some 3 by kernel_rfl).symm.trans hf) |>.symm
   obtain rfl : fn = Tryd.f3 := (Option.some.inj (Tryd.func3.symm.trans hfn)).symm
   exact ⟨by kernel_rfl, fun j t ht => by
    rw [Tryd.params3] at ht
    have hm : t ∈ [5, 5, 5] := by simpa using Array.mem_of_getElem? ht
    have hall : ([5, 5, 5].all fun u => !Tryd.prog.wantsStandIn u) = true := by kernel_rfl
    exact (show Tryd.prog.wantsStandIn t = false by simpa using List.all_eq_true.1 hall t hm)⟩)
  (by kernel_rfl)

#print axioms relexFull_card
end Go.Proofs.YtlkmlfofhbekoaaDoor
