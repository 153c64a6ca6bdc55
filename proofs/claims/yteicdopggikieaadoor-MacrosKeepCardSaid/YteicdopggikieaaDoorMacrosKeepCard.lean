/- MacrosKeep: the tied card: whatever it is told, it answers true. -/
import Derived.Test.YteicdopggikieaaDoorQs
import Derived.Test.YteicdopggikieaaDoorMacrosKeep
import Derived.Test.YteicdopggikieaaDoorTie
import Derived.Test.YteicdopggikieaaDoorCards
import Derived.SevenTiedAt
namespace Go.Proofs.YteicdopggikieaaDoor
open Go

theorem macrosKeep_card : Rows.MacrosKeepCardSaid :=
 Claim7.holds_tied_plain_at .later [] [.data, .data, .data, .data, .sentinel, .sentinel, .widerDeep, .pinned] true (true, "6a4275325463f0f6ed01d7ed9286466bc72f02a4f095d5b8fbf8fd2a44fee623") true
  macrosKeep_holds (fun _ h => by cases h) (by kernel_rfl) (fun _ h => by cases h) macrosKeep_row_tie rfl ⟨rfl, rfl⟩ (by kernel_rfl) rfl
  (fun f fn hf hfn => by
   obtain rfl : f = 7 := Option.some.inj ((show Tryd.prog.funcNamed "limner/limnerlaw34.MacrosKeep" = some 7 by kernel_rfl).symm.trans hf) |>.symm
   obtain rfl : fn = Tryd.f7 := (Option.some.inj (Tryd.func7.symm.trans hfn)).symm
   exact ⟨by kernel_rfl, fun j t ht => by
    rw [Tryd.params7] at ht
    have hm : t ∈ [48] := by simpa using Array.mem_of_getElem? ht
    have hall : ([48].all fun u => !Tryd.prog.wantsStandIn u) = true := by kernel_rfl
    exact (show Tryd.prog.wantsStandIn t = false by simpa using List.all_eq_true.1 hall t hm)⟩)
  (by kernel_rfl)

#print axioms macrosKeep_card
end Go.Proofs.YteicdopggikieaaDoor
