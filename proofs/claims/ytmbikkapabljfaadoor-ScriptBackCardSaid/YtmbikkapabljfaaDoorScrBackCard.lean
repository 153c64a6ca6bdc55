/- ScriptBack: the tied card: whatever it is told, it answers true. -/
import Derived.Test.YtmbikkapabljfaaDoorScrBack
import Derived.Test.YtmbikkapabljfaaDoorTie
import Derived.Test.YtmbikkapabljfaaDoorCards
import Derived.SevenTiedAt
namespace Go.Proofs.YtmbikkapabljfaaDoor
open Go

theorem back_card : Rows.ScriptBackCardSaid :=
  Claim7.holds_tied_plain_at .later [] [.data, .data, .data, .data, .sentinel, .sentinel, .pinned] true (true, "8078ffef55fa378150474a605232e2e6f88abd67c144f5fa70f7f229b38e7e7f") true
    back_holds (fun _ h => by cases h) (by kernel_rfl) (fun _ h => by cases h) scriptBack_row_tie rfl ⟨rfl, rfl⟩ (by kernel_rfl) rfl
    (fun f fn hf hfn => by
      obtain rfl : f = 4 := Option.some.inj ((show Tryd.prog.funcNamed "limner/limnerlaw27.ScriptBack" = some 4 by kernel_rfl).symm.trans hf) |>.symm
      obtain rfl : fn = Tryd.f4 := (Option.some.inj (Tryd.func4.symm.trans hfn)).symm
      exact ⟨by kernel_rfl, fun j t ht => by
        rw [Tryd.params4] at ht
        have hm : t ∈ [22] := by simpa using Array.mem_of_getElem? ht
        have hall : ([22].all fun u => !Tryd.prog.wantsStandIn u) = true := by kernel_rfl
        exact (show Tryd.prog.wantsStandIn t = false by simpa using List.all_eq_true.1 hall t hm)⟩)
    (by kernel_rfl)

#print axioms back_card
end Go.Proofs.YtmbikkapabljfaaDoor
