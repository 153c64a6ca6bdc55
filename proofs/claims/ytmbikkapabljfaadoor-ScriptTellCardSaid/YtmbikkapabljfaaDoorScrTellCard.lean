/- ScriptTell: the tied card: whatever it is told, it answers true. -/
import Derived.Test.YtmbikkapabljfaaDoorScrTell
import Derived.Test.YtmbikkapabljfaaDoorTie
import Derived.Test.YtmbikkapabljfaaDoorCards
import Derived.SevenTiedAt
namespace Go.Proofs.YtmbikkapabljfaaDoor
open Go

theorem tell_card : Rows.ScriptTellCardSaid :=
  Claim7.holds_tied_plain_at .later [] [.data, .data, .data, .data, .sentinel, .sentinel, .pinned] true (true, "8078ffef55fa378150474a605232e2e6f88abd67c144f5fa70f7f229b38e7e7f") true
    tell_holds (fun _ h => by cases h) (by kernel_rfl) (fun _ h => by cases h) scriptTell_row_tie rfl ⟨rfl, rfl⟩ (by kernel_rfl) rfl
    (fun f fn hf hfn => by
      obtain rfl : f = 3 := Option.some.inj ((show Tryd.prog.funcNamed "limner/limnerlaw27.ScriptTell" = some 3 by kernel_rfl).symm.trans hf) |>.symm
      obtain rfl : fn = Tryd.f3 := (Option.some.inj (Tryd.func3.symm.trans hfn)).symm
      exact ⟨by kernel_rfl, fun j t ht => by
        rw [Tryd.params3] at ht
        have hm : t ∈ [22, 9] := by simpa using Array.mem_of_getElem? ht
        have hall : ([22, 9].all fun u => !Tryd.prog.wantsStandIn u) = true := by kernel_rfl
        exact (show Tryd.prog.wantsStandIn t = false by simpa using List.all_eq_true.1 hall t hm)⟩)
    (by kernel_rfl)

#print axioms tell_card
end Go.Proofs.YtmbikkapabljfaaDoor
