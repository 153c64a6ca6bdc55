/- ExprsShow: the tied card: whatever it is told, it answers true. -/
import Derived.Test.YtedocgkapmeceaaGreatDoorQza
import Derived.Test.YtedocgkapmeceaaGreatDoorExprsShow
import Derived.Test.YtedocgkapmeceaaGreatDoorTie
import Derived.Test.YtedocgkapmeceaaGreatDoorCards
import Derived.SevenTiedAt
namespace Go.Proofs.YtedocgkapmeceaaGreatDoor
open Go.Proofs.Tryz
open Go

theorem exprsShow_card : Rows.ExprsShowCardSaid :=
 Claim7.holds_tied_plain_at .later [] [.data, .data, .data, .data, .mapped, .widerDeep, .widerDeep, .widerDeep, .widerDeep, .pinned] true (true, "cd8eee65873472536307412df3223d8c6368c3fc44c1adcccf8064fd5ff2837c") true
  l9 (fun _ h => by cases h) (by kernel_rfl) (fun _ h => by cases h) exprsShow_row_tie rfl ⟨rfl, rfl⟩ (by kernel_rfl) rfl
  (fun f fn hf hfn => by
   obtain rfl : f = 4 := Option.some.inj ((show Tryz.prog.funcNamed "limner/limnerlaw29.ExprsShow" = some 4 by kernel_rfl).symm.trans hf) |>.symm
   obtain rfl : fn = Tryz.f4 := (Option.some.inj (Tryz.func4.symm.trans hfn)).symm
   exact ⟨by kernel_rfl, fun j t ht => by
    rw [params4] at ht
    have hm : t ∈ [37, 37] := by simpa using Array.mem_of_getElem? ht
    have hall : ([37, 37].all fun u => !Tryz.prog.wantsStandIn u) = true := by kernel_rfl
    exact (show Tryz.prog.wantsStandIn t = false by simpa using List.all_eq_true.1 hall t hm)⟩)
  (by kernel_rfl)

#print axioms exprsShow_card
end Go.Proofs.YtedocgkapmeceaaGreatDoor
