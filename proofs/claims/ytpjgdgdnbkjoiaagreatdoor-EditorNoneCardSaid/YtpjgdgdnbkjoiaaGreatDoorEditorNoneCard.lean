/- EditorNone: the tied card: whatever it is told, it answers true. -/
import Derived.Test.YtpjgdgdnbkjoiaaGreatDoorQzf
import Derived.Test.YtpjgdgdnbkjoiaaGreatDoorEditorNone
import Derived.Test.YtpjgdgdnbkjoiaaGreatDoorTie
import Derived.Test.YtpjgdgdnbkjoiaaGreatDoorCards
import Derived.SevenTiedAt
namespace Go.Proofs.YtpjgdgdnbkjoiaaGreatDoor
open Go.Proofs.Tryz
open Go

theorem editorNone_card : Rows.EditorNoneCardSaid :=
  Claim7.holds_tied_plain_at .later [] [.data, .data, .data, .data, .mapped, .widerDeep, .pinned] true (true, "5bf0fa40f5feb22e849692e5b773d4f3d59245668e6d0ee2695d301858c5dbc0") true
    lH (fun _ h => by cases h) (by kernel_rfl) (fun _ h => by cases h) editorNone_row_tie rfl ⟨rfl, rfl⟩ (by kernel_rfl) rfl
    (fun f fn hf hfn => by
      obtain rfl : f = 4 := Option.some.inj ((show Tryz.prog.funcNamed "limner/limnerlaw24.EditorNone" = some 4 by kernel_rfl).symm.trans hf) |>.symm
      obtain rfl : fn = Tryz.f4 := (Option.some.inj (Tryz.func4.symm.trans hfn)).symm
      exact ⟨by kernel_rfl, fun j t ht => by
        rw [params4] at ht
        have hm : t ∈ [37] := by simpa using Array.mem_of_getElem? ht
        have hall : ([37].all fun u => !Tryz.prog.wantsStandIn u) = true := by kernel_rfl
        exact (show Tryz.prog.wantsStandIn t = false by simpa using List.all_eq_true.1 hall t hm)⟩)
    (by kernel_rfl)

#print axioms editorNone_card
end Go.Proofs.YtpjgdgdnbkjoiaaGreatDoor
