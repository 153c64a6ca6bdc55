/- EditorUndo: the row. -/
import Derived.Test.YtpjgdgdnbkjoiaaGreatDoorQzf
import Derived.Test.YtpjgdgdnbkjoiaaGreatDoorQze
import Derived.Test.YtpjgdgdnbkjoiaaGreatDoorQi
import Derived.Test.YtpjgdgdnbkjoiaaGreatDoorQf
import Derived.Deep.Fields
namespace Go.Proofs.YtpjgdgdnbkjoiaaGreatDoor
open Go.Proofs.Tryz
open Go Go.Lw Go.ChangeShapes Go.WideShapes Go.ChangeAt Go.RowKit Go.ChangeMaps
set_option maxRecDepth 100000

theorem sI (os : Os) (started : os.Started) (H : Type) (enc : TypeId × Value → H) :
    ReturnsInHanded {} Tryz.checked os 3 .any (fun w args => (Rows.editorUndoSpec.pre enc Tryz.prog Tryz.f3 [] false w args ∧ laidMetH Tryz.prog Rows.editorUndoRow.laid w) ∧ sizedMet enc Tryz.prog Tryz.f3 (OpenSpec.ofChange Rows.editorUndoSpec) false w args)
      (Rows.editorUndoSpec.post enc Tryz.prog Tryz.f3 false true false false) := by
  refine yR (C := Tryz.checked) (X := fun w _ => laidMetH Tryz.prog Rows.editorUndoRow.laid w) (fun _ _ _ hh h => h.of_heap hh) own started (by kernel_rfl) func3
    (ChangeSpec.witness_shaped (enc := enc) (C := Tryz.checked) (os := os) (X := fun w _ => laidMetH Tryz.prog Rows.editorUndoRow.laid w) false (I0 os) #[.slice none 0 0] 8 (KM os)
      (World.shaped_of_ZipB (by kernel_rfl) (by kernel_rfl)) (by kernel_rfl) (by kernel_rfl) (by kernel_rfl) (KL os _)) ?_
  intro W base args ds gs before hval0 hW hL hS
  have hval : ∀ (j : Nat) t v, Tryz.f3.params[j]? = some t → args[j]? = some v → Value.okWide Tryz.prog W .any base t v := hval0
  have hW' : DataW.Whole enc Tryz.prog Tryz.f3.params.toList Rows.editorUndoSpec.vars false W args.toList ds gs before := hW
  obtain ⟨p, q, hA0, hV, rfl, _, _⟩ := hW
  have hA : DataW.TrodAll enc Tryz.prog W 0 (fun _ => true) true Tryz.f3.params.toList args.toList ds p := hA0
  rw [params3] at hA hval
  have hG := IZ hL hS
  obtain ⟨v0, d0, rfl, rfl, h0⟩ := trodAll_one hA
  obtain ⟨l0, hl0, _⟩ := AO underlying22 underlying9 (show Tryz.prog.cellsOf 9 = 1 by kernel_rfl) (hval 0 22 v0 rfl rfl) h0
  exact GS (P := Tryz.prog) (fn := Tryz.f3) (bt := 4) laidOut (by rw [params3]; kernel_rfl)
    rfl underlying4 rfl ⟨rfl, rfl, rfl⟩ hW' (tO hG (M4 hl0))

theorem l9 : Rows.EditorUndoSaid :=
  OpenClaim.holds_of_wide 3 Tryz.f3 rfl rfl rfl rfl rfl rfl rfl ⟨rfl, rfl, rfl, rfl, rfl⟩ rfl rfl rfl rfl rfl (by kernel_rfl) func3 (by kernel_rfl)
    (of_decide_eq_true (by kernel_rfl)) (by unfold Func.isWrapper; first | (rw [if_pos (by decide +kernel)]; kernel_rfl) | (rw [if_neg (by decide +kernel)]; exact ⟨rfl, rfl⟩))
    (fun os started H enc _ => sI os started H enc)

#print axioms l9
end Go.Proofs.YtpjgdgdnbkjoiaaGreatDoor
