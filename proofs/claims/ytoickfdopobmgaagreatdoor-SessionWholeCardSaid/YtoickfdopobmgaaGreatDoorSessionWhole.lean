/- SessionWhole: the row. -/
import Derived.Test.YtoickfdopobmgaaGreatDoorQzc
import Derived.Test.YtoickfdopobmgaaGreatDoorQzb
import Derived.Test.YtoickfdopobmgaaGreatDoorQq
namespace Go.Proofs.YtoickfdopobmgaaGreatDoor
open Go.Proofs.Tryz
open Go Go.Lw Go.ChangeShapes Go.WideShapes Go.ChangeAt Go.RowKit Go.ChangeMaps
set_option maxRecDepth 100000

theorem oZ (os : Os) (started : os.Started) (H : Type) (enc : TypeId × Value → H) :
    ReturnsInHanded {} Tryz.checked os 3 .any (fun w args => (Rows.sessionWholeSpec.pre enc Tryz.prog Tryz.f3 [] false w args ∧ laidMetH Tryz.prog Rows.sessionWholeRow.laid w) ∧ sizedMet enc Tryz.prog Tryz.f3 (OpenSpec.ofChange Rows.sessionWholeSpec) false w args)
      (Rows.sessionWholeSpec.post enc Tryz.prog Tryz.f3 false true false false) := by
  refine yq (C := Tryz.checked) (X := fun w _ => laidMetH Tryz.prog Rows.sessionWholeRow.laid w) (fun _ _ _ hh h => h.of_heap hh) own started (by kernel_rfl) func3
    (ChangeSpec.witness_shaped (enc := enc) (C := Tryz.checked) (os := os) (X := fun w _ => laidMetH Tryz.prog Rows.sessionWholeRow.laid w) false (Ja os) #[.slice none 0 0, .slice none 0 0] 8 (KT os)
      (World.shaped_of_ZipB (by kernel_rfl) (by kernel_rfl)) (by kernel_rfl) (by kernel_rfl) (by kernel_rfl) (KS os _)) ?_
  intro W base args ds gs before hval0 hW hL hS
  have hval : ∀ (j : Nat) t v, Tryz.f3.params[j]? = some t → args[j]? = some v → Value.okWide Tryz.prog W .any base t v := hval0
  have hW' : DataW.Whole enc Tryz.prog Tryz.f3.params.toList Rows.sessionWholeSpec.vars false W args.toList ds gs before := hW
  obtain ⟨p, q, hA0, hV, rfl, _, _⟩ := hW
  have hA : DataW.TrodAll enc Tryz.prog W 0 (fun _ => true) true Tryz.f3.params.toList args.toList ds p := hA0
  rw [params3] at hA hval
  have hG := CD hL hS
  obtain ⟨v0, v1, d0, d1, p0, p1, rfl, rfl, rfl, h0, h1⟩ := trodAll_two hA
  obtain ⟨l0, hl0, _⟩ := AA underlying22 underlying9 (show Tryz.prog.cellsOf 9 = 1 by kernel_rfl) (hval 0 22 v0 rfl rfl) h0
  obtain ⟨l1, hl1, hr1⟩ := Cc (hval 1 23 v1 rfl rfl) h1
  exact GV (P := Tryz.prog) (fn := Tryz.f3) (bt := 4) laidOut (by rw [params3]; kernel_rfl)
    rfl underlying4 rfl ⟨rfl, rfl, rfl⟩ hW' (pX (HH hL hS) (Na hl0) hl1 hr1)

theorem jK : Rows.SessionWholeSaid :=
  OpenClaim.holds_of_wide 3 Tryz.f3 rfl rfl rfl rfl rfl rfl rfl ⟨rfl, rfl, rfl, rfl, rfl⟩ rfl rfl rfl rfl rfl (by kernel_rfl) func3 (by kernel_rfl)
    (of_decide_eq_true (by kernel_rfl)) (by unfold Func.isWrapper; first | (rw [if_pos (by decide +kernel)]; kernel_rfl) | (rw [if_neg (by decide +kernel)]; exact ⟨rfl, rfl⟩))
    (fun os started H enc _ => oZ os started H enc)

#print axioms jK
end Go.Proofs.YtoickfdopobmgaaGreatDoor
