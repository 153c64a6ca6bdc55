/- ValuesEnds: the row. -/
import Derived.Test.YtdgckfkoihcmjaaGreatDoorQzb
import Derived.Test.YtdgckfkoihcmjaaGreatDoorQza
import Derived.Test.YtdgckfkoihcmjaaGreatDoorQq
namespace Go.Proofs.YtdgckfkoihcmjaaGreatDoor
open Go.Proofs.Tryz
open Go Go.Lw Go.ChangeShapes Go.WideShapes Go.ChangeAt Go.RowKit Go.ChangeMaps
set_option maxRecDepth 100000

theorem qp (os : Os) (started : os.Started) (H : Type) (enc : TypeId × Value → H) :
    ReturnsInHanded {} Tryz.checked os 4 .any (fun w args => (Rows.valuesEndsSpec.pre enc Tryz.prog Tryz.f4 [] false w args ∧ laidMetH Tryz.prog Rows.valuesEndsRow.laid w) ∧ sizedMet enc Tryz.prog Tryz.f4 (OpenSpec.ofChange Rows.valuesEndsSpec) false w args)
      (Rows.valuesEndsSpec.post enc Tryz.prog Tryz.f4 false true false false) := by
  refine yg (C := Tryz.checked) (X := fun w _ => laidMetH Tryz.prog Rows.valuesEndsRow.laid w) (fun _ _ _ hh h => h.of_heap hh) own started (by kernel_rfl) func4
    (ChangeSpec.witness_shaped (enc := enc) (C := Tryz.checked) (os := os) (X := fun w _ => laidMetH Tryz.prog Rows.valuesEndsRow.laid w) false (Im os) #[.string ⟨#[]⟩, .slice none 0 0] 8 (Kc os)
      (World.shaped_of_ZipB (by kernel_rfl) (by kernel_rfl)) (by kernel_rfl) (by kernel_rfl) (by kernel_rfl) (Kb os _)) ?_
  intro W base args ds gs before hval0 hW hL hS
  have hval : ∀ (j : Nat) t v, Tryz.f4.params[j]? = some t → args[j]? = some v → Value.okWide Tryz.prog W .any base t v := hval0
  have hW' : DataW.Whole enc Tryz.prog Tryz.f4.params.toList Rows.valuesEndsSpec.vars false W args.toList ds gs before := hW
  obtain ⟨p, q, hA0, hV, rfl, _, _⟩ := hW
  have hA : DataW.TrodAll enc Tryz.prog W 0 (fun _ => true) true Tryz.f4.params.toList args.toList ds p := hA0
  rw [params4] at hA hval
  have hG := Cg hL hS
  obtain ⟨v0, v1, d0, d1, p0, p1, rfl, rfl, rfl, h0, h1⟩ := trodAll_two hA
  obtain ⟨l0, rfl, _, _, hl0⟩ := open_string underlying9 (hval 0 9 v0 rfl rfl) h0
  obtain ⟨l1, hl1, hr1⟩ := Du (hval 1 48 v1 rfl rfl) h1
  exact Gd (P := Tryz.prog) (fn := Tryz.f4) (bt := 4) laidOut (by rw [params4]; kernel_rfl)
    rfl underlying4 rfl ⟨rfl, rfl, rfl⟩ hW' (by have k := DT (G1 hL hS) l0.data.toList hl1 hr1; rwa [KA] at k)

theorem kX : Rows.ValuesEndsSaid :=
  OpenClaim.holds_of_wide 4 Tryz.f4 rfl rfl rfl rfl rfl rfl rfl ⟨rfl, rfl, rfl, rfl, rfl⟩ rfl rfl rfl rfl rfl (by kernel_rfl) func4 (by kernel_rfl)
    (of_decide_eq_true (by kernel_rfl)) (by unfold Func.isWrapper; first | (rw [if_pos (by decide +kernel)]; kernel_rfl) | (rw [if_neg (by decide +kernel)]; exact ⟨rfl, rfl⟩))
    (fun os started H enc _ => qp os started H enc)

#print axioms kX
end Go.Proofs.YtdgckfkoihcmjaaGreatDoor
