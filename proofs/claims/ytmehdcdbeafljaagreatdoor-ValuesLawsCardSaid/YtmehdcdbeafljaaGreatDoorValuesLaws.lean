/- ValuesLaws: the row. -/
import Derived.Test.YtmehdcdbeafljaaGreatDoorQzc
import Derived.Test.YtmehdcdbeafljaaGreatDoorQk
import Derived.Test.YtmehdcdbeafljaaGreatDoorQf
import Derived.Deep.Fields
namespace Go.Proofs.YtmehdcdbeafljaaGreatDoor
open Go.Proofs.Tryz
open Go Go.Lw Go.ChangeShapes Go.WideShapes Go.ChangeAt Go.RowKit Go.ChangeMaps
set_option maxRecDepth 100000

theorem oN (os : Os) (started : os.Started) (H : Type) (enc : TypeId × Value → H) :
 ReturnsInHanded {} Tryz.checked os 7 .any (fun w args => (Rows.valuesLawsSpec.pre enc Tryz.prog f7 [] false w args ∧ laidMetH Tryz.prog Rows.valuesLawsRow.laid w) ∧ sizedMet enc Tryz.prog f7 (OpenSpec.ofChange Rows.valuesLawsSpec) false w args)
  (Rows.valuesLawsSpec.post enc Tryz.prog f7 false true false false) := by
 refine vu (C := Tryz.checked) (X := fun w _ => laidMetH Tryz.prog Rows.valuesLawsRow.laid w) (fun _ _ _ hh h => h.of_heap hh) own started (by kernel_rfl) func7
  (ChangeSpec.witness_shaped (enc := enc) (C := Tryz.checked) (os := os) (X := fun w _ => laidMetH Tryz.prog Rows.valuesLawsRow.laid w) false (Fo os) #[.int .i64 0, .int .i64 0] 8 (G0 os)
   (World.shaped_of_ZipB (by kernel_rfl) (by kernel_rfl)) (by kernel_rfl) (by kernel_rfl) (by kernel_rfl) (GZ os _)) ?_
 intro W base args ds gs before hval0 hW hL hS
 have hval : ∀ (j : Nat) t v, Tryz.f7.params[j]? = some t → args[j]? = some v → Value.okWide Tryz.prog W .any base t v := hval0
 have hW' : DataW.Whole enc Tryz.prog Tryz.f7.params.toList Rows.valuesLawsSpec.vars false W args.toList ds gs before := hW
 obtain ⟨p, q, hA0, hV, rfl, _, _⟩ := hW
 have hA : DataW.TrodAll enc Tryz.prog W 0 (fun _ => true) true Tryz.f7.params.toList args.toList ds p := hA0
 rw [params7] at hA hval
 have hG := Ag hL hS
 obtain ⟨v0, v1, d0, d1, p0, p1, rfl, rfl, rfl, h0, h1⟩ := trodAll_two hA
 obtain ⟨l0, rfl, _, _, hw0⟩ := open_int underlying2 (hval 0 2 v0 rfl rfl) h0
 have hl0 : -9223372036854775808 ≤ l0 ∧ l0 ≤ 9223372036854775807 := by simpa [Lit.wf, IntKind.min, IntKind.max, IntKind.signed, IntKind.bits] using hw0
 obtain ⟨l1, rfl, _, _, hw1⟩ := open_int underlying2 (hval 1 2 v1 rfl rfl) h1
 have hl1 : -9223372036854775808 ≤ l1 ∧ l1 ≤ 9223372036854775807 := by simpa [Lit.wf, IntKind.min, IntKind.max, IntKind.signed, IntKind.bits] using hw1
 exact Dy (P := Tryz.prog) (fn := f7) (bt := 4) laidOut (by rw [params7]; kernel_rfl)
  rfl underlying4 rfl ⟨rfl, rfl, rfl⟩ hW' (BA (Eg hL hS) l0 l1 hl0)

theorem jV : Rows.ValuesLawsSaid :=
 OpenClaim.holds_of_wide 7 f7 rfl rfl rfl rfl rfl rfl rfl ⟨rfl, rfl, rfl, rfl, rfl⟩ rfl rfl rfl rfl rfl (by kernel_rfl) func7 (by kernel_rfl)
  (of_decide_eq_true (by kernel_rfl)) (by unfold Func.isWrapper; first | (rw [if_pos (by decide +kernel)]; kernel_rfl) | (rw [if_neg (by decide +kernel)]; exact ⟨rfl, rfl⟩))
  (fun os started H enc _ => oN os started H enc)

#print axioms jV
end Go.Proofs.YtmehdcdbeafljaaGreatDoor
