/- ValuesNumbers: the row. -/
import Derived.Test.YtdgckfkoihcmjaaGreatDoorQzb
import Derived.Test.YtdgckfkoihcmjaaGreatDoorQza
import Derived.Test.YtdgckfkoihcmjaaGreatDoorQh
import Derived.Test.YtdgckfkoihcmjaaGreatDoorQf
import Derived.Deep.Fields
namespace Go.Proofs.YtdgckfkoihcmjaaGreatDoor
open Go.Proofs.Tryz
open Go Go.Lw Go.ChangeShapes Go.WideShapes Go.ChangeAt Go.RowKit Go.ChangeMaps
set_option maxRecDepth 100000

theorem me (os : Os) (started : os.Started) (H : Type) (enc : TypeId × Value → H) :
    ReturnsInHanded {} Tryz.checked os 3 .any (fun w args => (Rows.valuesNumbersSpec.pre enc Tryz.prog Tryz.f3 [] false w args ∧ laidMetH Tryz.prog Rows.valuesNumbersRow.laid w) ∧ sizedMet enc Tryz.prog Tryz.f3 (OpenSpec.ofChange Rows.valuesNumbersSpec) false w args)
      (Rows.valuesNumbersSpec.post enc Tryz.prog Tryz.f3 false true false false) := by
  refine wg (C := Tryz.checked) (X := fun w _ => laidMetH Tryz.prog Rows.valuesNumbersRow.laid w) (fun _ _ _ hh h => h.of_heap hh) own started (by kernel_rfl) func3
    (ChangeSpec.witness_shaped (enc := enc) (C := Tryz.checked) (os := os) (X := fun w _ => laidMetH Tryz.prog Rows.valuesNumbersRow.laid w) false (GQ os) #[.int .i64 0, .int .i64 0, .agg #[.string ⟨#[]⟩, .string ⟨#[]⟩]] 8 (IZ os)
      (World.shaped_of_ZipB (by kernel_rfl) (by kernel_rfl)) (by kernel_rfl) (by kernel_rfl) (by kernel_rfl) (IY os _)) ?_
  intro W base args ds gs before hval0 hW hL hS
  have hval : ∀ (j : Nat) t v, Tryz.f3.params[j]? = some t → args[j]? = some v → Value.okWide Tryz.prog W .any base t v := hval0
  have hW' : DataW.Whole enc Tryz.prog Tryz.f3.params.toList Rows.valuesNumbersSpec.vars false W args.toList ds gs before := hW
  obtain ⟨p, q, hA0, hV, rfl, _, _⟩ := hW
  have hA : DataW.TrodAll enc Tryz.prog W 0 (fun _ => true) true Tryz.f3.params.toList args.toList ds p := hA0
  rw [params3] at hA hval
  have hG := AY hL hS
  obtain ⟨v0, v1, v2, d0, d1, d2, p0, p1, p2, rfl, rfl, rfl, h0, h1, h2⟩ := trodAll_three hA
  obtain ⟨l0, rfl, _, _, hw0⟩ := open_int underlying2 (hval 0 2 v0 rfl rfl) h0
  have hl0 : -9223372036854775808 ≤ l0 ∧ l0 ≤ 9223372036854775807 := by simpa [Lit.wf, IntKind.min, IntKind.max, IntKind.signed, IntKind.bits] using hw0
  obtain ⟨l1, rfl, _, _, hw1⟩ := open_int underlying2 (hval 1 2 v1 rfl rfl) h1
  have hl1 : -9223372036854775808 ≤ l1 ∧ l1 ≤ 9223372036854775807 := by simpa [Lit.wf, IntKind.min, IntKind.max, IntKind.signed, IntKind.bits] using hw1
  obtain ⟨l2, m2, rfl⟩ := Ep (hval 2 22 v2 rfl rfl) h2
  exact EO (P := Tryz.prog) (fn := Tryz.f3) (bt := 4) laidOut (by rw [params3]; kernel_rfl)
    rfl underlying4 rfl ⟨rfl, rfl, rfl⟩ hW' (AH (FH hL hS) l0 l1 hl0 hl1 l2 m2)

theorem iH : Rows.ValuesNumbersSaid :=
  OpenClaim.holds_of_wide 3 Tryz.f3 rfl rfl rfl rfl rfl rfl rfl ⟨rfl, rfl, rfl, rfl, rfl⟩ rfl rfl rfl rfl rfl (by kernel_rfl) func3 (by kernel_rfl)
    (of_decide_eq_true (by kernel_rfl)) (by unfold Func.isWrapper; first | (rw [if_pos (by decide +kernel)]; kernel_rfl) | (rw [if_neg (by decide +kernel)]; exact ⟨rfl, rfl⟩))
    (fun os started H enc _ => me os started H enc)

#print axioms iH
end Go.Proofs.YtdgckfkoihcmjaaGreatDoor
