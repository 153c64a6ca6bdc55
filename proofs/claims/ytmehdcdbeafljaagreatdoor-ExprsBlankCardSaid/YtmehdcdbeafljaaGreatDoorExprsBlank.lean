/- ExprsBlank: the row. -/
import Derived.Test.YtmehdcdbeafljaaGreatDoorQzb
import Derived.Test.YtmehdcdbeafljaaGreatDoorQza
import Derived.Test.YtmehdcdbeafljaaGreatDoorQk
import Derived.Test.YtmehdcdbeafljaaGreatDoorQf
import Derived.Deep.Fields
namespace Go.Proofs.YtmehdcdbeafljaaGreatDoor
open Go.Proofs.Tryz
open Go Go.Lw Go.ChangeShapes Go.WideShapes Go.ChangeAt Go.RowKit Go.ChangeMaps
set_option maxRecDepth 100000

theorem pS (os : Os) (started : os.Started) (H : Type) (enc : TypeId × Value → H) :
 ReturnsInHanded {} Tryz.checked os 4 .any (fun w args => (Rows.exprsBlankSpec.pre enc Tryz.prog Tryz.f4 [] false w args ∧ laidMetH Tryz.prog Rows.exprsBlankRow.laid w) ∧ sizedMet enc Tryz.prog Tryz.f4 (OpenSpec.ofChange Rows.exprsBlankSpec) false w args)
  (Rows.exprsBlankSpec.post enc Tryz.prog Tryz.f4 false true false false) := by
 refine vV (C := Tryz.checked) (X := fun w _ => laidMetH Tryz.prog Rows.exprsBlankRow.laid w) (fun _ _ _ hh h => h.of_heap hh) own started (by kernel_rfl) func4
  (ChangeSpec.witness_shaped (enc := enc) (C := Tryz.checked) (os := os) (X := fun w _ => laidMetH Tryz.prog Rows.exprsBlankRow.laid w) false (FV os) #[.string ⟨#[]⟩, .slice none 0 0] 8 (HB os)
   (World.shaped_of_ZipB (by kernel_rfl) (by kernel_rfl)) (by kernel_rfl) (by kernel_rfl) (by kernel_rfl) (HA os _)) ?_
 intro W base args ds gs before hval0 hW hL hS
 have hval : ∀ (j : Nat) t v, Tryz.f4.params[j]? = some t → args[j]? = some v → Value.okWide Tryz.prog W .any base t v := hval0
 have hW' : DataW.Whole enc Tryz.prog Tryz.f4.params.toList Rows.exprsBlankSpec.vars false W args.toList ds gs before := hW
 obtain ⟨p, q, hA0, hV, rfl, _, _⟩ := hW
 have hA : DataW.TrodAll enc Tryz.prog W 0 (fun _ => true) true Tryz.f4.params.toList args.toList ds p := hA0
 rw [params4] at hA hval
 have hG := AJ hL hS
 obtain ⟨v0, v1, d0, d1, p0, p1, rfl, rfl, rfl, h0, h1⟩ := trodAll_two hA
 obtain ⟨l0, rfl, _, _, hl0⟩ := open_string underlying9 (hval 0 9 v0 rfl rfl) h0
 obtain ⟨l1, hl1⟩ := BN underlying38 underlying5 (show Tryz.prog.cellsOf 5 = 1 by kernel_rfl) (hval 1 38 v1 rfl rfl) h1
 exact Ea (P := Tryz.prog) (fn := Tryz.f4) (bt := 4) laidOut (by rw [params4]; kernel_rfl)
  rfl underlying4 rfl ⟨rfl, rfl, rfl⟩ hW' (by have k := A8 (HL hL hS) l0.data.toList hl1; rwa [HQ] at k)

theorem kB : Rows.ExprsBlankSaid :=
 OpenClaim.holds_of_wide 4 Tryz.f4 rfl rfl rfl rfl rfl rfl rfl ⟨rfl, rfl, rfl, rfl, rfl⟩ rfl rfl rfl rfl rfl (by kernel_rfl) func4 (by kernel_rfl)
  (of_decide_eq_true (by kernel_rfl)) (by unfold Func.isWrapper; first | (rw [if_pos (by decide +kernel)]; kernel_rfl) | (rw [if_neg (by decide +kernel)]; exact ⟨rfl, rfl⟩))
  (fun os started H enc _ => pS os started H enc)

#print axioms kB
end Go.Proofs.YtmehdcdbeafljaaGreatDoor
