/- ModelKill: the row. -/
import Derived.Test.YtiigijehmmcfgaaGreatDoorQzf
import Derived.Test.YtiigijehmmcfgaaGreatDoorQze
import Derived.Test.YtiigijehmmcfgaaGreatDoorQk
import Derived.Test.YtiigijehmmcfgaaGreatDoorQf
import Derived.Deep.Fields
namespace Go.Proofs.YtiigijehmmcfgaaGreatDoor
open Go.Proofs.Tryz
open Go Go.Lw Go.ChangeShapes Go.WideShapes Go.ChangeAt Go.RowKit Go.ChangeMaps
set_option maxRecDepth 100000

theorem qG (os : Os) (started : os.Started) (H : Type) (enc : TypeId × Value → H) :
 ReturnsInHanded {} Tryz.checked os 5 .any (fun w args => (Rows.modelKillSpec.pre enc Tryz.prog f5 [] false w args ∧ laidMetH Tryz.prog Rows.modelKillRow.laid w) ∧ sizedMet enc Tryz.prog f5 (OpenSpec.ofChange Rows.modelKillSpec) false w args)
  (Rows.modelKillSpec.post enc Tryz.prog f5 false true false false) := by
 refine vz (C := Tryz.checked) (X := fun w _ => laidMetH Tryz.prog Rows.modelKillRow.laid w) (fun _ _ _ hh h => h.of_heap hh) own started (by kernel_rfl) func5
  (ChangeSpec.witness_shaped (enc := enc) (C := Tryz.checked) (os := os) (X := fun w _ => laidMetH Tryz.prog Rows.modelKillRow.laid w) false (Fj os) #[.string ⟨#[]⟩, .slice none 0 0] 8 (GL os)
   (World.shaped_of_ZipB (by kernel_rfl) (by kernel_rfl)) (by kernel_rfl) (by kernel_rfl) (by kernel_rfl) (GK os _)) ?_
 intro W base args ds gs before hval0 hW hL hS
 have hval : ∀ (j : Nat) t v, Tryz.f5.params[j]? = some t → args[j]? = some v → Value.okWide Tryz.prog W .any base t v := hval0
 have hW' : DataW.Whole enc Tryz.prog Tryz.f5.params.toList Rows.modelKillSpec.vars false W args.toList ds gs before := hW
 obtain ⟨p, q, hA0, hV, rfl, _, _⟩ := hW
 have hA : DataW.TrodAll enc Tryz.prog W 0 (fun _ => true) true Tryz.f5.params.toList args.toList ds p := hA0
 rw [params5] at hA hval
 have hG := Fi hL hS
 obtain ⟨v0, v1, d0, d1, p0, p1, rfl, rfl, rfl, h0, h1⟩ := trodAll_two hA
 obtain ⟨l0, rfl, _, _, hl0⟩ := open_string underlying9 (hval 0 9 v0 rfl rfl) h0
 obtain ⟨l1, hl1⟩ := Bk underlying34 underlying5 (show Tryz.prog.cellsOf 5 = 1 by kernel_rfl) (hval 1 34 v1 rfl rfl) h1
 exact DK (P := Tryz.prog) (fn := f5) (bt := 4) laidOut (by rw [params5]; kernel_rfl)
  rfl underlying4 rfl ⟨rfl, rfl, rfl⟩ hW' (by have k := vv hG (fun k => vK k) l0.data.toList (by rw [Array.length_toList]; exact hl0) hl1; rwa [G3] at k)

theorem lR : Rows.ModelKillSaid :=
 OpenClaim.holds_of_wide 5 f5 rfl rfl rfl rfl rfl rfl rfl ⟨rfl, rfl, rfl, rfl, rfl⟩ rfl rfl rfl rfl rfl (by kernel_rfl) func5 (by kernel_rfl)
  (of_decide_eq_true (by kernel_rfl)) (by unfold Func.isWrapper; first | (rw [if_pos (by decide +kernel)]; kernel_rfl) | (rw [if_neg (by decide +kernel)]; exact ⟨rfl, rfl⟩))
  (fun os started H enc _ => qG os started H enc)

#print axioms lR
end Go.Proofs.YtiigijehmmcfgaaGreatDoor
