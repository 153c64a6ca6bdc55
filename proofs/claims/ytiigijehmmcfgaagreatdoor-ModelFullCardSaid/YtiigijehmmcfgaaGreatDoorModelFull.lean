/- ModelFull: the row. -/
import Derived.Test.YtiigijehmmcfgaaGreatDoorQzd
import Derived.Test.YtiigijehmmcfgaaGreatDoorQzc
import Derived.Test.YtiigijehmmcfgaaGreatDoorQt
import Derived.Lib.ValidLaws
import Derived.Shelf.Unicode.ValidAny
import Derived.Test.YtiigijehmmcfgaaGreatDoorProg
import Derived.Test.YtiigijehmmcfgaaGreatDoorQk
import Derived.Test.YtiigijehmmcfgaaGreatDoorQf
import Derived.Deep.Fields
namespace Go.Proofs.YtiigijehmmcfgaaGreatDoor
open Go.Proofs.Tryz
open Go Go.Lw Go.ChangeShapes Go.WideShapes Go.ChangeAt Go.RowKit Go.ChangeMaps
set_option maxRecDepth 100000

theorem qw (os : Os) (started : os.Started) (H : Type) (enc : TypeId × Value → H) :
 ReturnsInHanded {} Tryz.checked os 4 .any (fun w args => (Rows.modelFullSpec.pre enc Tryz.prog Tryz.f4 [] false w args ∧ laidMetH Tryz.prog Rows.modelFullRow.laid w) ∧ sizedMet enc Tryz.prog Tryz.f4 (OpenSpec.ofChange Rows.modelFullSpec) false w args)
  (Rows.modelFullSpec.post enc Tryz.prog Tryz.f4 false true false false) := by
 refine u9 (C := Tryz.checked) (X := fun w _ => laidMetH Tryz.prog Rows.modelFullRow.laid w) (fun _ _ _ hh h => h.of_heap hh) own started (by kernel_rfl) func4
  (ChangeSpec.witness_shaped (enc := enc) (C := Tryz.checked) (os := os) (X := fun w _ => laidMetH Tryz.prog Rows.modelFullRow.laid w) false (EZ os) #[.string ⟨#[]⟩, .int .u8 0] 8 (Gn os)
   (World.shaped_of_ZipB (by kernel_rfl) (by kernel_rfl)) (by kernel_rfl) (by kernel_rfl) (by kernel_rfl) (Gm os _)) ?_
 intro W base args ds gs before hval0 hW hL hS
 have hval : ∀ (j : Nat) t v, Tryz.f4.params[j]? = some t → args[j]? = some v → Value.okWide Tryz.prog W .any base t v := hval0
 have hW' : DataW.Whole enc Tryz.prog Tryz.f4.params.toList Rows.modelFullSpec.vars false W args.toList ds gs before := hW
 obtain ⟨p, q, hA0, hV, rfl, _, _⟩ := hW
 have hA : DataW.TrodAll enc Tryz.prog W 0 (fun _ => true) true Tryz.f4.params.toList args.toList ds p := hA0
 rw [params4] at hA hval
 have hG := EY hL hS
 obtain ⟨v0, v1, d0, d1, p0, p1, rfl, rfl, rfl, h0, h1⟩ := trodAll_two hA
 obtain ⟨l0, rfl, _, _, hl0⟩ := open_string underlying9 (hval 0 9 v0 rfl rfl) h0
 obtain ⟨l1, rfl, _, _, hw1⟩ := open_int underlying5 (hval 1 5 v1 rfl rfl) h1
 have hl1 : 0 ≤ l1 ∧ l1 ≤ 255 := by simpa [Lit.wf, IntKind.min, IntKind.max, IntKind.signed, IntKind.bits] using hw1
 obtain ⟨n1, rfl⟩ : ∃ n : Nat, l1 = n := ⟨l1.toNat, by omega⟩
 exact Dq (P := Tryz.prog) (fn := Tryz.f4) (bt := 4) laidOut (by rw [params4]; kernel_rfl)
  rfl underlying4 rfl ⟨rfl, rfl, rfl⟩ hW' (by have k := Br hG (fun k => vq k) l0.data.toList (UInt8.ofNat n1) (by rw [Array.length_toList]; exact hl0); rwa [GF, show (UInt8.ofNat n1).toNat = n1 from Nat.mod_eq_of_lt (by omega)] at k)

theorem lK : Rows.ModelFullSaid :=
 OpenClaim.holds_of_wide 4 Tryz.f4 rfl rfl rfl rfl rfl rfl rfl ⟨rfl, rfl, rfl, rfl, rfl⟩ rfl rfl rfl rfl rfl (by kernel_rfl) func4 (by kernel_rfl)
  (of_decide_eq_true (by kernel_rfl)) (by unfold Func.isWrapper; first | (rw [if_pos (by decide +kernel)]; kernel_rfl) | (rw [if_neg (by decide +kernel)]; exact ⟨rfl, rfl⟩))
  (fun os started H enc _ => qw os started H enc)

#print axioms lK
end Go.Proofs.YtiigijehmmcfgaaGreatDoor
