/- CompleteGrows: the row. -/
import Derived.Test.YtfegacfjgjaghaaGreatDoorQzb
import Derived.Test.YtfegacfjgjaghaaGreatDoorQo
import Derived.Test.YtfegacfjgjaghaaGreatDoorQg
import Derived.Deep.Fields
namespace Go.Proofs.YtfegacfjgjaghaaGreatDoor
open Go Go.Lw Go.ChangeShapes Go.WideShapes Go.ChangeAt Go.RowKit Go.ChangeMaps
set_option maxRecDepth 100000

theorem completeGrows_lifted (os : Os) (started : os.Started) (H : Type) (enc : TypeId × Value → H) :
 ReturnsInHanded {} Tryz.checked os 5 .any (fun w args => (Rows.completeGrowsSpec.pre enc Tryz.prog Tryz.f5 [] false w args ∧ laidMetH Tryz.prog Rows.completeGrowsRow.laid w) ∧ sizedMet enc Tryz.prog Tryz.f5 (OpenSpec.ofChange Rows.completeGrowsSpec) false w args)
  (Rows.completeGrowsSpec.post enc Tryz.prog Tryz.f5 false true false false) := by
 refine handed_shaped (C := Tryz.checked) (X := fun w _ => laidMetH Tryz.prog Rows.completeGrowsRow.laid w) (fun _ _ _ hh h => h.of_heap hh) own started (by kernel_rfl) Tryz.func5
  (ChangeSpec.witness_shaped (enc := enc) (C := Tryz.checked) (os := os) (X := fun w _ => laidMetH Tryz.prog Rows.completeGrowsRow.laid w) false (lexW os) #[.string ⟨#[]⟩, .slice none 0 0, .int .u8 0] 8 (lexW_os os)
   (World.shaped_of_ZipB (by kernel_rfl) (by kernel_rfl)) (by kernel_rfl) (by kernel_rfl) (by kernel_rfl) (lex_met os _)) ?_
 intro W base args ds gs before hval0 hW hL hS
 have hval : ∀ (j : Nat) t v, Tryz.f5.params[j]? = some t → args[j]? = some v → Value.okWide Tryz.prog W .any base t v := hval0
 have hW' : DataW.Whole enc Tryz.prog Tryz.f5.params.toList Rows.completeGrowsSpec.vars false W args.toList ds gs before := hW
 obtain ⟨p, q, hA0, hV, rfl, _, _⟩ := hW
 have hA : DataW.TrodAll enc Tryz.prog W 0 (fun _ => true) true Tryz.f5.params.toList args.toList ds p := hA0
 rw [Tryz.params5] at hA hval
 have hG := lex_glob hL hS
 obtain ⟨v0, v1, v2, d0, d1, d2, p0, p1, p2, rfl, rfl, rfl, h0, h1, h2⟩ := trodAll_three hA
 obtain ⟨l0, rfl, _, _, hl0⟩ := open_string Tryz.underlying9 (hval 0 9 v0 rfl rfl) h0
 obtain ⟨l1, hl1, _⟩ := read_strings Tryz.underlying22 Tryz.underlying9 (show Tryz.prog.cellsOf 9 = 1 by kernel_rfl) (hval 1 22 v1 rfl rfl) h1
 obtain ⟨l2, rfl, _, _, hw2⟩ := open_int Tryz.underlying5 (hval 2 5 v2 rfl rfl) h2
 have hl2 : 0 ≤ l2 ∧ l2 ≤ 255 := by simpa [Lit.wf, IntKind.min, IntKind.max, IntKind.signed, IntKind.bits] using hw2
 obtain ⟨n2, rfl⟩ : ∃ n : Nat, l2 = n := ⟨l2.toNat, by omega⟩
 exact law_calls (P := Tryz.prog) (fn := Tryz.f5) (bt := 4) laidOut (by rw [Tryz.params5]; kernel_rfl)
  rfl Tryz.underlying4 rfl ⟨rfl, rfl, rfl⟩ hW' (by have k := completeGrows_calls (com_glob hL hS) l0.data.toList (eby_of hl1) n2 (by omega); rwa [bs_back] at k)

theorem completeGrows_holds : Rows.CompleteGrowsSaid :=
 OpenClaim.holds_of_wide 5 Tryz.f5 rfl rfl rfl rfl rfl rfl rfl ⟨rfl, rfl, rfl, rfl, rfl⟩ rfl rfl rfl rfl rfl (by kernel_rfl) Tryz.func5 (by kernel_rfl)
  (of_decide_eq_true (by kernel_rfl)) (by unfold Func.isWrapper; first | (rw [if_pos (by decide +kernel)]; kernel_rfl) | (rw [if_neg (by decide +kernel)]; exact ⟨rfl, rfl⟩))
  (fun os started H enc _ => completeGrows_lifted os started H enc)

#print axioms completeGrows_holds
end Go.Proofs.YtfegacfjgjaghaaGreatDoor
