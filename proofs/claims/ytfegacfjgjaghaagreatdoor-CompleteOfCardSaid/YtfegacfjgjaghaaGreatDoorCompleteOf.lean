/- CompleteOf: the row. -/
import Derived.Test.YtfegacfjgjaghaaGreatDoorQzc
import Derived.Test.YtfegacfjgjaghaaGreatDoorQo
import Derived.Test.YtfegacfjgjaghaaGreatDoorQg
import Derived.Deep.Fields
namespace Go.Proofs.YtfegacfjgjaghaaGreatDoor
open Go Go.Lw Go.ChangeShapes Go.WideShapes Go.ChangeAt Go.RowKit Go.ChangeMaps
set_option maxRecDepth 100000

theorem completeOf_lifted (os : Os) (started : os.Started) (H : Type) (enc : TypeId × Value → H) :
 ReturnsInHanded {} Tryz.checked os 3 .any (fun w args => (Rows.completeOfSpec.pre enc Tryz.prog Tryz.f3 [] false w args ∧ laidMetH Tryz.prog Rows.completeOfRow.laid w) ∧ sizedMet enc Tryz.prog Tryz.f3 (OpenSpec.ofChange Rows.completeOfSpec) false w args)
  (Rows.completeOfSpec.post enc Tryz.prog Tryz.f3 false true false false) := by
 refine handed_shaped (C := Tryz.checked) (X := fun w _ => laidMetH Tryz.prog Rows.completeOfRow.laid w) (fun _ _ _ hh h => h.of_heap hh) own started (by kernel_rfl) Tryz.func3
  (ChangeSpec.witness_shaped (enc := enc) (C := Tryz.checked) (os := os) (X := fun w _ => laidMetH Tryz.prog Rows.completeOfRow.laid w) false (lexW os) #[.string ⟨#[]⟩, .slice none 0 0] 8 (lexW_os os)
   (World.shaped_of_ZipB (by kernel_rfl) (by kernel_rfl)) (by kernel_rfl) (by kernel_rfl) (by kernel_rfl) (lex_met os _)) ?_
 intro W base args ds gs before hval0 hW hL hS
 have hval : ∀ (j : Nat) t v, Tryz.f3.params[j]? = some t → args[j]? = some v → Value.okWide Tryz.prog W .any base t v := hval0
 have hW' : DataW.Whole enc Tryz.prog Tryz.f3.params.toList Rows.completeOfSpec.vars false W args.toList ds gs before := hW
 obtain ⟨p, q, hA0, hV, rfl, _, _⟩ := hW
 have hA : DataW.TrodAll enc Tryz.prog W 0 (fun _ => true) true Tryz.f3.params.toList args.toList ds p := hA0
 rw [Tryz.params3] at hA hval
 have hG := lex_glob hL hS
 obtain ⟨v0, v1, d0, d1, p0, p1, rfl, rfl, rfl, h0, h1⟩ := trodAll_two hA
 obtain ⟨l0, rfl, _, _, hl0⟩ := open_string Tryz.underlying9 (hval 0 9 v0 rfl rfl) h0
 obtain ⟨l1, hl1, _⟩ := read_strings Tryz.underlying22 Tryz.underlying9 (show Tryz.prog.cellsOf 9 = 1 by kernel_rfl) (hval 1 22 v1 rfl rfl) h1
 exact law_calls (P := Tryz.prog) (fn := Tryz.f3) (bt := 4) laidOut (by rw [Tryz.params3]; kernel_rfl)
  rfl Tryz.underlying4 rfl ⟨rfl, rfl, rfl⟩ hW' (by have k := completeOf_calls (com_glob hL hS) l0.data.toList (eby_of hl1); rwa [bs_back] at k)

theorem completeOf_holds : Rows.CompleteOfSaid :=
 OpenClaim.holds_of_wide 3 Tryz.f3 rfl rfl rfl rfl rfl rfl rfl ⟨rfl, rfl, rfl, rfl, rfl⟩ rfl rfl rfl rfl rfl (by kernel_rfl) Tryz.func3 (by kernel_rfl)
  (of_decide_eq_true (by kernel_rfl)) (by unfold Func.isWrapper; first | (rw [if_pos (by decide +kernel)]; kernel_rfl) | (rw [if_neg (by decide +kernel)]; exact ⟨rfl, rfl⟩))
  (fun os started H enc _ => completeOf_lifted os started H enc)

#print axioms completeOf_holds
end Go.Proofs.YtfegacfjgjaghaaGreatDoor
