/- RelexNew: the row. -/
import Derived.Test.YtlkmlfofhbekoaaDoorQy
import Derived.Test.YtlkmlfofhbekoaaDoorQx
import Derived.Test.YtlkmlfofhbekoaaDoorQw
namespace Go.Proofs.YtlkmlfofhbekoaaDoor
open Go Go.Lw Go.ChangeShapes Go.WideShapes Go.ChangeAt Go.RowKit Go.ChangeMaps
set_option maxRecDepth 100000

theorem relexNew_lifted (os : Os) (started : os.Started) (H : Type) (enc : TypeId × Value → H) :
 ReturnsInHanded {} Tryd.checked os 6 .any (fun w args => (Rows.relexNewSpec.pre enc Tryd.prog Tryd.f6 [] false w args ∧ laidMetH Tryd.prog Rows.relexNewRow.laid w) ∧ sizedMet enc Tryd.prog Tryd.f6 (OpenSpec.ofChange Rows.relexNewSpec) false w args)
  (Rows.relexNewSpec.post enc Tryd.prog Tryd.f6 false true false false) := by
 refine handed_shaped (C := Tryd.checked) (X := fun w _ => laidMetH Tryd.prog Rows.relexNewRow.laid w) (fun _ _ _ hh h => h.of_heap hh) own started (by kernel_rfl) Tryd.func6
  (ChangeSpec.witness_shaped (enc := enc) (C := Tryd.checked) (os := os) (X := fun w _ => laidMetH Tryd.prog Rows.relexNewRow.laid w) false (lexW os) #[.string ⟨#[]⟩, .slice none 0 0] 8 (lexW_os os)
   (World.shaped_of_ZipB (by kernel_rfl) (by kernel_rfl)) (by kernel_rfl) (by kernel_rfl) (by kernel_rfl) (lex_met os _)) ?_
 intro W base args ds gs before hval0 hW hL hS
 have hval : ∀ (j : Nat) t v, Tryd.f6.params[j]? = some t → args[j]? = some v → Value.okWide Tryd.prog W .any base t v := hval0
 have hW' : DataW.Whole enc Tryd.prog Tryd.f6.params.toList Rows.relexNewSpec.vars false W args.toList ds gs before := hW
 obtain ⟨p, q, hA0, hV, rfl, _, _⟩ := hW
 have hA : DataW.TrodAll enc Tryd.prog W 0 (fun _ => true) true Tryd.f6.params.toList args.toList ds p := hA0
 rw [Tryd.params6] at hA hval
 have hG := lex_glob hL hS
 obtain ⟨v0, v1, d0, d1, p0, p1, rfl, rfl, rfl, h0, h1⟩ := trodAll_two hA
 obtain ⟨l0, rfl, _, _, hl0⟩ := open_string Tryd.underlying9 (hval 0 9 v0 rfl rfl) h0
 obtain ⟨l1, hl1⟩ := read_acts (hval 1 57 v1 rfl rfl) h1
 exact law_calls (P := Tryd.prog) (fn := Tryd.f6) (bt := 4) laidOut (by rw [Tryd.params6]; kernel_rfl)
  rfl Tryd.underlying4 rfl ⟨rfl, rfl, rfl⟩ hW' (by have k := relexNew_calls hG l0.data.toList hl1; rwa [bs_back] at k)

theorem relexNew_holds : Rows.RelexNewSaid :=
 OpenClaim.holds_of_wide 6 Tryd.f6 rfl rfl rfl rfl rfl rfl rfl ⟨rfl, rfl, rfl, rfl, rfl⟩ rfl rfl rfl rfl rfl (by kernel_rfl) Tryd.func6 (by kernel_rfl)
  (of_decide_eq_true (by kernel_rfl)) (by unfold Func.isWrapper; first | (rw [if_pos (by decide +kernel)]; kernel_rfl) | (rw [if_neg (by decide +kernel)]; exact ⟨rfl, rfl⟩))
  (fun os started H enc _ => relexNew_lifted os started H enc)

#print axioms relexNew_holds
end Go.Proofs.YtlkmlfofhbekoaaDoor
