/- MacrosKeep: the row. -/
import Derived.Test.YteicdopggikieaaDoorQs
import Derived.Test.YteicdopggikieaaDoorQr
namespace Go.Proofs.YteicdopggikieaaDoor
open Go Go.Lw Go.ChangeShapes Go.WideShapes Go.ChangeAt Go.RowKit Go.ChangeMaps
set_option maxRecDepth 100000

theorem macrosKeep_lifted (os : Os) (started : os.Started) (H : Type) (enc : TypeId × Value → H) :
 ReturnsInHanded {} Tryd.checked os 7 .any (fun w args => (Rows.macrosKeepSpec.pre enc Tryd.prog Tryd.f7 [] false w args ∧ laidMetH Tryd.prog Rows.macrosKeepRow.laid w) ∧ sizedMet enc Tryd.prog Tryd.f7 (OpenSpec.ofChange Rows.macrosKeepSpec) false w args)
  (Rows.macrosKeepSpec.post enc Tryd.prog Tryd.f7 false true false false) := by
 refine handed_shaped (C := Tryd.checked) (X := fun w _ => laidMetH Tryd.prog Rows.macrosKeepRow.laid w) (fun _ _ _ hh h => h.of_heap hh) own started (by kernel_rfl) Tryd.func7
  (ChangeSpec.witness_shaped (enc := enc) (C := Tryd.checked) (os := os) (X := fun w _ => laidMetH Tryd.prog Rows.macrosKeepRow.laid w) false (lexW os) #[.slice none 0 0] 8 (lexW_os os)
   (World.shaped_of_ZipB (by kernel_rfl) (by kernel_rfl)) (by kernel_rfl) (by kernel_rfl) (by kernel_rfl) (lex_met os _)) ?_
 intro W base args ds gs before hval0 hW hL hS
 have hval : ∀ (j : Nat) t v, Tryd.f7.params[j]? = some t → args[j]? = some v → Value.okWide Tryd.prog W .any base t v := hval0
 have hW' : DataW.Whole enc Tryd.prog Tryd.f7.params.toList Rows.macrosKeepSpec.vars false W args.toList ds gs before := hW
 obtain ⟨p, q, hA0, hV, rfl, _, _⟩ := hW
 have hA : DataW.TrodAll enc Tryd.prog W 0 (fun _ => true) true Tryd.f7.params.toList args.toList ds p := hA0
 rw [Tryd.params7] at hA hval
 have hG := lex_glob hL hS
 obtain ⟨v0, d0, rfl, rfl, h0⟩ := trodAll_one hA
 obtain ⟨l0, hl0⟩ := read_acts (hval 0 48 v0 rfl rfl) h0
 exact law_calls (P := Tryd.prog) (fn := Tryd.f7) (bt := 4) laidOut (by rw [Tryd.params7]; kernel_rfl)
  rfl Tryd.underlying4 rfl ⟨rfl, rfl, rfl⟩ hW' (macrosKeep_calls hG hl0)

theorem macrosKeep_holds : Rows.MacrosKeepSaid :=
 OpenClaim.holds_of_wide 7 Tryd.f7 rfl rfl rfl rfl rfl rfl rfl ⟨rfl, rfl, rfl, rfl, rfl⟩ rfl rfl rfl rfl rfl (by kernel_rfl) Tryd.func7 (by kernel_rfl)
  (of_decide_eq_true (by kernel_rfl)) (by unfold Func.isWrapper; first | (rw [if_pos (by decide +kernel)]; kernel_rfl) | (rw [if_neg (by decide +kernel)]; exact ⟨rfl, rfl⟩))
  (fun os started H enc _ => macrosKeep_lifted os started H enc)

#print axioms macrosKeep_holds
end Go.Proofs.YteicdopggikieaaDoor
