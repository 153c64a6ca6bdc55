/- MacrosFull: the row. -/
import Derived.Test.YteicdopggikieaaDoorQs
import Derived.Test.YteicdopggikieaaDoorQp
import Derived.Test.YteicdopggikieaaDoorQi
import Derived.Deep.Fields
namespace Go.Proofs.YteicdopggikieaaDoor
open Go Go.Lw Go.ChangeShapes Go.WideShapes Go.ChangeAt Go.RowKit Go.ChangeMaps
set_option maxRecDepth 100000

theorem macrosFull_lifted (os : Os) (started : os.Started) (H : Type) (enc : TypeId × Value → H) :
 ReturnsInHanded {} Tryd.checked os 6 .any (fun w args => (Rows.macrosFullSpec.pre enc Tryd.prog Tryd.f6 [] false w args ∧ laidMetH Tryd.prog Rows.macrosFullRow.laid w) ∧ sizedMet enc Tryd.prog Tryd.f6 (OpenSpec.ofChange Rows.macrosFullSpec) false w args)
  (Rows.macrosFullSpec.post enc Tryd.prog Tryd.f6 false true false false) := by
 refine handed_shaped (C := Tryd.checked) (X := fun w _ => laidMetH Tryd.prog Rows.macrosFullRow.laid w) (fun _ _ _ hh h => h.of_heap hh) own started (by kernel_rfl) Tryd.func6
  (ChangeSpec.witness_shaped (enc := enc) (C := Tryd.checked) (os := os) (X := fun w _ => laidMetH Tryd.prog Rows.macrosFullRow.laid w) false (lexW os) #[.int .u16 0] 8 (lexW_os os)
   (World.shaped_of_ZipB (by kernel_rfl) (by kernel_rfl)) (by kernel_rfl) (by kernel_rfl) (by kernel_rfl) (lex_met os _)) ?_
 intro W base args ds gs before hval0 hW hL hS
 have hval : ∀ (j : Nat) t v, Tryd.f6.params[j]? = some t → args[j]? = some v → Value.okWide Tryd.prog W .any base t v := hval0
 have hW' : DataW.Whole enc Tryd.prog Tryd.f6.params.toList Rows.macrosFullSpec.vars false W args.toList ds gs before := hW
 obtain ⟨p, q, hA0, hV, rfl, _, _⟩ := hW
 have hA : DataW.TrodAll enc Tryd.prog W 0 (fun _ => true) true Tryd.f6.params.toList args.toList ds p := hA0
 rw [Tryd.params6] at hA hval
 have hG := lex_glob hL hS
 obtain ⟨v0, d0, rfl, rfl, h0⟩ := trodAll_one hA
 obtain ⟨l0, rfl, _, _, hw0⟩ := open_int Tryd.underlying38 (hval 0 38 v0 rfl rfl) h0
 have hl0 : 0 ≤ l0 ∧ l0 ≤ 65535 := by simpa [Lit.wf, IntKind.min, IntKind.max, IntKind.signed, IntKind.bits] using hw0
 obtain ⟨n0, rfl⟩ : ∃ n : Nat, l0 = n := ⟨l0.toNat, by omega⟩
 exact law_calls (P := Tryd.prog) (fn := Tryd.f6) (bt := 4) laidOut (by rw [Tryd.params6]; kernel_rfl)
  rfl Tryd.underlying4 rfl ⟨rfl, rfl, rfl⟩ hW' (macrosFull_calls hG n0 (by omega))

theorem macrosFull_holds : Rows.MacrosFullSaid :=
 OpenClaim.holds_of_wide 6 Tryd.f6 rfl rfl rfl rfl rfl rfl rfl ⟨rfl, rfl, rfl, rfl, rfl⟩ rfl rfl rfl rfl rfl (by kernel_rfl) Tryd.func6 (by kernel_rfl)
  (of_decide_eq_true (by kernel_rfl)) (by unfold Func.isWrapper; first | (rw [if_pos (by decide +kernel)]; kernel_rfl) | (rw [if_neg (by decide +kernel)]; exact ⟨rfl, rfl⟩))
  (fun os started H enc _ => macrosFull_lifted os started H enc)

#print axioms macrosFull_holds
end Go.Proofs.YteicdopggikieaaDoor
