/- RelexFull: the row. -/
import Derived.Test.YtlkmlfofhbekoaaDoorQy
import Derived.Test.YtlkmlfofhbekoaaDoorQx
import Derived.Test.YtlkmlfofhbekoaaDoorQq
import Derived.Test.YtlkmlfofhbekoaaDoorQi
import Derived.Deep.Fields
namespace Go.Proofs.YtlkmlfofhbekoaaDoor
open Go Go.Lw Go.ChangeShapes Go.WideShapes Go.ChangeAt Go.RowKit Go.ChangeMaps
set_option maxRecDepth 100000

theorem relexFull_lifted (os : Os) (started : os.Started) (H : Type) (enc : TypeId × Value → H) :
 ReturnsInHanded {} Tryd.checked os 3 .any (fun w args => (Rows.relexFullSpec.pre enc Tryd.prog Tryd.f3 [] false w args ∧ laidMetH Tryd.prog Rows.relexFullRow.laid w) ∧ sizedMet enc Tryd.prog Tryd.f3 (OpenSpec.ofChange Rows.relexFullSpec) false w args)
  (Rows.relexFullSpec.post enc Tryd.prog Tryd.f3 false true false false) := by
 refine handed_shaped (C := Tryd.checked) (X := fun w _ => laidMetH Tryd.prog Rows.relexFullRow.laid w) (fun _ _ _ hh h => h.of_heap hh) own started (by kernel_rfl) Tryd.func3
  (ChangeSpec.witness_shaped (enc := enc) (C := Tryd.checked) (os := os) (X := fun w _ => laidMetH Tryd.prog Rows.relexFullRow.laid w) false (lexW os) #[.int .u8 0, .int .u8 0, .int .u8 0] 8 (lexW_os os)
   (World.shaped_of_ZipB (by kernel_rfl) (by kernel_rfl)) (by kernel_rfl) (by kernel_rfl) (by kernel_rfl) (lex_met os _)) ?_
 intro W base args ds gs before hval0 hW hL hS
 have hval : ∀ (j : Nat) t v, Tryd.f3.params[j]? = some t → args[j]? = some v → Value.okWide Tryd.prog W .any base t v := hval0
 have hW' : DataW.Whole enc Tryd.prog Tryd.f3.params.toList Rows.relexFullSpec.vars false W args.toList ds gs before := hW
 obtain ⟨p, q, hA0, hV, rfl, _, _⟩ := hW
 have hA : DataW.TrodAll enc Tryd.prog W 0 (fun _ => true) true Tryd.f3.params.toList args.toList ds p := hA0
 rw [Tryd.params3] at hA hval
 have hG := lex_glob hL hS
 obtain ⟨v0, v1, v2, d0, d1, d2, p0, p1, p2, rfl, rfl, rfl, h0, h1, h2⟩ := trodAll_three hA
 obtain ⟨l0, rfl, _, _, hw0⟩ := open_int Tryd.underlying5 (hval 0 5 v0 rfl rfl) h0
 have hl0 : 0 ≤ l0 ∧ l0 ≤ 255 := by simpa [Lit.wf, IntKind.min, IntKind.max, IntKind.signed, IntKind.bits] using hw0
 obtain ⟨n0, rfl⟩ : ∃ n : Nat, l0 = n := ⟨l0.toNat, by omega⟩
 obtain ⟨l1, rfl, _, _, hw1⟩ := open_int Tryd.underlying5 (hval 1 5 v1 rfl rfl) h1
 have hl1 : 0 ≤ l1 ∧ l1 ≤ 255 := by simpa [Lit.wf, IntKind.min, IntKind.max, IntKind.signed, IntKind.bits] using hw1
 obtain ⟨n1, rfl⟩ : ∃ n : Nat, l1 = n := ⟨l1.toNat, by omega⟩
 obtain ⟨l2, rfl, _, _, hw2⟩ := open_int Tryd.underlying5 (hval 2 5 v2 rfl rfl) h2
 have hl2 : 0 ≤ l2 ∧ l2 ≤ 255 := by simpa [Lit.wf, IntKind.min, IntKind.max, IntKind.signed, IntKind.bits] using hw2
 obtain ⟨n2, rfl⟩ : ∃ n : Nat, l2 = n := ⟨l2.toNat, by omega⟩
 exact law_calls (P := Tryd.prog) (fn := Tryd.f3) (bt := 4) laidOut (by rw [Tryd.params3]; kernel_rfl)
  rfl Tryd.underlying4 rfl ⟨rfl, rfl, rfl⟩ hW' (relexFull_calls hG n0 n1 n2 (by omega) (by omega) (by omega))

theorem relexFull_holds : Rows.RelexFullSaid :=
 OpenClaim.holds_of_wide 3 Tryd.f3 rfl rfl rfl rfl rfl rfl rfl ⟨rfl, rfl, rfl, rfl, rfl⟩ rfl rfl rfl rfl rfl (by kernel_rfl) Tryd.func3 (by kernel_rfl)
  (of_decide_eq_true (by kernel_rfl)) (by unfold Func.isWrapper; first | (rw [if_pos (by decide +kernel)]; kernel_rfl) | (rw [if_neg (by decide +kernel)]; exact ⟨rfl, rfl⟩))
  (fun os started H enc _ => relexFull_lifted os started H enc)

#print axioms relexFull_holds
end Go.Proofs.YtlkmlfofhbekoaaDoor
