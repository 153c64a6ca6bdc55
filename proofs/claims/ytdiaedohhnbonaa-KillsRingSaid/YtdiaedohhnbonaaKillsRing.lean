/- KillsRing answers true for every two arguments that can be read, and leaves them as they were. -/
import Derived.Test.YtdiaedohhnbonaaKills4
import Derived.Test.YtdiaedohhnbonaaLwLaw
namespace Go.Proofs.Ytdiaedohhnbonaa
open Go Go.Lw Go.ChangeShapes Go.WideShapes Go.ChangeAt Go.RowKit

theorem own : ownKnob Try.prog.godebug = none := by kernel_rfl
theorem laidOut : laidOutB Try.prog = true := by kernel_rfl
theorem cellsStr : Try.prog.cellsOf 9 = 1 := by kernel_rfl
theorem cellsU8 : Try.prog.cellsOf 5 = 1 := by kernel_rfl

set_option maxRecDepth 100000 in
theorem ring_lifted (os : Os) (started : os.Started) (H : Type) (enc : TypeId × Value → H) :
    ReturnsInHanded {} Try.checked os 3 .any (Rows.killsRingSpec.pre6 enc Try.prog Try.f3 Rows.killsRingRow.domain false) (Rows.killsRingSpec.post enc Try.prog Try.f3 false true false false) := by
  refine returnsInHanded_of_change (C := Try.checked) own started (by kernel_rfl) Try.func3
    (ChangeSpec.witness6 (enc := enc) (C := Try.checked) false ⟨#[], #[.slice none 0 0, .slice none 0 0], []⟩ 8 (by kernel_rfl) (by kernel_rfl) (by kernel_rfl) (by kernel_rfl)) ?_
  intro W base args ds gs before hval0 hW _ _
  have hval : ∀ (j : Nat) t v, Try.f3.params[j]? = some t → args[j]? = some v → Value.okWide Try.prog W .any base t v := hval0
  have hW' : DataW.Whole enc Try.prog Try.f3.params.toList Rows.killsRingSpec.vars false W args.toList ds gs before := hW
  obtain ⟨p, q, hA0, hV, rfl, _, _⟩ := hW
  have hA : DataW.TrodAll enc Try.prog W 0 (fun _ => true) true Try.f3.params.toList args.toList ds p := hA0
  rw [Try.params3] at hA hval
  obtain ⟨v0, v1, d0, d1, p0, p1, rfl, rfl, rfl, h0, h1⟩ := trodAll_two hA
  obtain ⟨l, hl, _⟩ := read_strings Try.underlying22 Try.underlying9 cellsStr (hval 0 22 v0 rfl rfl) h0
  obtain ⟨way, hway⟩ := read_bytes Try.underlying23 Try.underlying5 cellsU8 (hval 1 23 v1 rfl rfl) h1
  exact law_calls (P := Try.prog) (fn := Try.f3) (bt := 4) laidOut (by rw [Try.params3]; kernel_rfl)
    rfl Try.underlying4 rfl ⟨rfl, rfl, rfl⟩ hW' (ring_calls hl hway)

theorem ring_holds : Rows.KillsRingSaid :=
  OpenClaim.holds_of_wide 3 Try.f3 rfl rfl rfl rfl rfl rfl rfl ⟨rfl, rfl, rfl, rfl, rfl⟩ rfl rfl rfl rfl rfl (by kernel_rfl) Try.func3 (by kernel_rfl)
    (of_decide_eq_true (by kernel_rfl)) (by unfold Func.isWrapper; first | (rw [if_pos (by decide +kernel)]; kernel_rfl) | (rw [if_neg (by decide +kernel)]; exact ⟨rfl, rfl⟩))
    (fun os started H enc _ => ring_lifted os started H enc)

#print axioms ring_holds
end Go.Proofs.Ytdiaedohhnbonaa
