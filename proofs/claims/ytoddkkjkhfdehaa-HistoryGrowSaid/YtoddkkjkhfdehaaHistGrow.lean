/- HistoryGrowSaid answers true, whatever it is told. -/
import Derived.Test.YtoddkkjkhfdehaaHist7
import Derived.Test.YtoddkkjkhfdehaaLwLaw
import Derived.Carry
import Derived.ChangeMaps5
namespace Go.Proofs.Ytoddkkjkhfdehaa
open Go Go.Lw Go.ChangeShapes Go.WideShapes Go.ChangeAt Go.RowKit Go.ChangeMaps

theorem grow_holds_own : ownKnob Try.prog.godebug = none := by kernel_rfl
theorem grow_holds_laidOut : laidOutB Try.prog = true := by kernel_rfl

set_option maxRecDepth 100000 in
theorem grow_holds_lifted (os : Os) (started : os.Started) (H : Type) (enc : TypeId × Value → H) :
    ReturnsInHanded {} Try.checked os 4 .any (Rows.historyGrowSpec.pre6 enc Try.prog Try.f4 Rows.historyGrowRow.domain false) (Rows.historyGrowSpec.post enc Try.prog Try.f4 false true false false) := by
  refine returnsInHanded_of_change (C := Try.checked) grow_holds_own started (by kernel_rfl) Try.func4
    (ChangeSpec.witness6 (enc := enc) (C := Try.checked) false ⟨#[], #[.slice none 0 0], []⟩ 8 (by kernel_rfl) (by kernel_rfl) (by kernel_rfl) (by kernel_rfl)) ?_
  intro W base args ds gs before hval0 hW _ _
  have hval : ∀ (j : Nat) t v, Try.f4.params[j]? = some t → args[j]? = some v → Value.okWide Try.prog W .any base t v := hval0
  have hW' : DataW.Whole enc Try.prog Try.f4.params.toList Rows.historyGrowSpec.vars false W args.toList ds gs before := hW
  obtain ⟨p, q, hA0, hV, rfl, _, _⟩ := hW
  have hA : DataW.TrodAll enc Try.prog W 0 (fun _ => true) true Try.f4.params.toList args.toList ds p := hA0
  rw [Try.params4] at hA hval
  obtain ⟨v0, d0, rfl, rfl, h0⟩ := trodAll_one hA
  obtain ⟨l0, hl0⟩ := read_bytes Try.underlying30 Try.underlying5 (show Try.prog.cellsOf 5 = 1 by kernel_rfl) (hval 0 30 v0 rfl rfl) h0
  exact law_calls (P := Try.prog) (fn := Try.f4) (bt := 4) grow_holds_laidOut (by rw [Try.params4]; kernel_rfl)
    rfl Try.underlying4 rfl ⟨rfl, rfl, rfl⟩ hW' (histGrow_calls hl0)

theorem grow_holds : Rows.HistoryGrowSaid :=
  OpenClaim.holds_of_wide 4 Try.f4 rfl rfl rfl rfl rfl rfl rfl ⟨rfl, rfl, rfl, rfl, rfl⟩ rfl rfl rfl rfl rfl (by kernel_rfl) Try.func4 (by kernel_rfl)
    (of_decide_eq_true (by kernel_rfl)) (by unfold Func.isWrapper; first | (rw [if_pos (by decide +kernel)]; kernel_rfl) | (rw [if_neg (by decide +kernel)]; exact ⟨rfl, rfl⟩))
    (fun os started H enc _ => grow_holds_lifted os started H enc)

#print axioms grow_holds
end Go.Proofs.Ytoddkkjkhfdehaa
