/- DfasSame: the row. -/
import Derived.Test.YtlegopbpofofgaaDoorQv
import Derived.Test.YtlegopbpofofgaaDoorQt
import Derived.Test.YtlegopbpofofgaaDoorQu
namespace Go.Proofs.YtlegopbpofofgaaDoor
open Go Go.Lw Go.ChangeShapes Go.WideShapes Go.ChangeAt Go.RowKit Go.ChangeMaps
set_option maxRecDepth 100000

theorem dfasSame_glob {W : World} (hL : laidMetH Tryd.prog Rows.dfasSameRow.laid W) : Sg W.heap W.heap.size ∧ Tens W.heap := by
  rw [MakeChecks.laidMetH_plain _ _ _ (by kernel_rfl)] at hL
  obtain ⟨ps, ⟨g0, t0, cs0, f0, p0, q0, hg0, ht0, hv0, hd0, ⟨g1, t1, cs1, f1, p1, q1, hg1, ht1, hv1, hd1, ⟨g2, t2, cs2, f2, p2, q2, hg2, ht2, hv2, hd2, ⟨g3, t3, cs3, f3, p3, q3, hg3, ht3, hv3, hd3, _, _⟩, _⟩, _⟩, _⟩, _, _⟩ := hL
  exact ⟨signs_of hg3 ht3 hv3 hd3, tens_of hg2 ht2 hv2 hd2⟩

theorem dfasSame_met (os : Os) (args : Array Value) : laidMetH Tryd.prog Rows.dfasSameRow.laid ((World.doorLaid Tryd.prog 4000 os).forCall (fun _ _ => 0) ⟨#[], args, []⟩).memory :=
  laidMetH_of_parts3 (fuel := 8) (laidMet_of_run' 8 (by kernel_rfl) (by kernel_rfl)) (by kernel_rfl) (by kernel_rfl)

theorem dfasSame_lifted (os : Os) (started : os.Started) (H : Type) (enc : TypeId × Value → H) :
    ReturnsInHanded {} Tryd.checked os 13 .any (fun w args => (Rows.dfasSameSpec.pre enc Tryd.prog Tryd.f13 [] false w args ∧ laidMetH Tryd.prog Rows.dfasSameRow.laid w) ∧ sizedMet enc Tryd.prog Tryd.f13 (OpenSpec.ofChange Rows.dfasSameSpec) false w args)
      (Rows.dfasSameSpec.post enc Tryd.prog Tryd.f13 false true false false) := by
  refine handed_shaped (C := Tryd.checked) (X := fun w _ => laidMetH Tryd.prog Rows.dfasSameRow.laid w) (fun _ _ _ hh h => h.of_heap hh) own started (by kernel_rfl) Tryd.func13
    (ChangeSpec.witness_shaped (enc := enc) (C := Tryd.checked) (os := os) (X := fun w _ => laidMetH Tryd.prog Rows.dfasSameRow.laid w) false (World.doorLaid Tryd.prog 4000 os) #[.string ⟨#[]⟩] 8 rfl
      (World.shaped_of_RefB (by kernel_rfl) (by kernel_rfl)) (by kernel_rfl) (by kernel_rfl) (by kernel_rfl) (dfasSame_met os _)) ?_
  intro W base args ds gs before hval0 hW hL hS
  have hval : ∀ (j : Nat) t v, Tryd.f13.params[j]? = some t → args[j]? = some v → Value.okWide Tryd.prog W .any base t v := hval0
  have hW' : DataW.Whole enc Tryd.prog Tryd.f13.params.toList Rows.dfasSameSpec.vars false W args.toList ds gs before := hW
  obtain ⟨p, q, hA0, hV, rfl, _, _⟩ := hW
  have hA : DataW.TrodAll enc Tryd.prog W 0 (fun _ => true) true Tryd.f13.params.toList args.toList ds p := hA0
  rw [Tryd.params13] at hA hval
  have hG := dfasSame_glob hL
  obtain ⟨v0, d0, rfl, rfl, h0⟩ := trodAll_one hA
  obtain ⟨l0, rfl, _, _, hl0⟩ := open_string Tryd.underlying9 (hval 0 9 v0 rfl rfl) h0
  exact law_calls (P := Tryd.prog) (fn := Tryd.f13) (bt := 4) laidOut (by rw [Tryd.params13]; kernel_rfl)
    rfl Tryd.underlying4 rfl ⟨rfl, rfl, rfl⟩ hW' (by have k := dfasSame_calls (s := l0.data.toList) hG.1 hG.2; rwa [bs_back] at k)

theorem dfasSame_holds : Rows.DfasSameSaid :=
  OpenClaim.holds_of_wide 13 Tryd.f13 rfl rfl rfl rfl rfl rfl rfl ⟨rfl, rfl, rfl, rfl, rfl⟩ rfl rfl rfl rfl rfl (by kernel_rfl) Tryd.func13 (by kernel_rfl)
    (of_decide_eq_true (by kernel_rfl)) (by unfold Func.isWrapper; first | (rw [if_pos (by decide +kernel)]; kernel_rfl) | (rw [if_neg (by decide +kernel)]; exact ⟨rfl, rfl⟩))
    (fun os started H enc _ => dfasSame_lifted os started H enc)

#print axioms dfasSame_holds
end Go.Proofs.YtlegopbpofofgaaDoor
