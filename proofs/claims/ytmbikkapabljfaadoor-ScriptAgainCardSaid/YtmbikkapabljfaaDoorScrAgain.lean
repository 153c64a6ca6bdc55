/- ScriptAgain: what the row lists, opened; the row; the card. -/
import Derived.Test.YtmbikkapabljfaaDoorScr19
import Derived.Test.YtmbikkapabljfaaDoorLwDoor
import Derived.LaidLaws
import Derived.Lib.LaidTab
import Derived.LaidMore
import Derived.Stop.Joined
import Derived.ChangeMaps5
import Derived.Lay
namespace Go.Proofs.YtmbikkapabljfaaDoor
open Go Go.Lw Go.ChangeShapes Go.WideShapes Go.ChangeAt Go.RowKit
set_option maxRecDepth 20000

theorem own : ownKnob Tryd.prog.godebug = none := by kernel_rfl
theorem laidOut : laidOutB Tryd.prog = true := by kernel_rfl

theorem glob_of {W : World} (hL : laidMetH Tryd.prog Rows.scriptAgainRow.laid W) (hS : W.ShapedOpen Tryd.prog) : Glob W.heap := by
  rw [MakeChecks.laidMetH_plain _ _ _ (by kernel_rfl)] at hL
  obtain ⟨ps, ⟨g0, t0, cs0, f0, p0, q0, hg0, ht0, hv0, hd0, ⟨g1, t1, cs1, f1, p1, q1, hg1, ht1, hv1, hd1, ⟨g2, t2, cs2, f2, p2, q2, hg2, ht2, hv2, hd2, ⟨g3, t3, cs3, f3, p3, q3, hg3, ht3, hv3, hd3, ⟨g4, t4, cs4, f4, p4, q4, hg4, ht4, hv4, hd4, ⟨g5, t5, cs5, f5, p5, q5, hg5, ht5, hv5, hd5, hrest⟩, _⟩, _⟩, _⟩, _⟩, _⟩, _⟩ := hL
  have gT : Tryd.prog.globalNamed "internal/strconv.uint64pow10" = some 4 := by kernel_rfl
  have gS : Tryd.prog.globalNamed "strconv.ErrSyntax" = some 5 := by kernel_rfl
  have gR : Tryd.prog.globalNamed "strconv.ErrRange" = some 6 := by kernel_rfl
  have tT : (Tryd.prog.globals[4]?).map (·.type) = some 187 := by kernel_rfl
  have tS : (Tryd.prog.globals[5]?).map (·.type) = some 68 := by kernel_rfl
  have tR : (Tryd.prog.globals[6]?).map (·.type) = some 68 := by kernel_rfl
  obtain rfl := Option.some.inj (gT.symm.trans hg2)
  obtain rfl := Option.some.inj (gR.symm.trans hg4)
  obtain rfl := Option.some.inj (gS.symm.trans hg5)
  obtain rfl := Option.some.inj (tT.symm.trans ht2)
  obtain rfl := Option.some.inj (tR.symm.trans ht4)
  obtain rfl := Option.some.inj (tS.symm.trans ht5)
  refine ⟨?_, ?_, ?_, ?_⟩
  · exact int_of_shape (t := 3) (k := .i64) (zero := #[.int .i64 0]) hS (by decide +kernel) (by kernel_rfl) rfl (by kernel_rfl) (by kernel_rfl) Tryd.underlying3
  · obtain ⟨f1, u, v, e1, _, _⟩ := iface_of_trod Tryd.underlying68 hd5
    have hc := World.var?_cell hg5 hv5 0
    obtain ⟨l5⟩ := cs5
    simp only at e1
    subst e1
    exact ⟨_, hc, .inr ⟨u, v, rfl⟩⟩
  · obtain ⟨f1, u, v, e1, _, _⟩ := iface_of_trod Tryd.underlying68 hd4
    have hc := World.var?_cell hg4 hv4 0
    obtain ⟨l4⟩ := cs4
    simp only at e1
    subst e1
    exact ⟨_, hc, .inr ⟨u, v, rfl⟩⟩
  · rw [← varAt_world, hv2]
    have hd2' : DataW.trod _ Tryd.prog W 0 _ false f2 187 cs2.toList = some (Lib.tabData .u64 Lib.pow10Tab, p2) := hd2
    rw [← Lib.cells_of_tab Tryd.underlying187 Tryd.underlying100 (by kernel_rfl) (by kernel_rfl) hd2']

end Go.Proofs.YtmbikkapabljfaaDoor
namespace Go.Proofs.YtmbikkapabljfaaDoor
open Go Go.Lw Go.ChangeShapes Go.WideShapes Go.ChangeAt Go.RowKit Go.ChangeMaps
set_option maxRecDepth 100000

theorem again_lifted (os : Os) (started : os.Started) (H : Type) (enc : TypeId × Value → H) :
    ReturnsInHanded {} Tryd.checked os 5 .any (fun w args => (Rows.scriptAgainSpec.pre enc Tryd.prog Tryd.f5 [] false w args ∧ laidMetH Tryd.prog Rows.scriptAgainRow.laid w) ∧ sizedMet enc Tryd.prog Tryd.f5 (OpenSpec.ofChange Rows.scriptAgainSpec) false w args)
      (Rows.scriptAgainSpec.post enc Tryd.prog Tryd.f5 false true false false) := by
  refine handed_shaped (C := Tryd.checked) (X := fun w _ => laidMetH Tryd.prog Rows.scriptAgainRow.laid w) (fun _ _ _ hh h => h.of_heap hh) own started (by kernel_rfl) Tryd.func5
    (ChangeSpec.witness_shaped (enc := enc) (C := Tryd.checked) (os := os) (X := fun w _ => laidMetH Tryd.prog Rows.scriptAgainRow.laid w) false (World.laidAll Tryd.prog os Rows.scriptAgainRow.laid) #[.string ⟨#[]⟩] 8 (World.laidAll_os _ _ _)
      (World.shaped_of_ZipB (by kernel_rfl) (by kernel_rfl)) (by kernel_rfl) (by kernel_rfl) (by kernel_rfl)
      (by rw [MakeChecks.laidMetH_plain _ _ _ (by kernel_rfl)]; exact laidMet_laidAll _ (by kernel_rfl) (by kernel_rfl))) ?_
  intro W base args ds gs before hval0 hW hL hS
  have hval : ∀ (j : Nat) t v, Tryd.f5.params[j]? = some t → args[j]? = some v → Value.okWide Tryd.prog W .any base t v := hval0
  have hW' : DataW.Whole enc Tryd.prog Tryd.f5.params.toList Rows.scriptAgainSpec.vars false W args.toList ds gs before := hW
  obtain ⟨p, q, hA0, hV, rfl, _, _⟩ := hW
  have hA : DataW.TrodAll enc Tryd.prog W 0 (fun _ => true) true Tryd.f5.params.toList args.toList ds p := hA0
  rw [Tryd.params5] at hA hval
  obtain ⟨v0, d0, rfl, rfl, h0⟩ := trodAll_one hA
  obtain ⟨l0, rfl, _, _, hl0⟩ := open_string Tryd.underlying9 (hval 0 9 v0 rfl rfl) h0
  exact law_calls (P := Tryd.prog) (fn := Tryd.f5) (bt := 4) laidOut (by rw [Tryd.params5]; kernel_rfl)
    rfl Tryd.underlying4 rfl ⟨rfl, rfl, rfl⟩ hW' (again_calls (glob_of hL hS) l0)

theorem again_holds : Rows.ScriptAgainSaid :=
  OpenClaim.holds_of_wide 5 Tryd.f5 rfl rfl rfl rfl rfl rfl rfl ⟨rfl, rfl, rfl, rfl, rfl⟩ rfl rfl rfl rfl rfl (by kernel_rfl) Tryd.func5 (by kernel_rfl)
    (of_decide_eq_true (by kernel_rfl)) (by unfold Func.isWrapper; first | (rw [if_pos (by decide +kernel)]; kernel_rfl) | (rw [if_neg (by decide +kernel)]; exact ⟨rfl, rfl⟩))
    (fun os started H enc _ => again_lifted os started H enc)

#print axioms again_holds
end Go.Proofs.YtmbikkapabljfaaDoor
