/- CastsTell: the row. -/
import Derived.Test.YtckomlgchbkekaaGreatDoorQzh
import Derived.Test.YtckomlgchbkekaaGreatDoorQzg
import Derived.Test.YtckomlgchbkekaaGreatDoorQq
namespace Go.Proofs.YtckomlgchbkekaaGreatDoor
open Go.Proofs.Tryz
open Go Go.Lw Go.ChangeShapes Go.WideShapes Go.ChangeAt Go.RowKit Go.ChangeMaps
set_option maxRecDepth 100000

theorem o9 (os : Os) (started : os.Started) (H : Type) (enc : TypeId × Value → H) :
 ReturnsInHanded {} Tryz.checked os 3 .any (fun w args => (Rows.castsTellSpec.pre enc Tryz.prog Tryz.f3 [] false w args ∧ laidMetH Tryz.prog Rows.castsTellRow.laid w) ∧ sizedMet enc Tryz.prog Tryz.f3 (OpenSpec.ofChange Rows.castsTellSpec) false w args)
  (Rows.castsTellSpec.post enc Tryz.prog Tryz.f3 false true false false) := by
 refine yo (C := Tryz.checked) (X := fun w _ => laidMetH Tryz.prog Rows.castsTellRow.laid w) (fun _ _ _ hh h => h.of_heap hh) own started (by kernel_rfl) func3
  (ChangeSpec.witness_shaped (enc := enc) (C := Tryz.checked) (os := os) (X := fun w _ => laidMetH Tryz.prog Rows.castsTellRow.laid w) false (GQ os) #[.agg #[.int .i64 0, .int .i64 0, .slice none 0 0], .agg #[.int .i64 0, .int .i64 0, .slice none 0 0], .int .i64 0] 8 (IT os)
   (World.shaped_of_ZipB (by kernel_rfl) (by kernel_rfl)) (by kernel_rfl) (by kernel_rfl) (by kernel_rfl) (IS os _)) ?_
 intro W base args ds gs before hval0 hW hL hS hZ0
 have hval : ∀ (j : Nat) t v, Tryz.f3.params[j]? = some t → args[j]? = some v → Value.okWide Tryz.prog W .any base t v := hval0
 have hW' : DataW.Whole enc Tryz.prog Tryz.f3.params.toList Rows.castsTellSpec.vars false W args.toList ds gs before := hW
 obtain ⟨p, q, hA0, hV, rfl, _, _⟩ := hW
 have hA : DataW.TrodAll enc Tryz.prog W 0 (fun _ => true) true Tryz.f3.params.toList args.toList ds p := hA0
 rw [params3] at hA hval
 have hG := GP hL hS
 obtain ⟨v0, v1, v2, d0, d1, d2, p0, p1, p2, rfl, rfl, rfl, h0, h1, h2⟩ := trodAll_three hA
 rw [params3] at hZ0
 obtain ⟨hs0, hs1⟩ := Ey hZ0
 obtain ⟨r0, k0, w0, l0, rfl, hl0, hz0⟩ := vP (hval 0 24 v0 rfl rfl) h0 hs0
 obtain ⟨r1, k1, w1, l1, rfl, hl1, hz1⟩ := vP (hval 1 24 v1 rfl rfl) h1 hs1
 obtain ⟨l2, rfl, _, _, hw2⟩ := open_int underlying3 (hval 2 3 v2 rfl rfl) h2
 have hl2 : -9223372036854775808 ≤ l2 ∧ l2 ≤ 9223372036854775807 := by simpa [Lit.wf, IntKind.min, IntKind.max, IntKind.signed, IntKind.bits] using hw2
 exact EV (P := Tryz.prog) (fn := Tryz.f3) (bt := 4) laidOut (by rw [params3]; kernel_rfl)
  rfl underlying4 rfl ⟨rfl, rfl, rfl⟩ hW' (B2 hG hl0 hl1 hz0 hz1 r0 k0 r1 k1 l2)

theorem aE {a b : Bool} (h : a = true) (k : b = true) : (a && b) = true := by rw [h, k]; rfl
theorem yW : Rows.castsTellRow.wf (OpenSpec.ofChange Rows.castsTellSpec) = true := by kernel_rfl
theorem yV : laidOutB Tryz.prog = true := by kernel_rfl
theorem yU : mapsRowed Tryz.prog = true := by kernel_rfl
theorem yT : Tryz.f3.params.all (Tryz.prog.readableRec ·) = true := by kernel_rfl
theorem yS : namedTie Tryz.prog Rows.castsTellRow.named Rows.castsTellSpec.vars = true := by kernel_rfl
theorem yR : (Rows.castsTellRow.stops == []) = true := by kernel_rfl
theorem yQ : (Tryz.prog.stops == []) = true := by kernel_rfl
theorem yP : (Rows.castsTellRow.knobs == []) = true := by kernel_rfl
theorem yO : (Tryz.prog.stopKnobs == []) = true := by kernel_rfl
theorem yN : (Rows.castsTellRow.inPlace == Tryz.prog.inPlace 3) = true := by kernel_rfl
theorem vi : (Rows.castsTellRow.unfollowed == Tryz.prog.unfollowed 3) = true := by kernel_rfl
theorem vh : (Rows.castsTellRow.recurses == Tryz.prog.recurses 3) = true := by kernel_rfl
theorem vg : (Rows.castsTellRow.named == Tryz.prog.varsNamed 3) = true := by kernel_rfl
theorem ve : (Rows.castsTellRow.maps == (Tryz.f3.params.toList ++ Rows.castsTellSpec.plain.varTypes Tryz.prog).any (Tryz.prog.mapsRec ·)) = true := by kernel_rfl
theorem u9 : (Rows.castsTellRow.ifaces == (Tryz.f3.params.toList ++ Rows.castsTellSpec.plain.varTypes Tryz.prog).any (Tryz.prog.ifacesRec ·)) = true := by kernel_rfl
theorem u7 : (Rows.castsTellRow.mapsOut == Tryz.prog.mapsAmong Tryz.f3.resultTypes.toList) = true := by kernel_rfl
theorem u6 : (Rows.castsTellRow.loops == (Tryz.f3.params.toList ++ Rows.castsTellSpec.plain.varTypes Tryz.prog).any (Tryz.prog.loopsFrom ·)) = true := by kernel_rfl
theorem u5 : (Rows.castsTellRow.wideKeys == (Tryz.f3.params.toList ++ Rows.castsTellSpec.plain.varTypes Tryz.prog ++ Tryz.f3.resultTypes.toList).any (Tryz.prog.wideKeysFrom ·)) = true := by kernel_rfl
theorem uZ : Rows.castsTellSpec.vars.all (Tryz.prog.varReadable ·) = true := by kernel_rfl
theorem uY : Tryz.f3.resultTypes.all (fun t => Tryz.prog.readableRec t && decide (t < Tryz.prog.types.size)) = true := by kernel_rfl
theorem uX : (Rows.castsTellRow.ifacesOut == Tryz.f3.resultTypes.toList.any (Tryz.prog.ifacesRec ·)) = true := by kernel_rfl
theorem uW : (Rows.castsTellRow.loopsOut == Tryz.f3.resultTypes.toList.any (Tryz.prog.loopsFrom ·)) = true := by kernel_rfl
theorem uV : (Rows.castsTellRow.plainKeys == Tryz.prog.plainKeys) = true := by kernel_rfl
theorem uU : Rows.castsTellRow.shortTexts.isNone = true := by kernel_rfl
theorem uT : Tryz.prog.stopsHeard = true := by kernel_rfl
theorem uS : Tryz.prog.mayEnter = true := by kernel_rfl
theorem uR : (Rows.castsTellRow.lifted == Tryz.prog.liftsFinal) = true := by kernel_rfl
theorem uQ : (Tryz.prog.make == some Rows.castsTellRow.make) = true := by kernel_rfl
theorem pg : joinedFacts Tryz.prog 3 Tryz.f3 Rows.castsTellSpec Rows.castsTellRow = true := by
 unfold joinedFacts
 exact (aE (aE (aE (aE (aE (aE (aE (aE (aE (aE (aE (aE (aE (aE (aE (aE (aE (aE (aE (aE (aE (aE (aE (aE (aE (aE (aE (aE (aE (aE (aE yW yV) yU) yT) yS) yR) yQ) yP) yO) yN) vi) vh) vg) ve) u9) u7) u6) u5) uZ) uY) uX) uW) uV) uU) uT) uS) uR) uQ) (by kernel_rfl)) (by kernel_rfl)) (by kernel_rfl)) (by kernel_rfl))
theorem kU : Rows.CastsTellSaid :=
 OpenClaim.holds_of_wide 3 Tryz.f3 rfl rfl rfl rfl rfl rfl rfl ⟨rfl, rfl, rfl, rfl, rfl⟩ rfl rfl rfl rfl rfl (by kernel_rfl) func3 pg
  (of_decide_eq_true (by kernel_rfl)) (by unfold Func.isWrapper; first | (rw [if_pos (by decide +kernel)]; kernel_rfl) | (rw [if_neg (by decide +kernel)]; exact ⟨rfl, rfl⟩))
  (fun os started H enc _ => o9 os started H enc)

#print axioms kU
end Go.Proofs.YtckomlgchbkekaaGreatDoor
