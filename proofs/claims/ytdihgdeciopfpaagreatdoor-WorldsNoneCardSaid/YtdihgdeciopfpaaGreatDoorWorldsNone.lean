/- WorldsNone: the row. -/
import Derived.Test.YtdihgdeciopfpaaGreatDoorQzg
import Derived.Test.YtdihgdeciopfpaaGreatDoorQzf
import Derived.Test.YtdihgdeciopfpaaGreatDoorQr
namespace Go.Proofs.YtdihgdeciopfpaaGreatDoor
open Go.Proofs.Tryz
open Go Go.Lw Go.ChangeShapes Go.WideShapes Go.ChangeAt Go.RowKit Go.ChangeMaps
set_option maxRecDepth 100000

theorem pL (os : Os) (started : os.Started) (H : Type) (enc : TypeId × Value → H) :
 ReturnsInHanded {} Tryz.checked os 3 .any (fun w args => (Rows.worldsNoneSpec.pre enc Tryz.prog Tryz.f3 [] false w args ∧ laidMetH Tryz.prog Rows.worldsNoneRow.laid w) ∧ sizedMet enc Tryz.prog Tryz.f3 (OpenSpec.ofChange Rows.worldsNoneSpec) false w args)
  (Rows.worldsNoneSpec.post enc Tryz.prog Tryz.f3 false true false false) := by
 refine yx (C := Tryz.checked) (X := fun w _ => laidMetH Tryz.prog Rows.worldsNoneRow.laid w) (fun _ _ _ hh h => h.of_heap hh) own started (by kernel_rfl) func3
  (ChangeSpec.witness_shaped (enc := enc) (C := Tryz.checked) (os := os) (X := fun w _ => laidMetH Tryz.prog Rows.worldsNoneRow.laid w) false (I7 os) #[.agg #[.int .i64 0, .string ⟨#[]⟩, .int .i64 0, .int .i64 0], .int .i64 0, .int .i64 0] 8 (KN os)
   (World.shaped_of_ZipB (by kernel_rfl) (by kernel_rfl)) (by kernel_rfl) (by kernel_rfl) (by kernel_rfl) (KM os _)) ?_
 intro W base args ds gs before hval0 hW hL hS
 have hval : ∀ (j : Nat) t v, Tryz.f3.params[j]? = some t → args[j]? = some v → Value.okWide Tryz.prog W .any base t v := hval0
 have hW' : DataW.Whole enc Tryz.prog Tryz.f3.params.toList Rows.worldsNoneSpec.vars false W args.toList ds gs before := hW
 obtain ⟨p, q, hA0, hV, rfl, _, _⟩ := hW
 have hA : DataW.TrodAll enc Tryz.prog W 0 (fun _ => true) true Tryz.f3.params.toList args.toList ds p := hA0
 rw [params3] at hA hval
 have hG := I6 hL hS
 obtain ⟨v0, v1, v2, d0, d1, d2, p0, p1, p2, rfl, rfl, rfl, h0, h1, h2⟩ := trodAll_three hA
 obtain ⟨k0, l0, a0, b0, rfl⟩ := Gz (hval 0 23 v0 rfl rfl) h0
 obtain ⟨l1, rfl, _, _, hw1⟩ := open_int underlying3 (hval 1 3 v1 rfl rfl) h1
 have hl1 : -9223372036854775808 ≤ l1 ∧ l1 ≤ 9223372036854775807 := by simpa [Lit.wf, IntKind.min, IntKind.max, IntKind.signed, IntKind.bits] using hw1
 obtain ⟨l2, rfl, _, _, hw2⟩ := open_int underlying3 (hval 2 3 v2 rfl rfl) h2
 have hl2 : -9223372036854775808 ≤ l2 ∧ l2 ≤ 9223372036854775807 := by simpa [Lit.wf, IntKind.min, IntKind.max, IntKind.signed, IntKind.bits] using hw2
 exact GV (P := Tryz.prog) (fn := Tryz.f3) (bt := 4) laidOut (by rw [params3]; kernel_rfl)
  rfl underlying4 rfl ⟨rfl, rfl, rfl⟩ hW' (Dz hG k0 l0 a0 b0 l1 l2)

theorem aJ {a b : Bool} (h : a = true) (k : b = true) : (a && b) = true := by rw [h, k]; rfl
theorem xW : Rows.worldsNoneRow.wf (OpenSpec.ofChange Rows.worldsNoneSpec) = true := by kernel_rfl
theorem xV : laidOutB Tryz.prog = true := by kernel_rfl
theorem xU : mapsRowed Tryz.prog = true := by kernel_rfl
theorem xT : Tryz.f3.params.all (Tryz.prog.readableRec ·) = true := by kernel_rfl
theorem xS : namedTie Tryz.prog Rows.worldsNoneRow.named Rows.worldsNoneSpec.vars = true := by kernel_rfl
theorem xR : (Rows.worldsNoneRow.stops == []) = true := by kernel_rfl
theorem xQ : (Tryz.prog.stops == []) = true := by kernel_rfl
theorem xP : (Rows.worldsNoneRow.knobs == []) = true := by kernel_rfl
theorem xO : (Tryz.prog.stopKnobs == []) = true := by kernel_rfl
theorem xN : (Rows.worldsNoneRow.inPlace == Tryz.prog.inPlace 3) = true := by kernel_rfl
theorem uy : (Rows.worldsNoneRow.unfollowed == Tryz.prog.unfollowed 3) = true := by kernel_rfl
theorem ux : (Rows.worldsNoneRow.recurses == Tryz.prog.recurses 3) = true := by kernel_rfl
theorem uw : (Rows.worldsNoneRow.named == Tryz.prog.varsNamed 3) = true := by kernel_rfl
theorem uu : (Rows.worldsNoneRow.maps == (Tryz.f3.params.toList ++ Rows.worldsNoneSpec.plain.varTypes Tryz.prog).any (Tryz.prog.mapsRec ·)) = true := by kernel_rfl
theorem ur : (Rows.worldsNoneRow.ifaces == (Tryz.f3.params.toList ++ Rows.worldsNoneSpec.plain.varTypes Tryz.prog).any (Tryz.prog.ifacesRec ·)) = true := by kernel_rfl
theorem uq : (Rows.worldsNoneRow.mapsOut == Tryz.prog.mapsAmong Tryz.f3.resultTypes.toList) = true := by kernel_rfl
theorem uo : (Rows.worldsNoneRow.loops == (Tryz.f3.params.toList ++ Rows.worldsNoneSpec.plain.varTypes Tryz.prog).any (Tryz.prog.loopsFrom ·)) = true := by kernel_rfl
theorem um : (Rows.worldsNoneRow.wideKeys == (Tryz.f3.params.toList ++ Rows.worldsNoneSpec.plain.varTypes Tryz.prog ++ Tryz.f3.resultTypes.toList).any (Tryz.prog.wideKeysFrom ·)) = true := by kernel_rfl
theorem uk : Rows.worldsNoneSpec.vars.all (Tryz.prog.varReadable ·) = true := by kernel_rfl
theorem uj : Tryz.f3.resultTypes.all (fun t => Tryz.prog.readableRec t && decide (t < Tryz.prog.types.size)) = true := by kernel_rfl
theorem uh : (Rows.worldsNoneRow.ifacesOut == Tryz.f3.resultTypes.toList.any (Tryz.prog.ifacesRec ·)) = true := by kernel_rfl
theorem ug : (Rows.worldsNoneRow.loopsOut == Tryz.f3.resultTypes.toList.any (Tryz.prog.loopsFrom ·)) = true := by kernel_rfl
theorem uf : (Rows.worldsNoneRow.plainKeys == Tryz.prog.plainKeys) = true := by kernel_rfl
theorem ue : Rows.worldsNoneRow.shortTexts.isNone = true := by kernel_rfl
theorem ud : Tryz.prog.stopsHeard = true := by kernel_rfl
theorem tZ : Tryz.prog.mayEnter = true := by kernel_rfl
theorem tY : (Rows.worldsNoneRow.lifted == Tryz.prog.liftsFinal) = true := by kernel_rfl
theorem tX : (Tryz.prog.make == some Rows.worldsNoneRow.make) = true := by kernel_rfl
theorem pM : joinedFacts Tryz.prog 3 Tryz.f3 Rows.worldsNoneSpec Rows.worldsNoneRow = true := by
 unfold joinedFacts
 exact (aJ (aJ (aJ (aJ (aJ (aJ (aJ (aJ (aJ (aJ (aJ (aJ (aJ (aJ (aJ (aJ (aJ (aJ (aJ (aJ (aJ (aJ (aJ (aJ (aJ (aJ (aJ (aJ (aJ (aJ (aJ xW xV) xU) xT) xS) xR) xQ) xP) xO) xN) uy) ux) uw) uu) ur) uq) uo) um) uk) uj) uh) ug) uf) ue) ud) tZ) tY) tX) (by kernel_rfl)) (by kernel_rfl)) (by kernel_rfl)) (by kernel_rfl))
theorem jV : Rows.WorldsNoneSaid :=
 OpenClaim.holds_of_wide 3 Tryz.f3 rfl rfl rfl rfl rfl rfl rfl ⟨rfl, rfl, rfl, rfl, rfl⟩ rfl rfl rfl rfl rfl (by kernel_rfl) func3 pM
  (of_decide_eq_true (by kernel_rfl)) (by unfold Func.isWrapper; first | (rw [if_pos (by decide +kernel)]; kernel_rfl) | (rw [if_neg (by decide +kernel)]; exact ⟨rfl, rfl⟩))
  (fun os started H enc _ => pL os started H enc)

#print axioms jV
end Go.Proofs.YtdihgdeciopfpaaGreatDoor
