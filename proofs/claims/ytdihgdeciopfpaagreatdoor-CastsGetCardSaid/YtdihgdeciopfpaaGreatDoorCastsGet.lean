/- CastsGet: the row. -/
import Derived.Test.YtdihgdeciopfpaaGreatDoorQzh
import Derived.Test.YtdihgdeciopfpaaGreatDoorQzg
import Derived.Test.YtdihgdeciopfpaaGreatDoorQk
import Derived.Test.YtdihgdeciopfpaaGreatDoorQf
import Derived.Deep.Fields
namespace Go.Proofs.YtdihgdeciopfpaaGreatDoor
open Go.Proofs.Tryz
open Go Go.Lw Go.ChangeShapes Go.WideShapes Go.ChangeAt Go.RowKit Go.ChangeMaps
set_option maxRecDepth 100000

theorem qi (os : Os) (started : os.Started) (H : Type) (enc : TypeId × Value → H) :
 ReturnsInHanded {} Tryz.checked os 4 .any (fun w args => (Rows.castsGetSpec.pre enc Tryz.prog Tryz.f4 [] false w args ∧ laidMetH Tryz.prog Rows.castsGetRow.laid w) ∧ sizedMet enc Tryz.prog Tryz.f4 (OpenSpec.ofChange Rows.castsGetSpec) false w args)
  (Rows.castsGetSpec.post enc Tryz.prog Tryz.f4 false true false false) := by
 refine uh (C := Tryz.checked) (X := fun w _ => laidMetH Tryz.prog Rows.castsGetRow.laid w) (fun _ _ _ hh h => h.of_heap hh) own started (by kernel_rfl) func4
  (ChangeSpec.witness_shaped (enc := enc) (C := Tryz.checked) (os := os) (X := fun w _ => laidMetH Tryz.prog Rows.castsGetRow.laid w) false (FX os) #[.string ⟨#[]⟩] 8 (HY os)
   (World.shaped_of_ZipB (by kernel_rfl) (by kernel_rfl)) (by kernel_rfl) (by kernel_rfl) (by kernel_rfl) (HX os _)) ?_
 intro W base args ds gs before hval0 hW hL hS
 have hval : ∀ (j : Nat) t v, Tryz.f4.params[j]? = some t → args[j]? = some v → Value.okWide Tryz.prog W .any base t v := hval0
 have hW' : DataW.Whole enc Tryz.prog Tryz.f4.params.toList Rows.castsGetSpec.vars false W args.toList ds gs before := hW
 obtain ⟨p, q, hA0, hV, rfl, _, _⟩ := hW
 have hA : DataW.TrodAll enc Tryz.prog W 0 (fun _ => true) true Tryz.f4.params.toList args.toList ds p := hA0
 rw [params4] at hA hval
 have hG := FV hL hS
 obtain ⟨v0, d0, rfl, rfl, h0⟩ := trodAll_one hA
 obtain ⟨l0, rfl, _, _, hl0⟩ := open_string underlying9 (hval 0 9 v0 rfl rfl) h0
 exact D5 (P := Tryz.prog) (fn := Tryz.f4) (bt := 4) laidOut (by rw [params4]; kernel_rfl)
  rfl underlying4 rfl ⟨rfl, rfl, rfl⟩ hW' ((by have k := B9 hG l0.data.toList; rwa [Ng] at k))

theorem aS {a b : Bool} (h : a = true) (k : b = true) : (a && b) = true := by rw [h, k]; rfl
theorem Au : Rows.castsGetRow.wf (OpenSpec.ofChange Rows.castsGetSpec) = true := by kernel_rfl
theorem As : laidOutB Tryz.prog = true := by kernel_rfl
theorem Ar : mapsRowed Tryz.prog = true := by kernel_rfl
theorem Aq : Tryz.f4.params.all (Tryz.prog.readableRec ·) = true := by kernel_rfl
theorem Ap : namedTie Tryz.prog Rows.castsGetRow.named Rows.castsGetSpec.vars = true := by kernel_rfl
theorem Ao : (Rows.castsGetRow.stops == []) = true := by kernel_rfl
theorem An : (Tryz.prog.stops == []) = true := by kernel_rfl
theorem Am : (Rows.castsGetRow.knobs == []) = true := by kernel_rfl
theorem Al : (Tryz.prog.stopKnobs == []) = true := by kernel_rfl
theorem Ak : (Rows.castsGetRow.inPlace == Tryz.prog.inPlace 4) = true := by kernel_rfl
theorem xK : (Rows.castsGetRow.unfollowed == Tryz.prog.unfollowed 4) = true := by kernel_rfl
theorem xJ : (Rows.castsGetRow.recurses == Tryz.prog.recurses 4) = true := by kernel_rfl
theorem xI : (Rows.castsGetRow.named == Tryz.prog.varsNamed 4) = true := by kernel_rfl
theorem xH : (Rows.castsGetRow.maps == (Tryz.f4.params.toList ++ Rows.castsGetSpec.plain.varTypes Tryz.prog).any (Tryz.prog.mapsRec ·)) = true := by kernel_rfl
theorem xG : (Rows.castsGetRow.ifaces == (Tryz.f4.params.toList ++ Rows.castsGetSpec.plain.varTypes Tryz.prog).any (Tryz.prog.ifacesRec ·)) = true := by kernel_rfl
theorem xF : (Rows.castsGetRow.mapsOut == Tryz.prog.mapsAmong Tryz.f4.resultTypes.toList) = true := by kernel_rfl
theorem xE : (Rows.castsGetRow.loops == (Tryz.f4.params.toList ++ Rows.castsGetSpec.plain.varTypes Tryz.prog).any (Tryz.prog.loopsFrom ·)) = true := by kernel_rfl
theorem xD : (Rows.castsGetRow.wideKeys == (Tryz.f4.params.toList ++ Rows.castsGetSpec.plain.varTypes Tryz.prog ++ Tryz.f4.resultTypes.toList).any (Tryz.prog.wideKeysFrom ·)) = true := by kernel_rfl
theorem xC : Rows.castsGetSpec.vars.all (Tryz.prog.varReadable ·) = true := by kernel_rfl
theorem xA : Tryz.f4.resultTypes.all (fun t => Tryz.prog.readableRec t && decide (t < Tryz.prog.types.size)) = true := by kernel_rfl
theorem xy : (Rows.castsGetRow.ifacesOut == Tryz.f4.resultTypes.toList.any (Tryz.prog.ifacesRec ·)) = true := by kernel_rfl
theorem xx : (Rows.castsGetRow.loopsOut == Tryz.f4.resultTypes.toList.any (Tryz.prog.loopsFrom ·)) = true := by kernel_rfl
theorem xw : (Rows.castsGetRow.plainKeys == Tryz.prog.plainKeys) = true := by kernel_rfl
theorem xq : Rows.castsGetRow.shortTexts.isNone = true := by kernel_rfl
theorem xm : Tryz.prog.stopsHeard = true := by kernel_rfl
theorem xl : Tryz.prog.mayEnter = true := by kernel_rfl
theorem xk : (Rows.castsGetRow.lifted == Tryz.prog.liftsFinal) = true := by kernel_rfl
theorem xj : (Tryz.prog.make == some Rows.castsGetRow.make) = true := by kernel_rfl
theorem qj : joinedFacts Tryz.prog 4 Tryz.f4 Rows.castsGetSpec Rows.castsGetRow = true := by
 unfold joinedFacts
 exact (aS (aS (aS (aS (aS (aS (aS (aS (aS (aS (aS (aS (aS (aS (aS (aS (aS (aS (aS (aS (aS (aS (aS (aS (aS (aS (aS (aS (aS (aS (aS Au As) Ar) Aq) Ap) Ao) An) Am) Al) Ak) xK) xJ) xI) xH) xG) xF) xE) xD) xC) xA) xy) xx) xw) xq) xm) xl) xk) xj) (by kernel_rfl)) (by kernel_rfl)) (by kernel_rfl)) (by kernel_rfl))
theorem lq : Rows.CastsGetSaid :=
 OpenClaim.holds_of_wide 4 Tryz.f4 rfl rfl rfl rfl rfl rfl rfl ⟨rfl, rfl, rfl, rfl, rfl⟩ rfl rfl rfl rfl rfl (by kernel_rfl) func4 qj
  (of_decide_eq_true (by kernel_rfl)) (by unfold Func.isWrapper; first | (rw [if_pos (by decide +kernel)]; kernel_rfl) | (rw [if_neg (by decide +kernel)]; exact ⟨rfl, rfl⟩))
  (fun os started H enc _ => qi os started H enc)

#print axioms lq
end Go.Proofs.YtdihgdeciopfpaaGreatDoor
