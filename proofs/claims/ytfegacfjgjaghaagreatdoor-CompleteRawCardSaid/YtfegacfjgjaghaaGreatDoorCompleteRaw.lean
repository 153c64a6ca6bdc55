/- CompleteRaw: the row. -/
import Derived.Test.YtfegacfjgjaghaaGreatDoorQzb
import Derived.Test.YtfegacfjgjaghaaGreatDoorQw
namespace Go.Proofs.YtfegacfjgjaghaaGreatDoor
open Go Go.Lw Go.ChangeShapes Go.WideShapes Go.ChangeAt Go.RowKit Go.ChangeMaps
set_option maxRecDepth 100000

theorem completeRaw_lifted (os : Os) (started : os.Started) (H : Type) (enc : TypeId × Value → H) :
 ReturnsInHanded {} Tryz.checked os 4 .any (fun w args => (Rows.completeRawSpec.pre enc Tryz.prog Tryz.f4 [] false w args ∧ laidMetH Tryz.prog Rows.completeRawRow.laid w) ∧ sizedMet enc Tryz.prog Tryz.f4 (OpenSpec.ofChange Rows.completeRawSpec) false w args)
  (Rows.completeRawSpec.post enc Tryz.prog Tryz.f4 false true false false) := by
 refine handed_shaped (C := Tryz.checked) (X := fun w _ => laidMetH Tryz.prog Rows.completeRawRow.laid w) (fun _ _ _ hh h => h.of_heap hh) own started (by kernel_rfl) Tryz.func4
  (ChangeSpec.witness_shaped (enc := enc) (C := Tryz.checked) (os := os) (X := fun w _ => laidMetH Tryz.prog Rows.completeRawRow.laid w) false (lexW os) #[.slice none 0 0, .slice none 0 0, .agg #[.int .i64 0, .int .i64 0]] 8 (lexW_os os)
   (World.shaped_of_ZipB (by kernel_rfl) (by kernel_rfl)) (by kernel_rfl) (by kernel_rfl) (by kernel_rfl) (lex_met os _)) ?_
 intro W base args ds gs before hval0 hW hL hS
 have hval : ∀ (j : Nat) t v, Tryz.f4.params[j]? = some t → args[j]? = some v → Value.okWide Tryz.prog W .any base t v := hval0
 have hW' : DataW.Whole enc Tryz.prog Tryz.f4.params.toList Rows.completeRawSpec.vars false W args.toList ds gs before := hW
 obtain ⟨p, q, hA0, hV, rfl, _, _⟩ := hW
 have hA : DataW.TrodAll enc Tryz.prog W 0 (fun _ => true) true Tryz.f4.params.toList args.toList ds p := hA0
 rw [Tryz.params4] at hA hval
 have hG := lex_glob hL hS
 obtain ⟨v0, v1, v2, d0, d1, d2, p0, p1, p2, rfl, rfl, rfl, h0, h1, h2⟩ := trodAll_three hA
 obtain ⟨l0, hl0⟩ := read_toks (hval 0 25 v0 rfl rfl) h0
 obtain ⟨l1, hl1, _⟩ := read_strings Tryz.underlying22 Tryz.underlying9 (show Tryz.prog.cellsOf 9 = 1 by kernel_rfl) (hval 1 22 v1 rfl rfl) h1
 obtain ⟨l2, m2, rfl⟩ := read_two (hval 2 32 v2 rfl rfl) h2
 exact law_calls (P := Tryz.prog) (fn := Tryz.f4) (bt := 4) laidOut (by rw [Tryz.params4]; kernel_rfl)
  rfl Tryz.underlying4 rfl ⟨rfl, rfl, rfl⟩ hW' (completeRaw_calls (com_glob hL hS) hl0 (eby_of hl1) l2 m2)

theorem completeRaw_holds : Rows.CompleteRawSaid :=
 OpenClaim.holds_of_wide 4 Tryz.f4 rfl rfl rfl rfl rfl rfl rfl ⟨rfl, rfl, rfl, rfl, rfl⟩ rfl rfl rfl rfl rfl (by kernel_rfl) Tryz.func4 (by kernel_rfl)
  (of_decide_eq_true (by kernel_rfl)) (by unfold Func.isWrapper; first | (rw [if_pos (by decide +kernel)]; kernel_rfl) | (rw [if_neg (by decide +kernel)]; exact ⟨rfl, rfl⟩))
  (fun os started H enc _ => completeRaw_lifted os started H enc)

#print axioms completeRaw_holds
end Go.Proofs.YtfegacfjgjaghaaGreatDoor
