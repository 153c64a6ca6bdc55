/- CastsTell: the tied card: whatever it is told, it answers true. -/
import Derived.Test.YtckomlgchbkekaaGreatDoorQzh
import Derived.Test.YtckomlgchbkekaaGreatDoorCastsTell
import Derived.Test.YtckomlgchbkekaaGreatDoorTie
import Derived.Test.YtckomlgchbkekaaGreatDoorCards
import Derived.SevenTiedAt
namespace Go.Proofs.YtckomlgchbkekaaGreatDoor
open Go.Proofs.Tryz
open Go

theorem zb : Rows.castsTellRow.wfByText (OpenSpec.ofChange Rows.castsTellSpec) = true := by kernel_rfl
theorem y9 : Tryz.prog.mainIs = some (true, "437c6671d7613876216f25881a2db79719fcb203722b00d3704f93698c010e57".toList) := by kernel_rfl
theorem y8 : true = Tryz.prog.looks [] := by kernel_rfl
theorem yX : Tryz.prog.funcs.any Func.goes = false := by kernel_rfl
theorem yY {P : Program} (h : P.funcs.any Func.goes = false) (f : FuncId) : P.goes f = false := by
 have k : ∀ g : FuncId, (P.funcs[g]?).any Func.goes = false := fun g => by
  cases q : P.funcs[g]? with
  | none => rfl
  | some fn =>
   rw [Option.any_some]
   obtain ⟨hl, e⟩ := Array.getElem?_eq_some_iff.1 q
   subst e
   cases w : Func.goes P.funcs[g] with
   | false => rfl
   | true => exact (Bool.false_ne_true (h.symm.trans (Array.any_eq_true.2 ⟨g, hl, w⟩))).elim
 unfold Program.goes
 rw [h, Bool.and_false, Bool.or_false, List.any_eq_false]
 exact fun g _ => by rw [k g]; exact Bool.false_ne_true
theorem oB : Tryz.prog.funcNamed "limner/limnerlaw36.CastsTell" = some 3 := by kernel_rfl
theorem y7 : false = Rows.castsTellRow.goesBy Tryz.prog := by
 unfold OpenClaim.goesBy Program.goesAt Program.goesFrom
 rw [show Rows.castsTellRow.start = .entering from rfl, show Rows.castsTellRow.func = "limner/limnerlaw36.CastsTell" from rfl, oB, Option.any_some, yY yX]
 rfl
theorem yZ : ([24, 24, 3].all fun u => !Tryz.prog.wantsStandIn u) = true := by kernel_rfl
theorem castsTell_card : Rows.CastsTellCardSaid :=
 Claim7.holds_tied_plain_at .later [] [.data, .data, .data, .data, .sentinel, .sentinel, .widerDeep, .widerDeep, .data, .data, .mapped, .widerDeep, .data, .pinned] true (true, "437c6671d7613876216f25881a2db79719fcb203722b00d3704f93698c010e57") true
  kU (fun _ h => by cases h) zb (fun _ h => by cases h) castsTell_row_tie rfl ⟨rfl, rfl⟩ y9 rfl
  (fun f fn hf hfn => by
   obtain rfl : f = 3 := Option.some.inj (oB.symm.trans hf) |>.symm
   obtain rfl : fn = Tryz.f3 := (Option.some.inj (Tryz.func3.symm.trans hfn)).symm
   exact ⟨y8, fun j t ht => by
    rw [params3] at ht
    have hm : t ∈ [24, 24, 3] := by simpa using Array.mem_of_getElem? ht
    have hall : ([24, 24, 3].all fun u => !Tryz.prog.wantsStandIn u) = true := yZ
    exact (show Tryz.prog.wantsStandIn t = false by simpa using List.all_eq_true.1 hall t hm)⟩)
  y7

#print axioms castsTell_card
end Go.Proofs.YtckomlgchbkekaaGreatDoor
