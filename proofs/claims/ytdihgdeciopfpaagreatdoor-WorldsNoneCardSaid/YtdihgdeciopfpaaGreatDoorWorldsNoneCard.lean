/- WorldsNone: the tied card: whatever it is told, it answers true. -/
import Derived.Test.YtdihgdeciopfpaaGreatDoorQzg
import Derived.Test.YtdihgdeciopfpaaGreatDoorWorldsNone
import Derived.Test.YtdihgdeciopfpaaGreatDoorTie
import Derived.Test.YtdihgdeciopfpaaGreatDoorCards
import Derived.SevenTiedAt
namespace Go.Proofs.YtdihgdeciopfpaaGreatDoor
open Go.Proofs.Tryz
open Go

theorem yf : Rows.worldsNoneRow.wfByText (OpenSpec.ofChange Rows.worldsNoneSpec) = true := by kernel_rfl
theorem ye : Tryz.prog.mainIs = some (true, "8afe56610b5222e914b2470764314f339019c675ce69d56785e7f6713e8b0306".toList) := by kernel_rfl
theorem yd : true = Tryz.prog.looks [] := by kernel_rfl
theorem xX : Tryz.prog.funcs.any Func.goes = false := by kernel_rfl
theorem xY {P : Program} (h : P.funcs.any Func.goes = false) (f : FuncId) : P.goes f = false := by
 have k : ∀ g : FuncId, (P.funcs[g]?).any Func.goes = false := fun g => by
  cases q : P.funcs[g]? with
  | none => rfl
  | some fn =>
   rw [Option.any_some]
   obtain ⟨hl, e⟩ := Array.getElem?_eq_some_iff.1 q
   subst e
   cases w : Func.goes P.funcs[g] with
   | false => rfl
   | true => exact (Bool.false_ne_true (h.symm.trans (Array.any_eq_true.2 ⟨g, hl, w⟩))).elim
 unfold Program.goes
 rw [h, Bool.and_false, Bool.or_false, List.any_eq_false]
 exact fun g _ => by rw [k g]; exact Bool.false_ne_true
theorem nX : Tryz.prog.funcNamed "limner/limnerlaw28.WorldsNone" = some 3 := by kernel_rfl
theorem yb : false = Rows.worldsNoneRow.goesBy Tryz.prog := by
 unfold OpenClaim.goesBy Program.goesAt Program.goesFrom
 rw [show Rows.worldsNoneRow.start = .entering from rfl, show Rows.worldsNoneRow.func = "limner/limnerlaw28.WorldsNone" from rfl, nX, Option.any_some, xY xX]
 rfl
theorem xZ : ([23, 3, 3].all fun u => !Tryz.prog.wantsStandIn u) = true := by kernel_rfl
theorem worldsNone_card : Rows.WorldsNoneCardSaid :=
 Claim7.holds_tied_plain_at .later [] [.data, .data, .data, .data, .widerDeep, .widerDeep, .data, .data, .mapped, .widerDeep, .data, .pinned] true (true, "8afe56610b5222e914b2470764314f339019c675ce69d56785e7f6713e8b0306") true
  jV (fun _ h => by cases h) yf (fun _ h => by cases h) worldsNone_row_tie rfl ⟨rfl, rfl⟩ ye rfl
  (fun f fn hf hfn => by
   obtain rfl : f = 3 := Option.some.inj (nX.symm.trans hf) |>.symm
   obtain rfl : fn = Tryz.f3 := (Option.some.inj (Tryz.func3.symm.trans hfn)).symm
   exact ⟨yd, fun j t ht => by
    rw [params3] at ht
    have hm : t ∈ [23, 3, 3] := by simpa using Array.mem_of_getElem? ht
    have hall : ([23, 3, 3].all fun u => !Tryz.prog.wantsStandIn u) = true := xZ
    exact (show Tryz.prog.wantsStandIn t = false by simpa using List.all_eq_true.1 hall t hm)⟩)
  yb

#print axioms worldsNone_card
end Go.Proofs.YtdihgdeciopfpaaGreatDoor
