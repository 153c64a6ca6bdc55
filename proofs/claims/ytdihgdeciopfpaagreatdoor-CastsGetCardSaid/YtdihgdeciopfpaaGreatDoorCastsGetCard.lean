/- CastsGet: the tied card: whatever it is told, it answers true. -/
import Derived.Test.YtdihgdeciopfpaaGreatDoorQzh
import Derived.Test.YtdihgdeciopfpaaGreatDoorCastsGet
import Derived.Test.YtdihgdeciopfpaaGreatDoorTie
import Derived.Test.YtdihgdeciopfpaaGreatDoorCards
import Derived.SevenTiedAt
namespace Go.Proofs.YtdihgdeciopfpaaGreatDoor
open Go.Proofs.Tryz
open Go

theorem AB : Rows.castsGetRow.wfByText (OpenSpec.ofChange Rows.castsGetSpec) = true := by kernel_rfl
theorem AA : Tryz.prog.mainIs = some (true, "8afe56610b5222e914b2470764314f339019c675ce69d56785e7f6713e8b0306".toList) := by kernel_rfl
theorem Az : true = Tryz.prog.looks [] := by kernel_rfl
theorem Av : Tryz.prog.funcs.any Func.goes = false := by kernel_rfl
theorem Aw {P : Program} (h : P.funcs.any Func.goes = false) (f : FuncId) : P.goes f = false := by
 have k : ∀ g : FuncId, (P.funcs[g]?).any Func.goes = false := fun g => by
  cases q : P.funcs[g]? with
  | none => rfl
  | some fn =>
   rw [Option.any_some]
   obtain ⟨hl, e⟩ := Array.getElem?_eq_some_iff.1 q
   subst e
   cases w : Func.goes P.funcs[g] with
   | false => rfl
   | true => exact (Bool.false_ne_true (h.symm.trans (Array.any_eq_true.2 ⟨g, hl, w⟩))).elim
 unfold Program.goes
 rw [h, Bool.and_false, Bool.or_false, List.any_eq_false]
 exact fun g _ => by rw [k g]; exact Bool.false_ne_true
theorem pU : Tryz.prog.funcNamed "limner/limnerlaw36.CastsGet" = some 4 := by kernel_rfl
theorem Ay : false = Rows.castsGetRow.goesBy Tryz.prog := by
 unfold OpenClaim.goesBy Program.goesAt Program.goesFrom
 rw [show Rows.castsGetRow.start = .entering from rfl, show Rows.castsGetRow.func = "limner/limnerlaw36.CastsGet" from rfl, pU, Option.any_some, Aw Av]
 rfl
theorem Ax : ([9].all fun u => !Tryz.prog.wantsStandIn u) = true := by kernel_rfl
theorem castsGet_card : Rows.CastsGetCardSaid :=
 Claim7.holds_tied_plain_at .later [] [.data, .data, .data, .data, .sentinel, .sentinel, .widerDeep, .widerDeep, .data, .data, .mapped, .widerDeep, .data, .pinned] true (true, "8afe56610b5222e914b2470764314f339019c675ce69d56785e7f6713e8b0306") true
  lq (fun _ h => by cases h) AB (fun _ h => by cases h) castsGet_row_tie rfl ⟨rfl, rfl⟩ AA rfl
  (fun f fn hf hfn => by
   obtain rfl : f = 4 := Option.some.inj (pU.symm.trans hf) |>.symm
   obtain rfl : fn = Tryz.f4 := (Option.some.inj (Tryz.func4.symm.trans hfn)).symm
   exact ⟨Az, fun j t ht => by
    rw [params4] at ht
    have hm : t ∈ [9] := by simpa using Array.mem_of_getElem? ht
    have hall : ([9].all fun u => !Tryz.prog.wantsStandIn u) = true := Ax
    exact (show Tryz.prog.wantsStandIn t = false by simpa using List.all_eq_true.1 hall t hm)⟩)
  Ay

#print axioms castsGet_card
end Go.Proofs.YtdihgdeciopfpaaGreatDoor
