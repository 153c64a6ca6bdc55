/- Plain words, the logic of walks, and walks that the statement's proof leans on (part 25). -/
import Derived.Lib.LaidU8
import Derived.Deep.Fields
import Derived.Test.YtlkmlfofhbekoaaDoorQa
import Derived.Test.YtlkmlfofhbekoaaDoorQb
import Derived.Test.YtlkmlfofhbekoaaDoorQc
import Derived.Test.YtlkmlfofhbekoaaDoorQd
import Derived.Test.YtlkmlfofhbekoaaDoorQe
import Derived.Test.YtlkmlfofhbekoaaDoorQf
import Derived.Test.YtlkmlfofhbekoaaDoorQg
import Derived.Test.YtlkmlfofhbekoaaDoorQh
import Derived.Test.YtlkmlfofhbekoaaDoorQi
import Derived.Test.YtlkmlfofhbekoaaDoorQj
import Derived.Test.YtlkmlfofhbekoaaDoorQk
import Derived.Test.YtlkmlfofhbekoaaDoorQl
import Derived.Test.YtlkmlfofhbekoaaDoorQm
import Derived.Test.YtlkmlfofhbekoaaDoorQn
import Derived.Test.YtlkmlfofhbekoaaDoorQo
import Derived.Test.YtlkmlfofhbekoaaDoorQp
import Derived.Test.YtlkmlfofhbekoaaDoorQq
import Derived.Test.YtlkmlfofhbekoaaDoorQr
import Derived.Test.YtlkmlfofhbekoaaDoorQs
import Derived.Test.YtlkmlfofhbekoaaDoorQt
import Derived.Test.YtlkmlfofhbekoaaDoorQu
import Derived.Test.YtlkmlfofhbekoaaDoorQv
import Derived.Test.YtlkmlfofhbekoaaDoorQw
import Derived.Test.YtlkmlfofhbekoaaDoorQx

namespace Go.Proofs.YtlkmlfofhbekoaaDoor
open Go Go.Lw Go.ChangeShapes Go.WideShapes Go.ChangeAt Go.RowKit
set_option maxRecDepth 100000
theorem first_eq : Go.Pinned.utf8First = Lib.firstData := by kernel_rfl
theorem table_data : (Rows.laid_limner_rules_table : DataW Unit) = .agg [.slice ((tabR 0).map dataSII) [], .slice ((tabR 1).map dataSII) [], .slice ((tabR 2).map dataSII) []] := by kernel_rfl
theorem accept_data : (Rows.laid_unicode_utf8_acceptRanges : DataW Unit) = Lib.acceptData := by kernel_rfl
theorem utf8H_of {W : World} (h3 : Lib.VarReads Tryd.prog W "unicode/utf8.first" Lib.firstData) (h4 : Lib.VarReads Tryd.prog W "unicode/utf8.acceptRanges" Lib.acceptData) : Utf8H W.heap := by
 refine ⟨fun c hc => ?_, fun i hi => ?_⟩
 · obtain ⟨g, t, cs, fuel, p, hg, hty, hvar, hd⟩ := h3
   obtain rfl := Option.some.inj ((show Tryd.prog.globalNamed "unicode/utf8.first" = some 1 by kernel_rfl).symm.trans hg)
   obtain rfl := Option.some.inj ((show (Tryd.prog.globals[1]?).map (·.type) = some 161 by kernel_rfl).symm.trans hty)
   have hcs := Lib.cells_of_tab Tryd.underlying161 Tryd.underlying5 (by kernel_rfl) (by kernel_rfl) hd
   have := World.var?_cell hg hvar c
   rw [← cell_heap, this, ← Array.getElem?_toList, hcs]
   simp [Lib.firstTab, hc]
 · obtain ⟨g, t, cs, fuel, p, hg, hty, hvar, hd⟩ := h4
   obtain rfl := Option.some.inj ((show Tryd.prog.globalNamed "unicode/utf8.acceptRanges" = some 2 by kernel_rfl).symm.trans hg)
   obtain rfl := Option.some.inj ((show (Tryd.prog.globals[2]?).map (·.type) = some 164 by kernel_rfl).symm.trans hty)
   obtain ⟨fuel', d, q, hdi, he⟩ := Lib.array_elem Tryd.underlying164 hd i hi
   simp only [List.getElem?_map, List.getElem?_range hi, Option.map_some, Option.some.injEq] at hdi
   subst hdi
   have c2 : Tryd.prog.cellsOf 163 = 2 := by kernel_rfl
   have c1 : Tryd.prog.cellsOf 5 = 1 := by kernel_rfl
   rw [c2] at he
   have hcs := Lib.ints_of_struct Tryd.underlying163 (fun j f hj => by
    match j, hj with
    | 0, hj => simp at hj; subst hj; exact ⟨Tryd.underlying5, rfl, c1⟩
    | 1, hj => simp at hj; subst hj; exact ⟨Tryd.underlying5, rfl, c1⟩
    | j + 2, hj => simp at hj) (by rw [c2]; rfl) he
   have e0 := congrArg (·[0]?) hcs
   have e1 := congrArg (·[1]?) hcs
   simp only [List.getElem?_take, List.getElem?_drop] at e0 e1
   constructor
   · rw [← cell_heap, World.var?_cell hg hvar (2 * i), ← Array.getElem?_toList]
     simpa [Nat.mul_comm] using e0
   · rw [← cell_heap, World.var?_cell hg hvar (2 * i + 1), ← Array.getElem?_toList]
     simpa [Nat.mul_comm] using e1
theorem rules_of {W : World} (h : Lib.VarReads Tryd.prog W "limner/rules.table" (.agg [.slice ((tabR 0).map dataSII) [], .slice ((tabR 1).map dataSII) [], .slice ((tabR 2).map dataSII) []])) : RulesAt W.heap := by
 intro m hm
 obtain ⟨g, t, cs, fuel, p, hg, hty, hvar, hd⟩ := h
 obtain rfl := Option.some.inj ((show Tryd.prog.globalNamed "limner/rules.table" = some 0 by kernel_rfl).symm.trans hg)
 obtain rfl := Option.some.inj ((show (Tryd.prog.globals[0]?).map (·.type) = some 100 by kernel_rfl).symm.trans hty)
 obtain ⟨fuel', d, q, hdi, he⟩ := Lib.array_elem Tryd.underlying100 hd m hm
 have hdm : d = .slice ((tabR m).map dataSII) [] := by
  match m, hm with
  | 0, _ => exact (Option.some.inj hdi).symm
  | 1, _ => exact (Option.some.inj hdi).symm
  | 2, _ => exact (Option.some.inj hdi).symm
 subst hdm
 have c1 : Tryd.prog.cellsOf 97 = 1 := by kernel_rfl
 rw [c1] at he
 obtain ⟨v, hv, hs⟩ := laid_recs Tryd.underlying97 Tryd.underlying99 (by kernel_rfl) rfl rfl rfl Tryd.underlying9 Tryd.underlying3 Tryd.underlying3 (by kernel_rfl) (by kernel_rfl) (by kernel_rfl) he
 refine ⟨v, ?_, hs⟩
 have e0 := congrArg (·[0]?) hv
 simp only [List.getElem?_take, List.getElem?_drop] at e0
 rw [← cell_heap, World.var?_cell hg hvar m, ← Array.getElem?_toList]
 simpa using e0
theorem lex_glob {W : World} (hL : laidMetH Tryd.prog Rows.relexFullRow.laid W) (hS : W.ShapedOpen Tryd.prog) : LxG W.heap := by
 rw [MakeChecks.laidMetH_plain _ _ _ (by kernel_rfl)] at hL
 obtain ⟨g2, t2, cs2, f2, p2, hg2, ht2, hv2, hd2⟩ := Lib.laidMet.reads hL (n := "internal/strconv.uint64pow10") (.tail _ (.tail _ (.head _)))
 have h3 := Lib.laidMet.reads hL (n := "unicode/utf8.acceptRanges") (.tail _ (.tail _ (.tail _ (.head _))))
 obtain ⟨g4, t4, cs4, f4, p4, hg4, ht4, hv4, hd4⟩ := Lib.laidMet.reads hL (n := "limner/regs.signs") (.tail _ (.tail _ (.tail _ (.tail _ (.head _)))))
 have h5 := Lib.laidMet.reads hL (n := "limner/rules.table") (.tail _ (.tail _ (.tail _ (.tail _ (.tail _ (.head _))))))
 have h6 := Lib.laidMet.reads hL (n := "unicode/utf8.first") (.tail _ (.tail _ (.tail _ (.tail _ (.tail _ (.tail _ (.head _)))))))
 have h6' : Lib.VarReads Tryd.prog W "unicode/utf8.first" Lib.firstData := by rw [← first_eq]; exact h6
 rw [accept_data] at h3
 rw [table_data] at h5
 exact ⟨⟨_, Nat.le_refl _, signs_of hg4 ht4 hv4 hd4⟩, tens_of hg2 ht2 hv2 hd2, rules_of h5, utf8H_of h6' h3,
  int_of_shape (t := 3) (k := .i64) (zero := #[.int .i64 0]) hS (by decide +kernel) (by kernel_rfl) rfl (by kernel_rfl) (by kernel_rfl) Tryd.underlying3⟩
noncomputable def lexW (os : Os) : World := (World.doorLaid Tryd.prog 4000 os).layVars Tryd.prog (Rows.relexFullRow.laid.filter fun x => ["unicode/utf8.first"].contains x.1)
theorem lexW_os (os : Os) : (lexW os).os = os := by unfold lexW; rw [World.layVars_os]; rfl
noncomputable def lexB (os : Os) : List Nat := (List.range (World.doorLaid Tryd.prog 4000 os).heap.size).filter fun x => x != 1
theorem lex_met (os : Os) (args : Array Value) : laidMetH Tryd.prog Rows.relexFullRow.laid ((lexW os).forCall (fun _ _ => 0) ⟨#[], args, []⟩).memory := by
 rw [MakeChecks.laidMetH_plain _ _ _ (by kernel_rfl)]
 have h : laidMet Tryd.prog Rows.relexFullRow.laid (lexW os) :=
  laidMet_layVars (w0 := World.doorLaid Tryd.prog 4000 os) ["unicode/utf8.first"] (lexB os) rfl (by kernel_rfl) (by kernel_rfl)
   (LaidIn.of_run (lexB os) 8 (by kernel_rfl) (by kernel_rfl) (by kernel_rfl) (by kernel_rfl))
 exact h.of_heap (by simp [World.memory, World.forCall, Input.heap])
end Go.Proofs.YtlkmlfofhbekoaaDoor
