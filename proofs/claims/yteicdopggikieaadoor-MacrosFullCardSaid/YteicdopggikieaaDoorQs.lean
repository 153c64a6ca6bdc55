/- What the proof of the statement leans on (part 19). -/
import Derived.Deep.Fields
import Derived.Lib.LaidU8
import Derived.LaidLaws
import Derived.LaidMore
import Derived.OpenShut
import Derived.Stop.Joined
import Derived.ChangeMaps5
import Derived.Lay
import Derived.Lib.LaidIn
import Derived.Test.YteicdopggikieaaDoorQr

namespace Go.Proofs.YteicdopggikieaaDoor
open Go Go.Lw Go.ChangeShapes Go.WideShapes Go.ChangeAt Go.RowKit
set_option maxRecDepth 100000
theorem names_data : (Rows.laid_limner_macros_names : DataW Unit) = .agg (namesL.map fun s => .lit (.string s)) := by kernel_rfl
theorem err_of {W : World} {n : String} {g : Nat} {nm : String} {d : DataW Unit} (hn : Tryd.prog.globalNamed n = some g) (ht : (Tryd.prog.globals[g]?).map (·.type) = some 87) (h : Lib.VarReads Tryd.prog W n (.iface nm d)) : ErrAt W.heap g := by
 obtain ⟨g', t, cs, fuel, p, hg, hty, hvar, hd⟩ := h
 obtain rfl := Option.some.inj (hn.symm.trans hg)
 obtain rfl := Option.some.inj (ht.symm.trans hty)
 obtain ⟨f1, u, v, e1, _, _⟩ := iface_of_trod Tryd.underlying87 hd
 have hc := World.var?_cell hg hvar 0
 obtain ⟨l5⟩ := cs
 simp only at e1
 subst e1
 exact ⟨_, hc, .inr ⟨u, v, rfl⟩⟩
theorem lex_glob {W : World} (hL : laidMetH Tryd.prog Rows.macrosNameRow.laid W) (hS : W.ShapedOpen Tryd.prog) : MacG W.heap := by
 rw [MakeChecks.laidMetH_plain _ _ _ (by kernel_rfl)] at hL
 have h1 := Lib.laidMet.reads hL (n := "math/bits.deBruijn64tab") (.tail _ (.head _))
 have h4 := Lib.laidMet.reads hL (n := "strconv.ErrRange") (.tail _ (.tail _ (.tail _ (.tail _ (.head _)))))
 have h5 := Lib.laidMet.reads hL (n := "strconv.ErrSyntax") (.tail _ (.tail _ (.tail _ (.tail _ (.tail _ (.head _))))))
 have h6 := Lib.laidMet.reads hL (n := "limner/macros.names") (.tail _ (.tail _ (.tail _ (.tail _ (.tail _ (.tail _ (.head _)))))))
 rw [names_data] at h6
 refine ⟨⟨?_, err_of (by kernel_rfl) (by kernel_rfl) h5, err_of (by kernel_rfl) (by kernel_rfl) h4,
  int_of_shape (t := 3) (k := .i64) (zero := #[.int .i64 0]) hS (by decide +kernel) (by kernel_rfl) rfl (by kernel_rfl) (by kernel_rfl) Tryd.underlying3⟩, fun n hn => ?_⟩
 · obtain ⟨g, t, cs, fuel, p, hg, hty, hvar, hd⟩ := h1
   obtain rfl := Option.some.inj ((show Tryd.prog.globalNamed "math/bits.deBruijn64tab" = some 8 by kernel_rfl).symm.trans hg)
   obtain rfl := Option.some.inj ((show (Tryd.prog.globals[8]?).map (·.type) = some 143 by kernel_rfl).symm.trans hty)
   obtain ⟨fuel', d, q, hdi, he⟩ := Lib.array_elem Tryd.underlying143 hd 15 (by decide)
   have hdi : d = .lit (.int .u8 4) := (Option.some.inj hdi).symm
   subst hdi
   have c1 : Tryd.prog.cellsOf 5 = 1 := by kernel_rfl
   rw [c1] at he
   have hv := trod_int_lit Tryd.underlying5 he
   have e0 := congrArg (·[0]?) hv
   simp only [List.getElem?_take, List.getElem?_drop] at e0
   show cellAt W.heap _ = _
   rw [← cell_heap, World.var?_cell hg hvar 15, ← Array.getElem?_toList]
   simpa using e0
 · obtain ⟨g, t, cs, fuel, p, hg, hty, hvar, hd⟩ := h6
   obtain rfl := Option.some.inj ((show Tryd.prog.globalNamed "limner/macros.names" = some 0 by kernel_rfl).symm.trans hg)
   obtain rfl := Option.some.inj ((show (Tryd.prog.globals[0]?).map (·.type) = some 64 by kernel_rfl).symm.trans hty)
   obtain ⟨fuel', d, q, hdi, he⟩ := Lib.array_elem Tryd.underlying64 hd n hn
   have hdi : d = .lit (.string (namesL.getD n [])) := by
    rw [List.getElem?_map, List.getElem?_eq_getElem (show n < namesL.length from hn)] at hdi
    rw [List.getD_eq_getElem?_getD, List.getElem?_eq_getElem (show n < namesL.length from hn)]
    exact (Option.some.inj hdi).symm
   subst hdi
   have c1 : Tryd.prog.cellsOf 9 = 1 := by kernel_rfl
   rw [c1] at he
   have hv := trod_str_lit Tryd.underlying9 he
   have e0 := congrArg (·[0]?) hv
   simp only [List.getElem?_take, List.getElem?_drop] at e0
   rw [← cell_heap, World.var?_cell hg hvar n, ← Array.getElem?_toList]
   show _ = some (Value.string ⟨(namesL.getD n []).toArray⟩)
   simpa using e0
theorem own : ownKnob Tryd.prog.godebug = none := by kernel_rfl
theorem laidOut : laidOutB Tryd.prog = true := by kernel_rfl
noncomputable def lexW (os : Os) : World := (World.doorLaid Tryd.prog 4000 os).layVars Tryd.prog (Rows.macrosNameRow.laid.filter fun x => ["unicode/utf8.first"].contains x.1)
theorem lexW_os (os : Os) : (lexW os).os = os := by unfold lexW; rw [World.layVars_os]; rfl
noncomputable def lexB (os : Os) : List Nat := (List.range (World.doorLaid Tryd.prog 4000 os).heap.size).filter fun x => x != 5
theorem lex_met (os : Os) (args : Array Value) : laidMetH Tryd.prog Rows.macrosNameRow.laid ((lexW os).forCall (fun _ _ => 0) ⟨#[], args, []⟩).memory := by
 rw [MakeChecks.laidMetH_plain _ _ _ (by kernel_rfl)]
 have h : laidMet Tryd.prog Rows.macrosNameRow.laid (lexW os) :=
  laidMet_layVars (w0 := World.doorLaid Tryd.prog 4000 os) ["unicode/utf8.first"] (lexB os) rfl (by kernel_rfl) (by kernel_rfl)
   (LaidIn.of_run (lexB os) 8 (by kernel_rfl) (by kernel_rfl) (by kernel_rfl) (by kernel_rfl))
 exact h.of_heap (by simp [World.memory, World.forCall, Input.heap])
end Go.Proofs.YteicdopggikieaaDoor
