/- What the proof of the statement leans on (part 19). -/
import Derived.Lib.LaidU8
import Derived.LaidLaws
import Derived.LaidMore
import Derived.OpenShut
import Derived.Stop.Joined
import Derived.ChangeMaps5
import Derived.Lay
import Derived.Lib.LaidIn
import Derived.Test.YteicdopggikieaaDoorQr

namespace Go.Proofs.YteicdopggikieaaDoor
open Go Go.Lw Go.ChangeShapes Go.WideShapes Go.ChangeAt Go.RowKit
set_option maxRecDepth 100000
theorem names_data : (Rows.laid_limner_macros_names : DataW Unit) = .agg (namesL.map fun s => .lit (.string s)) := by kernel_rfl
theorem err_of {W : World} {n : String} {g : Nat} {nm : String} {d : DataW Unit} (hn : Tryd.prog.globalNamed n = some g) (ht : (Tryd.prog.globals[g]?).map (·.type) = some 87) (h : Lib.VarReads Tryd.prog W n (.iface nm d)) : ErrAt W.heap g := by
 obtain ⟨g', t, cs, fuel, p, hg, hty, hvar, hd⟩ := h
 obtain rfl := Option.some.inj (hn.symm.trans hg)
 obtain rfl := Option.some.inj (ht.symm.trans hty)
 obtain ⟨f1, u, v, e1, _, _⟩ := iface_of_trod Tryd.underlying87 hd
 have hc := World.var?_cell hg hvar 0
 obtain ⟨l5⟩ := cs
 simp only at e1
 subst e1
 exact ⟨_, hc, .inr ⟨u, v, rfl⟩⟩
theorem lex_glob {W : World} (hL : laidMetH Tryd.prog Rows.macrosNameRow.laid W) (hS : W.ShapedOpen Tryd.prog) : MacG W.heap := by
 rw [MakeChecks.laidMetH_plain _ _ _ (by kernel_rfl)] at hL
 have h1 := Lib.laidMet.reads hL (n := "math/bits.deBruijn64tab") (.tail _ (.head _))
 have h4 := Lib.laidMet.reads hL (n := "strconv.ErrRange") (.tail _ (.tail _ (.tail _ (.tail _ (.head _)))))
 have h5 := Lib.laidMet.reads hL (n := "strconv.ErrSyntax") (.tail _ (.tail _ (.tail _ (.tail _ (.tail _ (.head _))))))
 have h6 := Lib.laidMet.reads hL (n := "limner/macros.names") (.tail _ (.tail _ (.tail _ (.tail _ (.tail _ (.tail _ (.head _)))))))
 rw [names_data] at h6
 refine ⟨⟨?_, err_of (by kernel_rfl) (by kernel_rfl) h5, err_of (by kernel_rfl) (by kernel_rfl) h4,
  int_of_shape (t := 3) (k := .i64) (zero := #[.int .i64 0]) hS (by decide +kernel) (by kernel_rfl) rfl (by kernel_rfl) (by kernel_rfl) Tryd.underlying3⟩, fun n hn => ?_⟩
 · obtain ⟨g, t, cs, fuel, p, hg, hty, hvar, hd⟩ := h1
   obtain rfl := Option.some.inj ((show Tryd.prog.globalNamed "math/bits.deBruijn64tab" = some 8 by kernel_rfl).symm.trans hg)
   obtain rfl := Option.some.inj ((show (Tryd.prog.globals[8]?).map (·.type) = some 143 by kernel_rfl).symm.trans hty)
   obtain ⟨fuel', d, q, hdi, he⟩ := Lib.array_elem Tryd.underlying143 hd 15 (by decide)
   have hdi : d = .lit (.int .u8 4) := (Option.some.inj hdi).symm
   subst hdi
   have c1 : Tryd.prog.cellsOf 5 = 1 := by kernel_rfl
   rw [c1] at he
   have hv := trod_int_lit Tryd.underlying5 he
   have e0 := congrArg (·[0]?) hv
   simp only [List.getElem?_take, List.getElem?_drop] at e0
   show cellAt W.heap _ = _
   rw [← cell_heap, World.var?_cell hg hvar 15, ← Array.getElem?_toList]
   simpa using e0
 · obtain ⟨g, t, cs, fuel, p, hg, hty, hvar, hd⟩ := h6
   obtain rfl := Option.some.inj ((show Tryd.prog.globalNamed "limner/macros.names" = some 0 by kernel_rfl).symm.trans hg)
   obtain rfl := Option.some.inj ((show (Tryd.prog.globals[0]?).map (·.type) = some 64 by kernel_rfl).symm.trans hty)
   obtain ⟨fuel', d, q, hdi, he⟩ := Lib.array_elem Tryd.underlying64 hd n hn
   have hdi : d = .lit (.string (namesL.getD n [])) := by
    rw [List.getElem?_map, List.getElem?_eq_getElem (show n < namesL.length from hn)] at hdi
    rw [List.getD_eq_getElem?_getD, List.getElem?_eq_getElem (show n < namesL.length from hn)]
    exact (Option.some.inj hdi).symm
   subst hdi
   have c1 : Tryd.prog.cellsOf 9 = 1 := by kernel_rfl
   rw [c1] at he
   have hv := trod_str_lit Tryd.underlying9 he
   have e0 := congrArg (·[0]?) hv
   simp only [List.getElem?_take, List.getElem?_drop] at e0
   rw [← cell_heap, World.var?_cell hg hvar n, ← Array.getElem?_toList]
   show _ = some (Value.string ⟨(namesL.getD n []).toArray⟩)
   simpa using e0
theorem own : ownKnob Tryd.prog.godebug = none := by kernel_rfl
theorem laidOut : laidOutB Tryd.prog = true := by kernel_rfl
noncomputable def lexW (os : Os) : World := (World.doorLaid Tryd.prog 4000 os).layVars Tryd.prog (Rows.macrosNameRow.laid.filter fun x => ["unicode/utf8.first"].contains x.1)
theorem lexW_os (os : Os) : (lexW os).os = os := by unfold lexW; rw [World.layVars_os]; rfl
noncomputable def lexB (os : Os) : List Nat := (List.range (World.doorLaid Tryd.prog 4000 os).heap.size).filter fun x => x != 5
theorem lex_met (os : Os) (args : Array Value) : laidMetH Tryd.prog Rows.macrosNameRow.laid ((lexW os).forCall (fun _ _ => 0) ⟨#[], args, []⟩).memory := by
 rw [MakeChecks.laidMetH_plain _ _ _ (by kernel_rfl)]
 have h : laidMet Tryd.prog Rows.macrosNameRow.laid (lexW os) :=
  laidMet_layVars (w0 := World.doorLaid Tryd.prog 4000 os) ["unicode/utf8.first"] (lexB os) rfl (by kernel_rfl) (by kernel_rfl)
   (LaidIn.of_run (lexB os) 8 (by kernel_rfl) (by kernel_rfl) (by kernel_rfl) (by kernel_rfl))
 exact h.of_heap (by simp [World.memory, World.forCall, Input.heap])
theorem fieldsA : Tryd.prog.underlying 54 = some (.struct (Tryd.prog.fieldsOf 54)) := by kernel_rfl
theorem ky_of {H : Type} {enc : TypeId × Value → H} {W : World} {sp : Nat → Bool} {held : Bool} {c0 c1 c2 : Value} {n : Nat} {y0 y1 y2} (h0 : DataW.trod enc Tryd.prog W 0 sp held n 3 [c0] = some y0) (h1 : DataW.trod enc Tryd.prog W 0 sp held n 21 [c1] = some y1) (h2 : DataW.trod enc Tryd.prog W 0 sp held n 9 [c2] = some y2) :
 ∃ k : Ky, [c0, c1, c2] = encKy k ∧ R32 k.2.1 := by
 obtain ⟨n0, e0, _, w0⟩ := DataW.trod_int Tryd.underlying3 h0
 obtain ⟨n1, e1, _, w1⟩ := DataW.trod_int Tryd.underlying21 h1
 obtain ⟨n2, e2, _, w2⟩ := DataW.trod_string Tryd.underlying9 h2
 simp at e0 e1 e2
 subst e0 e1 e2
 have r1 : -2147483648 ≤ n1 ∧ n1 ≤ 2147483647 := by simpa [Lit.wf, IntKind.min, IntKind.max, IntKind.signed, IntKind.bits] using w1
 exact ⟨(n0, n1, n2.data.toList), by simp [encKy, bs_of], ⟨r1.1, by show n1 < 2147483648; omega⟩⟩
theorem ac_of {H : Type} {enc : TypeId × Value → H} {W : World} {sp : Nat → Bool} {held : Bool} {cs : List Value} {n : Nat} (hl : cs.length = 6)
 (hf : ∀ (i : Nat) (f : Field), (Tryd.prog.fieldsOf 54)[i]? = some f → ∃ z, DataW.trod enc Tryd.prog W 0 sp held n f.type ((cs.drop f.offset).take (Tryd.prog.cellsOf f.type)) = some z) : ∃ a : Ac, cs = encAc a := by
 match cs, hl with
 | [c0, c1, c2, c3, c4, c5], _ =>
  have q8 : Tryd.prog.cellsOf 5 = 1 := by kernel_rfl
  have q32 : Tryd.prog.cellsOf 21 = 1 := by kernel_rfl
  have q64 : Tryd.prog.cellsOf 3 = 1 := by kernel_rfl
  have qs : Tryd.prog.cellsOf 9 = 1 := by kernel_rfl
  have qk : Tryd.prog.cellsOf 27 = 3 := by kernel_rfl
  obtain ⟨y0, h0⟩ := hf 0 _ rfl
  obtain ⟨y1, h1⟩ := hf 1 _ rfl
  obtain ⟨y2, h2⟩ := hf 2 _ rfl
  obtain ⟨y3, h3⟩ := hf 3 _ rfl
  have h0 : DataW.trod enc Tryd.prog W 0 sp held n 5 [c0] = some y0 := h0
  have h1 : DataW.trod enc Tryd.prog W 0 sp held n 21 [c1] = some y1 := h1
  have h2 : DataW.trod enc Tryd.prog W 0 sp held n 3 [c2] = some y2 := h2
  have h3 : DataW.trod enc Tryd.prog W 0 sp held n 27 [c3, c4, c5] = some y3 := h3
  obtain ⟨k, hk⟩ := trod_fields fieldsK h3
  obtain ⟨z0, g0⟩ := hk 0 _ rfl
  obtain ⟨z1, g1⟩ := hk 1 _ rfl
  obtain ⟨z2, g2⟩ := hk 2 _ rfl
  obtain ⟨x, hx, _⟩ := ky_of (show DataW.trod enc Tryd.prog W 0 sp held k 3 [c3] = some z0 from g0) (show DataW.trod enc Tryd.prog W 0 sp held k 21 [c4] = some z1 from g1) (show DataW.trod enc Tryd.prog W 0 sp held k 9 [c5] = some z2 from g2)
  obtain ⟨n0, e0, _, _⟩ := DataW.trod_int Tryd.underlying5 h0
  obtain ⟨n1, e1, _, _⟩ := DataW.trod_int Tryd.underlying21 h1
  obtain ⟨n2, e2, _, _⟩ := DataW.trod_int Tryd.underlying3 h2
  simp at e0 e1 e2
  subst e0 e1 e2
  exact ⟨(n0, n1, n2, x), by rw [hx]; rfl⟩
theorem read_acts {H : Type} {enc : TypeId × Value → H} {W : World} {base : Nat} {v : Value} {d : DataW H} {p : List MemPlace} (hv : Value.okWide Tryd.prog W .any base 48 v) (h : DataW.Trod enc Tryd.prog W 0 (fun _ => true) true 48 v d p) :
 ∃ l : List Ac, SlR eAc W.heap (fun _ => False) v l := by
 obtain ⟨l, hl, _⟩ := read_deeps (Q := fun _ => True) (pos := (by decide : 0 < 6)) (hl := fun a => (rfl : (encAc a).length = 6)) (h1 := ac_one) (fs := Tryd.prog.fieldsOf 54) Tryd.underlying48 fieldsA (by kernel_rfl) (fun cs n hl hf => (ac_of hl hf).imp fun _ q => ⟨q, trivial⟩) hv h
 exact ⟨l, hl⟩
end Go.Proofs.YteicdopggikieaaDoor
