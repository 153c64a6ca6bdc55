/- Plain words, the logic of walks, and walks that the statement's proof leans on (part 25). -/
import Derived.Lib.LaidU8
import Derived.Deep.Fields
import Derived.Test.YtlkmlfofhbekoaaDoorQa
import Derived.Test.YtlkmlfofhbekoaaDoorQb
import Derived.Test.YtlkmlfofhbekoaaDoorQc
import Derived.Test.YtlkmlfofhbekoaaDoorQd
import Derived.Test.YtlkmlfofhbekoaaDoorQe
import Derived.Test.YtlkmlfofhbekoaaDoorQf
import Derived.Test.YtlkmlfofhbekoaaDoorQg
import Derived.Test.YtlkmlfofhbekoaaDoorQh
import Derived.Test.YtlkmlfofhbekoaaDoorQi
import Derived.Test.YtlkmlfofhbekoaaDoorQj
import Derived.Test.YtlkmlfofhbekoaaDoorQk
import Derived.Test.YtlkmlfofhbekoaaDoorQl
import Derived.Test.YtlkmlfofhbekoaaDoorQm
import Derived.Test.YtlkmlfofhbekoaaDoorQn
import Derived.Test.YtlkmlfofhbekoaaDoorQo
import Derived.Test.YtlkmlfofhbekoaaDoorQp
import Derived.Test.YtlkmlfofhbekoaaDoorQq
import Derived.Test.YtlkmlfofhbekoaaDoorQr
import Derived.Test.YtlkmlfofhbekoaaDoorQs
import Derived.Test.YtlkmlfofhbekoaaDoorQt
import Derived.Test.YtlkmlfofhbekoaaDoorQu
import Derived.Test.YtlkmlfofhbekoaaDoorQv
import Derived.Test.YtlkmlfofhbekoaaDoorQw
import Derived.Test.YtlkmlfofhbekoaaDoorQx

namespace Go.Proofs.YtlkmlfofhbekoaaDoor
open Go Go.Lw Go.ChangeShapes Go.WideShapes Go.ChangeAt Go.RowKit
set_option maxRecDepth 100000
theorem first_eq : Go.Pinned.utf8First = Lib.firstData := by kernel_rfl
theorem table_data : (Rows.laid_limner_rules_table : DataW Unit) = .agg [.slice ((tabR 0).map dataSII) [], .slice ((tabR 1).map dataSII) [], .slice ((tabR 2).map dataSII) []] := by kernel_rfl
theorem accept_data : (Rows.laid_unicode_utf8_acceptRanges : DataW Unit) = Lib.acceptData := by kernel_rfl
theorem utf8H_of {W : World} (h3 : Lib.VarReads Tryd.prog W "unicode/utf8.first" Lib.firstData) (h4 : Lib.VarReads Tryd.prog W "unicode/utf8.acceptRanges" Lib.acceptData) : Utf8H W.heap := by
 refine ⟨fun c hc => ?_, fun i hi => ?_⟩
 · obtain ⟨g, t, cs, fuel, p, hg, hty, hvar, hd⟩ := h3
   obtain rfl := Option.some.inj ((show Tryd.prog.globalNamed "unicode/utf8.first" = some 1 by kernel_rfl).symm.trans hg)
   obtain rfl := Option.some.inj ((show (Tryd.prog.globals[1]?).map (·.type) = some 161 by kernel_rfl).symm.trans hty)
   have hcs := Lib.cells_of_tab Tryd.underlying161 Tryd.underlying5 (by kernel_rfl) (by kernel_rfl) hd
   have := World.var?_cell hg hvar c
   rw [← cell_heap, this, ← Array.getElem?_toList, hcs]
   simp [Lib.firstTab, hc]
 · obtain ⟨g, t, cs, fuel, p, hg, hty, hvar, hd⟩ := h4
   obtain rfl := Option.some.inj ((show Tryd.prog.globalNamed "unicode/utf8.acceptRanges" = some 2 by kernel_rfl).symm.trans hg)
   obtain rfl := Option.some.inj ((show (Tryd.prog.globals[2]?).map (·.type) = some 164 by kernel_rfl).symm.trans hty)
   obtain ⟨fuel', d, q, hdi, he⟩ := Lib.array_elem Tryd.underlying164 hd i hi
   simp only [List.getElem?_map, List.getElem?_range hi, Option.map_some, Option.some.injEq] at hdi
   subst hdi
   have c2 : Tryd.prog.cellsOf 163 = 2 := by kernel_rfl
   have c1 : Tryd.prog.cellsOf 5 = 1 := by kernel_rfl
   rw [c2] at he
   have hcs := Lib.ints_of_struct Tryd.underlying163 (fun j f hj => by
    match j, hj with
    | 0, hj => simp at hj; subst hj; exact ⟨Tryd.underlying5, rfl, c1⟩
    | 1, hj => simp at hj; subst hj; exact ⟨Tryd.underlying5, rfl, c1⟩
    | j + 2, hj => simp at hj) (by rw [c2]; rfl) he
   have e0 := congrArg (·[0]?) hcs
   have e1 := congrArg (·[1]?) hcs
   simp only [List.getElem?_take, List.getElem?_drop] at e0 e1
   constructor
   · rw [← cell_heap, World.var?_cell hg hvar (2 * i), ← Array.getElem?_toList]
     simpa [Nat.mul_comm] using e0
   · rw [← cell_heap, World.var?_cell hg hvar (2 * i + 1), ← Array.getElem?_toList]
     simpa [Nat.mul_comm] using e1
theorem rules_of {W : World} (h : Lib.VarReads Tryd.prog W "limner/rules.table" (.agg [.slice ((tabR 0).map dataSII) [], .slice ((tabR 1).map dataSII) [], .slice ((tabR 2).map dataSII) []])) : RulesAt W.heap := by
 intro m hm
 obtain ⟨g, t, cs, fuel, p, hg, hty, hvar, hd⟩ := h
 obtain rfl := Option.some.inj ((show Tryd.prog.globalNamed "limner/rules.table" = some 0 by kernel_rfl).symm.trans hg)
 obtain rfl := Option.some.inj ((show (Tryd.prog.globals[0]?).map (·.type) = some 100 by kernel_rfl).symm.trans hty)
 obtain ⟨fuel', d, q, hdi, he⟩ := Lib.array_elem Tryd.underlying100 hd m hm
 have hdm : d = .slice ((tabR m).map dataSII) [] := by
  match m, hm with
  | 0, _ => exact (Option.some.inj hdi).symm
  | 1, _ => exact (Option.some.inj hdi).symm
  | 2, _ => exact (Option.some.inj hdi).symm
 subst hdm
 have c1 : Tryd.prog.cellsOf 97 = 1 := by kernel_rfl
 rw [c1] at he
 obtain ⟨v, hv, hs⟩ := laid_recs Tryd.underlying97 Tryd.underlying99 (by kernel_rfl) rfl rfl rfl Tryd.underlying9 Tryd.underlying3 Tryd.underlying3 (by kernel_rfl) (by kernel_rfl) (by kernel_rfl) he
 refine ⟨v, ?_, hs⟩
 have e0 := congrArg (·[0]?) hv
 simp only [List.getElem?_take, List.getElem?_drop] at e0
 rw [← cell_heap, World.var?_cell hg hvar m, ← Array.getElem?_toList]
 simpa using e0
theorem lex_glob {W : World} (hL : laidMetH Tryd.prog Rows.relexFullRow.laid W) (hS : W.ShapedOpen Tryd.prog) : LxG W.heap := by
 rw [MakeChecks.laidMetH_plain _ _ _ (by kernel_rfl)] at hL
 obtain ⟨g2, t2, cs2, f2, p2, hg2, ht2, hv2, hd2⟩ := Lib.laidMet.reads hL (n := "internal/strconv.uint64pow10") (.tail _ (.tail _ (.head _)))
 have h3 := Lib.laidMet.reads hL (n := "unicode/utf8.acceptRanges") (.tail _ (.tail _ (.tail _ (.head _))))
 obtain ⟨g4, t4, cs4, f4, p4, hg4, ht4, hv4, hd4⟩ := Lib.laidMet.reads hL (n := "limner/regs.signs") (.tail _ (.tail _ (.tail _ (.tail _ (.head _)))))
 have h5 := Lib.laidMet.reads hL (n := "limner/rules.table") (.tail _ (.tail _ (.tail _ (.tail _ (.tail _ (.head _))))))
 have h6 := Lib.laidMet.reads hL (n := "unicode/utf8.first") (.tail _ (.tail _ (.tail _ (.tail _ (.tail _ (.tail _ (.head _)))))))
 have h6' : Lib.VarReads Tryd.prog W "unicode/utf8.first" Lib.firstData := by rw [← first_eq]; exact h6
 rw [accept_data] at h3
 rw [table_data] at h5
 exact ⟨⟨_, Nat.le_refl _, signs_of hg4 ht4 hv4 hd4⟩, tens_of hg2 ht2 hv2 hd2, rules_of h5, utf8H_of h6' h3,
  int_of_shape (t := 3) (k := .i64) (zero := #[.int .i64 0]) hS (by decide +kernel) (by kernel_rfl) rfl (by kernel_rfl) (by kernel_rfl) Tryd.underlying3⟩
end Go.Proofs.YtlkmlfofhbekoaaDoor
namespace Go.Lw
open Go.ChangeShapes Go.WideShapes Go.ChangeAt Go.RowKit
variable {H : Type} {enc : TypeId × Value → H} {P : Program}
theorem read_rec {W : World} {base : Nat} {t : TypeId} {fs : Array Field} {v : Value} {d : DataW H} {p : List MemPlace} {sp : Nat → Bool} {held : Bool} (ht : P.underlying t = some (.struct fs))
 (hone : ∀ (i : Nat) (f : Field), fs[i]? = some f → f.offset = i ∧ P.cellsOf f.type = 1) (hv : Value.okWide P W .any base t v) (h : DataW.Trod enc P W 0 sp held t v d p) :
 ∃ cs n, v = .agg cs ∧ cs.size = P.cellsOf t ∧ ∀ (i : Nat) (f : Field) (u : Value), fs[i]? = some f → cs[i]? = some u → ∃ y, DataW.trod enc P W 0 sp held n f.type [u] = some y := by
 unfold Value.okWide at hv
 rw [ht] at hv
 obtain ⟨cs, rfl, hs, _⟩ := hv
 obtain ⟨fuel, hf⟩ := h
 obtain ⟨xs, k, _, _, hcl, hxl, hfl⟩ := DataW.trod_struct ht hf
 refine ⟨cs, k, rfl, hs, fun j f u hj hu => ?_⟩
 have g := hfl j f hj
 obtain ⟨ho, hc⟩ := hone j f hj
 have hjs : j < fs.size := (Array.getElem?_eq_some_iff.1 hj).1
 have hu' : cs.toList[j]? = some u := by rw [Array.getElem?_toList]; exact hu
 have hcl' : (Value.agg cs).cells.toList = cs.toList := rfl
 have hjl : j < cs.toList.length := (List.getElem?_eq_some_iff.1 hu').1
 have hd : ((Value.agg cs).cells.toList.drop f.offset).take (P.cellsOf f.type) = [u] := by
  rw [hcl', ho, hc, List.drop_eq_getElem_cons hjl]
  have : cs.toList[j] = u := by rw [List.getElem?_eq_getElem hjl] at hu'; exact Option.some.inj hu'
  simp [this]
 rw [hd, List.getElem?_eq_getElem (by omega)] at g
 exact ⟨_, g⟩
end Go.Lw
namespace Go.Proofs.YtlkmlfofhbekoaaDoor
open Go Go.Lw Go.ChangeShapes Go.WideShapes Go.ChangeAt Go.RowKit
set_option maxRecDepth 100000
noncomputable def lexW (os : Os) : World := (World.doorLaid Tryd.prog 4000 os).layVars Tryd.prog (Rows.relexFullRow.laid.filter fun x => ["unicode/utf8.first"].contains x.1)
theorem lexW_os (os : Os) : (lexW os).os = os := by unfold lexW; rw [World.layVars_os]; rfl
noncomputable def lexB (os : Os) : List Nat := (List.range (World.doorLaid Tryd.prog 4000 os).heap.size).filter fun x => x != 1
theorem lex_met (os : Os) (args : Array Value) : laidMetH Tryd.prog Rows.relexFullRow.laid ((lexW os).forCall (fun _ _ => 0) ⟨#[], args, []⟩).memory := by
 rw [MakeChecks.laidMetH_plain _ _ _ (by kernel_rfl)]
 have h : laidMet Tryd.prog Rows.relexFullRow.laid (lexW os) :=
  laidMet_layVars (w0 := World.doorLaid Tryd.prog 4000 os) ["unicode/utf8.first"] (lexB os) rfl (by kernel_rfl) (by kernel_rfl)
   (LaidIn.of_run (lexB os) 8 (by kernel_rfl) (by kernel_rfl) (by kernel_rfl) (by kernel_rfl))
 exact h.of_heap (by simp [World.memory, World.forCall, Input.heap])
theorem fieldsA : Tryd.prog.underlying 43 = some (.struct (Tryd.prog.fieldsOf 43)) := by kernel_rfl
theorem act_of {H : Type} {enc : TypeId × Value → H} {W : World} {sp : Nat → Bool} {held : Bool} {c0 c1 c2 : Value} {n : Nat} {y0 y1 y2} (h0 : DataW.trod enc Tryd.prog W 0 sp held n 3 [c0] = some y0) (h1 : DataW.trod enc Tryd.prog W 0 sp held n 3 [c1] = some y1) (h2 : DataW.trod enc Tryd.prog W 0 sp held n 9 [c2] = some y2) :
 ∃ a : Ac, [c0, c1, c2] = encAc a := by
 obtain ⟨n0, e0, _, w0⟩ := DataW.trod_int Tryd.underlying3 h0
 obtain ⟨n1, e1, _, w1⟩ := DataW.trod_int Tryd.underlying3 h1
 obtain ⟨n2, e2, _, w2⟩ := DataW.trod_string Tryd.underlying9 h2
 simp at e0 e1 e2
 subst e0 e1 e2
 exact ⟨(n0, n1, n2.data.toList), by simp [encAc, bs_of]⟩
theorem read_act {H : Type} {enc : TypeId × Value → H} {W : World} {base : Nat} {v : Value} {d : DataW H} {p : List MemPlace} {sp : Nat → Bool} {held : Bool} (hv : Value.okWide Tryd.prog W .any base 43 v) (h : DataW.Trod enc Tryd.prog W 0 sp held 43 v d p) : ∃ a : Ac, v = .agg (encAc a).toArray := by
 obtain ⟨cs, n, rfl, hs, hf⟩ := read_rec fieldsA (Deep.hone_of (by kernel_rfl)) hv h
 have hs : cs.size = 3 := hs
 obtain ⟨l⟩ := cs
 match l, hs with
 | [c0, c1, c2], _ =>
  obtain ⟨y0, h0⟩ := hf 0 _ c0 rfl rfl
  obtain ⟨y1, h1⟩ := hf 1 _ c1 rfl rfl
  obtain ⟨y2, h2⟩ := hf 2 _ c2 rfl rfl
  obtain ⟨a, ha⟩ := act_of h0 h1 h2
  exact ⟨a, by rw [ha]⟩
end Go.Proofs.YtlkmlfofhbekoaaDoor
namespace Go.Proofs.YtlkmlfofhbekoaaDoor
open Go Go.Lw
set_option maxRecDepth 20000
theorem lnone_zero {h : Heap} {lb : Nat} (hk : Blk h lb 55 [.slice none 0 0]) : CallsH Tryd.prog 46 #[.pointer (some ⟨lb, 0, none⟩)] h (Ret fun r h' => r = .bool true ∧ h' = h) := by
 refine CallsH.of Tryd.func46 rfl rfl ?_
 refine xrd Tryd.func46 1 [0, 2] rfl ?_
 refine G.seq rfl ?_
 refine G.regTo1 [(2, .bool true)] [(0, _)] ⟨rfl, trivial⟩ Tryd.func46 rfl ?_ ?_
 · refine xqp 1 rfl rfl (OpP.eqlNil Tryd.underlying25 rfl rfl) ?_
   refine xqm 1 rfl ?_
   refine RW.know (d := 5) (b' := false) rfl (rfl) ?_
   refine xqp 2 rfl rfl (OpP.fieldAddr (off := 0) Tryd.underlying55 rfl rfl H.sz53 rfl) ?_
   refine xp rfl (OpP.load H.ag53 rfl (hk.cell (i := 0) rfl)) ?_
   refine xp rfl (OpP.lenSlice Tryd.underlying53 rfl) ?_
   refine xqm 3 rfl ?_
   refine RW.done rfl ?_
   exact ⟨rfl, at_bool rfl (rfl), rfl, trivial⟩
 · refine G.ret Tryd.func46 rfl rfl ?_
   exact ⟨_, rfl, rfl, rfl⟩
theorem docNewN_calls {h : Heap} {lb : Nat} (kL : Blk h lb 55 [.slice none 0 0]) (s : By) (hs : s.length ≤ 16384) :
 CallsH Tryd.prog 7 #[.pointer (some ⟨lb, 0, none⟩), .string (bs s)] h (Ret fun r h' => (∃ b tv sv pv m, r = .pointer (some ⟨b, 0, none⟩) ∧ Blk h' b 52 (docC (.pointer (some ⟨lb, 0, none⟩)) s tv sv (0, 0) pv m) ∧ SlR eTk h' (fun y => y = b) tv []) ∧ Ext0 h h') := by
 have hbs := bs_size s
 have hlb := kL.lt
 refine CallsH.of Tryd.func7 rfl rfl ?_
 refine xrd Tryd.func7 1 [0, 1, 4] rfl ?_
 refine G.seq rfl ?_
 refine G.seq rfl ?_
 refine G.regTo1 [(12, .bool false)] [(0, _), (1, _), (4, _)] ⟨rfl, rfl, rfl, trivial⟩ Tryd.func7 rfl ?_ ?_
 · refine xqp 1 rfl rfl (OpP.eqlNil Tryd.underlying25 rfl rfl) ?_
   refine xqm 1 rfl ?_
   refine RW.know (d := 8) (b' := false) rfl (rfl) ?_
   refine xqp 1 rfl rfl (OpP.lenString Tryd.underlying9 rfl) ?_
   refine xqm 2 rfl ?_
   refine RW.done rfl ?_
   exact ⟨rfl, at_bool rfl (by simp [hbs]; omega), rfl, rfl, rfl, trivial⟩
 · refine G.cond rfl rfl (fun hc => absurd hc (by decide)) (fun _ => ?_)
   refine G.skip rfl ?_
   refine xra Tryd.func7 1 rfl ?_
   refine xp rfl (OpP.build (H.bd61_ ) rfl) ?_
   refine xo rfl (OpX.buildRec (cs := [_, _, _]) Tryd.underlying48 H.el61 rfl rfl (by decide)) ?_
   rintro _ h1 ⟨rfl, hh1⟩
   refine xp rfl (OpP.build (H.bd52_0_5 _ _ _ _) rfl) ?_
   refine xo rfl (OpX.boxN rfl) ?_
   rintro _ h2 ⟨rfl, k2, e2, z2⟩
   have e1 : Ext0 h h1 := by rw [hh1]; exact Ext.push _ _ _
   have z1 : h1.size = h.size + 1 := by rw [hh1]; simp
   have ho1 : OwR 3 encPt h1 h.size 61 (.slice (some ⟨h.size, 0, none⟩) 1 1) [(0, (0, 0))] := by rw [hh1]; exact OwR.made1 (fun _ => rfl) h ((0, (0, 0)) : Pt) 61 h.size (Nat.le_refl _) rfl
   have ho2 := ho1.ext0 e2
   have hp : SlR ePt h2 (fun y => y = h1.size) (.slice (some ⟨h.size, 0, none⟩) 1 1) [(0, (0, 0))] := OwnH.shutR2 ho2 (fun y hy (q : y = h1.size) => by have h5 : h.size = y := Option.some.inj hy; omega)
   have hed := editN_calls (show Blk h2 h1.size 52 (docC (.pointer (some ⟨lb, 0, none⟩)) [] (.slice none 0 0) (.slice none 0 0) (0, 0) (.slice (some ⟨h.size, 0, none⟩) 1 1) 0) from k2) hp (fun g x => lnone_zero ((kL.ext0 (e1.trans e2)).ext x (by omega))) s hs
   refine xqd 1 [0, 1, 4, 5, 12] rfl ?_
   refine xra Tryd.func7 2 rfl ?_
   refine xo rfl (OpX.call (vs := [_, _, _, _]) Tryd.func9 rfl H.nm9 rfl (CallsH.toX (hed))) ?_
   rintro _ h3 ⟨⟨rfl, tv, sv, pv, m, kd, ht⟩, x3⟩
   refine xd [0, 1, 4, 5, 12] rfl ?_
   refine xra Tryd.func7 2 rfl ?_
   refine xp rfl (OpP.fieldAddr (off := 7) Tryd.underlying52 rfl rfl H.sz3 rfl) ?_
   refine RW.op0 rfl rfl rfl (OpX.storeOne H.sz3 rfl rfl kd (by first | decide | exact of_decide_eq_true rfl | (simp; done) | (simp; omega)) rfl) ?_
   rintro _ h4 ⟨rfl, kd4, x4, z4⟩
   refine xd [0, 1, 4, 5, 12] rfl ?_
   refine xrd Tryd.func7 2 [0, 1, 4, 5, 12] rfl ?_
   have kd4 : Blk h4 h1.size 52 (docC (.pointer (some ⟨lb, 0, none⟩)) s tv sv (0, 0) pv 0) := kd4
   refine G.ret Tryd.func7 rfl rfl ?_
   exact ⟨_, rfl, ⟨_, tv, sv, pv, 0, rfl, kd4, ht.but x4⟩, Ext0.only (Ext0.only (e1.trans e2) x3 (by omega)) x4 (by omega)⟩
theorem relexNone_calls {h : Heap} (hg : LxG h) (a : Ac) :
 CallsH Tryd.prog 5 #[.agg (encAc a).toArray] h (Ret fun r h' => r = .bool true ∧ Ext0 h h') := by
 obtain ⟨F, T, x⟩ := a
 have hbx := bs_size x
 refine CallsH.of Tryd.func5 rfl rfl ?_
 refine xr Tryd.func5 rfl ?_
 refine xo rfl (OpX.boxN rfl) ?_
 rintro _ h1 ⟨rfl, k1, e1, z1⟩
 have k1 : Blk h1 h.size 43 (encAc (F, T, x)) := k1
 refine xqd 1 [0, 1, 2] rfl ?_
 refine G.seq rfl ?_
 refine xr Tryd.func5 rfl ?_
 refine xp rfl (OpP.fieldAddr (off := 2) Tryd.underlying43 rfl rfl H.sz9 rfl) ?_
 refine xp rfl (OpP.load H.ag9 rfl (k1.cell (i := 2) rfl)) ?_
 refine xp rfl (OpP.lenString Tryd.underlying9 rfl) ?_
 refine xqd 1 [0, 1, 2, 9] rfl ?_
 refine G.ite rfl rfl (fun hbig => ?_) (fun hbig => ?_)
 · refine xr Tryd.func5 rfl ?_
   refine xo rfl (OpX.call (vs := []) Tryd.func13 rfl H.nm13 rfl (CallsH.toX (relexed_calls (hg.ext0 e1)))) ?_
   rintro _ h2 ⟨rfl, e2⟩
   refine xqd 1 [0, 1, 2, 9] rfl ?_
   refine G.ret Tryd.func5 rfl rfl ?_
   exact ⟨_, rfl, rfl, e1.trans e2⟩
 · refine G.skip rfl ?_
   refine xrd Tryd.func5 1 [0, 1, 2, 3, 9] rfl ?_
   refine G.seq rfl ?_
   refine xrd Tryd.func5 1 [0, 1, 2, 3, 4, 9] rfl ?_
   refine G.block rfl rfl ?_
   refine G.loop (σ := Nat × Option Addr) (fun q => [(1, .pointer (some ⟨h.size, 0, none⟩)), (3, .pointer q.2), (4, .int .i64 (q.1 : Nat))]) (fun q h' => q.1 ≤ 2 ∧ Ext0 h1 h' ∧ ∀ g', Ext0 h' g' → CallsH Tryd.prog 24 #[.pointer q.2] g' (Ret fun r h'' => r = .bool true ∧ h'' = g')) (fun q => 2 - q.1) ((0, none)) rfl ⟨rfl, rfl, rfl, trivial⟩ ⟨Nat.zero_le _, Ext.refl _ _, fun g' _ => rnone_nil⟩ ?_
   rintro ⟨i, p⟩ g ⟨hi, eg, hn⟩ ih
   try dsimp only
   dsimp only at hi hn
   have e0g : Ext0 h g := e1.trans eg
   have kg := k1.ext0 eg
   refine G.seq rfl ?_
   refine xrd Tryd.func5 2 [1, 3, 4, 12] rfl ?_
   refine G.ite rfl rfl (fun hlt => ?_) (fun hlt => ?_)
   · refine G.skip rfl ?_
     refine G.seq rfl ?_
     refine G.block rfl rfl ?_
     refine G.seq rfl ?_
     refine G.seq rfl ?_
     refine G.regToX (fun (_u : Unit) (h' : Heap) => Ext0 g h') (fun (_u : Unit) => [(51, .bool false)]) [(1, _), (3, _), (4, _), (12, _)] ⟨rfl, rfl, rfl, rfl, trivial⟩ Tryd.func5 rfl ?_ ?_
     · refine xqp 1 rfl rfl (OpP.fieldAddr (off := 0) Tryd.underlying43 rfl rfl H.sz3 rfl) ?_
       refine xp rfl (OpP.load H.ag3 rfl (kg.cell (i := 0) rfl)) ?_
       refine xp rfl (OpP.fieldAddr (off := 1) Tryd.underlying43 rfl rfl H.sz3 rfl) ?_
       refine xp rfl (OpP.load H.ag3 rfl (kg.cell (i := 1) rfl)) ?_
       refine xp rfl (OpP.fieldAddr (off := 2) Tryd.underlying43 rfl rfl H.sz9 rfl) ?_
       refine xp rfl (OpP.load H.ag9 rfl (kg.cell (i := 2) rfl)) ?_
       refine xo rfl (OpX.call (vs := [_, _, _, _]) Tryd.func9 rfl H.nm9 rfl (CallsH.toX (edit_none (hn _ (Ext.refl _ _)) F T _))) ?_
       rintro _ g ⟨rfl, hh⟩
       subst hh
       refine xqm 2 rfl ?_
       refine RW.know (d := 24) (b' := false) rfl (by simp) ?_
       refine xqm 1 rfl ?_
       refine xo rfl (OpX.call (vs := [_]) Tryd.func12 rfl H.nm12 rfl (CallsH.toX (text_none (hn _ (Ext.refl _ _))))) ?_
       rintro _ g ⟨rfl, hh⟩
       subst hh
       refine xp rfl (OpP.neqStr rfl rfl) ?_
       refine xqm 2 rfl ?_
       refine RW.know (d := 29) (b' := false) rfl (by decide) ?_
       refine xqm 1 rfl ?_
       refine xo rfl (OpX.call (vs := [_]) Tryd.func14 rfl H.nm14 rfl (CallsH.toX (tokens_none (hn _ (Ext.refl _ _))))) ?_
       rintro _ g ⟨rfl, hh⟩
       subst hh
       refine xp rfl (OpP.lenSlice Tryd.underlying36 rfl) ?_
       refine xqm 3 rfl ?_
       refine RW.know (d := 35) (b' := false) rfl (by simp) ?_
       refine xqm 1 rfl ?_
       refine xo rfl (OpX.call (vs := [_]) Tryd.func16 rfl H.nm16 rfl (CallsH.toX (end_none (fun g' e' => hn g' e')))) ?_
       rintro _ g1 ⟨rfl, f1⟩
       refine xp rfl (OpP.build (H.bd45_ ) rfl) ?_
       refine xp rfl (OpP.neqAgg fieldsS stoodS guardS rfl rfl (stEq _ (0, 0))) ?_
       refine xqm 2 rfl ?_
       refine RW.know (d := 41) (b' := false) rfl (by simp) ?_
       refine xqm 1 rfl ?_
       refine xo rfl (OpX.call (vs := [_]) Tryd.func17 rfl H.nm17 rfl (CallsH.toX (steps_none (hn _ f1)))) ?_
       rintro _ g1 ⟨rfl, hh⟩
       subst hh
       refine xqm 3 rfl ?_
       refine RW.know (d := 46) (b' := false) rfl (by simp) ?_
       refine xqm 1 rfl ?_
       refine xo rfl (OpX.call (vs := [_]) Tryd.func18 rfl H.nm18 rfl (CallsH.toX (points_none (hn _ f1)))) ?_
       rintro _ g1 ⟨rfl, hh⟩
       subst hh
       refine xp rfl (OpP.lenSlice Tryd.underlying48 rfl) ?_
       refine xqm 2 rfl ?_
       refine RW.done rfl ?_
       exact ⟨(), f1, at_bool rfl (by simp), rfl, rfl, rfl, rfl, trivial⟩
     · rintro _ g1 f1
       refine G.cond rfl rfl (fun hc => absurd hc (by decide)) (fun _ => ?_)
       refine G.skip rfl ?_
       refine G.reg Tryd.func5 rfl ?_
       refine xp rfl (OpP.build (H.bd52_ ) rfl) ?_
       refine xo rfl (OpX.boxN rfl) ?_
       rintro _ g2 ⟨rfl, k2, e2, z2⟩
       refine xqd 1 [1, 3, 4, 12, 51] rfl ?_
       refine G.blkEnd ?_
       refine G.reg Tryd.func5 rfl ?_
       refine xqp 1 rfl rfl (OpP.add64 rfl rfl ⟨by omega, by omega⟩) ?_
       refine xqd 1 [1, 3, 4, 12, 51] rfl ?_
       have k2 : Blk g2 g1.size 52 (docC (.pointer none) [] (.slice none 0 0) (.slice none 0 0) (0, 0) (.slice none 0 0) 0) := k2
       exact ih (i + 1, some ⟨g1.size, 0, none⟩) _ _ ⟨rfl, rfl, rfl, trivial⟩ ⟨by show i + 1 ≤ 2; omega, (eg.trans f1).trans e2, fun g' e' => rnone_at (k2.ext0 e')⟩ (by show 2 - (i + 1) < 2 - i; omega)
   · have hx : x.length ≤ 300 := by
      have : ¬ (300 : Int) < ((bs x).size : Nat) := hbig
      omega
     refine G.exit rfl rfl ?_
     refine xr Tryd.func5 rfl ?_
     refine xp rfl (OpP.build (H.bd55_ ) rfl) ?_
     refine xo rfl (OpX.boxN rfl) ?_
     rintro _ g2 ⟨rfl, k2, e2, z2⟩
     have k2 : Blk g2 g.size 55 [.slice none 0 0] := k2
     have kg2 := kg.ext0 e2
     refine xp rfl (OpP.fieldAddr (off := 2) Tryd.underlying43 rfl rfl H.sz9 rfl) ?_
     refine xp rfl (OpP.load H.ag9 rfl (kg2.cell (i := 2) rfl)) ?_
     refine xo rfl (OpX.call (vs := [_, _]) Tryd.func7 rfl H.nm7 rfl (CallsH.toX (docNewN_calls k2 x (by omega)))) ?_
     rintro _ g3 ⟨⟨b, tv, sv, pv, m, rfl, kd, ht⟩, e3⟩
     have kg3 := kg2.ext0 e3
     have e03 : Ext0 h g3 := (e0g.trans e2).trans e3
     have hM : ¬ Array.size g3 ≤ h.size := by have := kg3.lt; omega
     refine xqd 1 [1, 3, 4, 5, 12] rfl ?_
     refine G.seq rfl ?_
     refine G.draw (fun b => Array.size g3 ≤ b) (fun i => Nat.blt i 27) (sz := 27) (listed := #[false, false, false, false, false, false, false, false, false, false, false, false, false, false, false, false, false, false, false, false, false, false, false, false, false, false, false]) Tryd.func5 H.mixed rfl rfl rfl ?_
     refine xtp 0 1 (by kernel_rfl) rfl (fun h' e => OpP.fieldAddr (off := 2) Tryd.underlying43 rfl rfl H.sz9 rfl) ?_
     refine xtp 1 3 (by kernel_rfl) rfl (fun h' e => OpP.load H.ag9 rfl (e.cell hM (kg3.cell (i := 2) rfl))) ?_
     refine xto 2 7 (by kernel_rfl) rfl (OpX.call (vs := [_, _]) Tryd.func7 rfl H.nm7 rfl (CallsH.toX (docNew_nil _))) ?_
     rintro _ g3 ⟨rfl, hh⟩
     refine ⟨fun _ => by rw [hh]; exact Ext.refl _ _, ?_⟩
     subst hh
     refine xtp 3 15 (by kernel_rfl) rfl (fun h' e => OpP.eqlNil Tryd.underlying23 rfl rfl) ?_
     refine xtq 4 31 (by kernel_rfl) rfl ?_
     refine RD.know (d := 63) (b' := true) rfl (rfl) ?_
     refine xtq 5 63 (by kernel_rfl) rfl ?_
     refine xtp 7 191 (by kernel_rfl) rfl (fun h' e => OpP.fieldAddr (off := 2) Tryd.underlying43 rfl rfl H.sz9 rfl) ?_
     refine xtp 8 447 (by kernel_rfl) rfl (fun h' e => OpP.load H.ag9 rfl (e.cell hM (kg3.cell (i := 2) rfl))) ?_
     refine xto 6 511 (by kernel_rfl) rfl (OpX.call (vs := [_]) Tryd.func12 rfl H.nm12 rfl (CallsH.toX (text_at kd))) ?_
     rintro _ g3 ⟨rfl, hh⟩
     refine ⟨fun _ => by rw [hh]; exact Ext.refl _ _, ?_⟩
     subst hh
     refine xtp 9 1023 (by kernel_rfl) rfl (fun h' e => OpP.eqlStr rfl rfl) ?_
     refine xtq 10 2047 (by kernel_rfl) rfl ?_
     refine xtq 11 4095 (by kernel_rfl) rfl ?_
     refine RD.know (d := 70) (b' := true) rfl (by simp) ?_
     refine xtq 12 8191 (by kernel_rfl) rfl ?_
     refine xto 13 16383 (by kernel_rfl) rfl (OpX.call (vs := [_]) Tryd.func14 rfl H.nm14 rfl (CallsH.toX (tokens_at kd ht (by decide)))) ?_
     rintro v4 g4 ⟨ho4, e4⟩
     refine ⟨fun _ => e4.of, ?_⟩
     obtain ⟨qa, qc, rfl, _⟩ := OwnH.open ho4
     refine xtp 14 32767 (by kernel_rfl) rfl (fun h' e => OpP.lenSlice Tryd.underlying36 rfl) ?_
     refine xtq 15 65535 (by kernel_rfl) rfl ?_
     refine xtq 16 131071 (by kernel_rfl) rfl ?_
     refine xtq 17 262143 (by kernel_rfl) rfl ?_
     refine RD.know (d := 76) (b' := true) rfl (by simp) ?_
     refine xtq 18 524287 (by kernel_rfl) rfl ?_
     refine xtp 20 1572863 (by kernel_rfl) rfl (fun h' e => OpP.build (H.bd45_ ) rfl) ?_
     refine xto 19 2097151 (by kernel_rfl) rfl (OpX.call (vs := [_]) Tryd.func16 rfl H.nm16 rfl (CallsH.toX (end_at (kd.ext0 e4)))) ?_
     rintro _ g5 ⟨rfl, e5⟩
     refine ⟨fun _ => e5.of, ?_⟩
     refine xtp 21 4194303 (by kernel_rfl) rfl (fun h' e => OpP.eqlAgg fieldsS stoodS guardS rfl rfl (stEq _ (0, 0))) ?_
     refine xtq 22 8388607 (by kernel_rfl) rfl ?_
     refine xtq 23 16777215 (by kernel_rfl) rfl ?_
     refine RD.know (d := 82) (b' := true) rfl (by simp) ?_
     have e05 := (e03.trans e4).trans e5
     refine xto 24 33554431 (by kernel_rfl) rfl (OpX.call (vs := []) Tryd.func13 rfl H.nm13 rfl (CallsH.toX (relexed_calls (hg.ext0 e05)))) ?_
     rintro _ g6 ⟨rfl, e6⟩
     refine ⟨fun _ => e6.of, ?_⟩
     refine xtq 25 67108863 (by kernel_rfl) rfl ?_
     refine xtq 26 134217727 (by kernel_rfl) rfl ?_
     refine RD.done (by kernel_rfl) ?_
     refine xu [1, 2, 3, 4, 5, 12] rfl ?_
     refine G.ret Tryd.func5 rfl rfl ?_
     exact ⟨_, rfl, rfl, e05.trans e6⟩
end Go.Proofs.YtlkmlfofhbekoaaDoor
