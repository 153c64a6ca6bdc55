/- limnerlaw27.Great, said, ScriptAgain. -/
import Derived.Test.YtmbikkapabljfaaDoorScr14
namespace Go.Proofs.YtmbikkapabljfaaDoor
open Go Go.Lw
set_option maxRecDepth 20000

theorem get_is {h : Heap} (hg : Glob h) (s : ByteArray) (hs : s.size ≤ 1000000) {g : Nat ⊕ List Stp} (e : getS s.data.toList = g) :
    CallsH Tryd.prog 12 #[.string s] h (Ret fun r h' => GetV h' r g ∧ Ext0 h h') :=
  (get_calls hg s hs).ret fun _ _ ⟨ho, he⟩ => ⟨e ▸ ho, he⟩

def exSteps : List Stp := [⟨1, [97, 32, 98], 0, 0⟩, ⟨3, [], 5, 20⟩, ⟨2, [], 0, 0⟩]
def exText : ByteArray := ⟨#[98, 121, 116, 101, 115, 32, 34, 97, 92, 50, 48, 98, 34, 10, 114, 101, 115, 105, 122, 101, 32, 53, 32, 50, 48, 10, 116, 105, 99, 107, 10]⟩

theorem itoa5 : Lib.itoa 5 = [53] := by unfold Lib.itoa; rw [if_neg (by decide)]; rw [Lib.decDigits]; rfl
theorem itoa20 : Lib.itoa 20 = [50, 48] := by unfold Lib.itoa; rw [if_neg (by decide)]; rw [Lib.decDigits, dif_neg (by decide), Lib.decDigits]; rfl

theorem ex_fine : ∀ x ∈ exSteps, Fine x := by
  intro x hx
  simp [exSteps] at hx
  rcases hx with rfl | rfl | rfl <;> exact ⟨⟨⟨by decide, by decide⟩, ⟨by decide, by decide⟩⟩, by decide⟩

theorem ex_put : putL exSteps = exText.data.toList := by
  have e5 := itoa5
  have e20 := itoa20
  simp only [exSteps, putL, List.flatMap_cons, List.flatMap_nil, putStep, e5, e20]
  decide

theorem ex_get : getS exText.data.toList = .inr exSteps := by
  have h := getL_put exSteps 0 (fun x hx => (ex_fine x hx).toOk)
  rw [ex_put] at h
  exact h.trans (by rfl)

theorem ex1 : getS (ByteArray.mk #[116, 105, 99, 107, 10, 116, 105, 99, 107, 32]).data.toList = .inl 2 := by decide
theorem ex2 : getS (ByteArray.mk #[98, 121, 116, 101, 115, 32, 34, 92, 52, 65, 34, 10]).data.toList = .inl 1 := by decide +kernel
theorem ex3 : getS (ByteArray.mk #[116, 105, 99, 107]).data.toList = .inl 1 := by decide

theorem made_rec {h : Heap} {t : TypeId} {xs : List Stp} {n : Nat} (hn : xs.length = n) (hm : n ≤ maxLen) : SlR eStep (h.push (.cells (xs.flatMap encS).toArray t)) (fun _ => False) (.slice (some ⟨h.size, 0, none⟩) n n) xs := by
  refine ⟨_, n, n, rfl, hn, Nat.le_refl _, hm, fun i x hx => ⟨h.size, 0, encS x, rfl, fun k => k, fun j v hv => ?_, rfl⟩⟩
  have := flatMap_at encS_len xs i x j v hx hv
  refine cellAt_push_new h _ _ _ _ _ ?_
  show (xs.flatMap encS).toArray[0 + i * 4 + j]? = some v
  rw [Nat.zero_add]
  simpa using this

theorem fill_ex (z : Array Value) (_hz : z.size = 4) : Instr.fill (fun i => some (i * 4, 4)) ((Array.range (3 * 4)).map (z[· % z.size]!)) [(0, .agg (encS ⟨1, [97, 32, 98], 0, 0⟩).toArray), (1, .agg (encS ⟨3, [], 5, 20⟩).toArray), (2, .agg (encS ⟨2, [], 0, 0⟩).toArray)] = some (exSteps.flatMap encS).toArray := by
  have hA : ((Array.range (3 * 4)).map (z[· % z.size]!)).size = 12 := by simp
  generalize (Array.range (3 * 4)).map (z[· % z.size]!) = A at hA ⊢
  match A, hA with
  | ⟨[a0, a1, a2, a3, a4, a5, a6, a7, a8, a9, a10, a11]⟩, _ => simp [Instr.fill, Value.cells, encS, exSteps]

theorem row_keep {h5 h6 g : Heap} {b o : Nat} {cs : List Value} (hr : Lw.rowAt h5 b o cs) (hne : cs ≠ []) (e1 : Ext0 h5 h6) (e : Ext (fun b => Array.size h5 ≤ b) h6 g) : Lw.rowAt g b o cs := e.rowAt (Nat.not_le.2 (lt_of_rowAt hr hne)) (e1.rowAt (fun k => k) hr)

theorem fieldsP : Tryd.prog.underlying 28 = some (.struct (Tryd.prog.fieldsOf 28)) := by kernel_rfl
theorem stoodP : Tryd.prog.stoodInHeld 28 = false := by kernel_rfl
theorem guardP : Tryd.prog.eqGuardType Tryd.prog.depth 28 = false := by kernel_rfl

theorem said_calls {h : Heap} (hg : Glob h) : CallsH Tryd.prog 11 #[] h (Ret fun r h' => r = .bool true ∧ Ext0 h h') := by
  refine CallsH.of Tryd.func11 rfl rfl ?_
  refine G.seq rfl ?_
  refine G.reg Tryd.func11 rfl ?_
  refine RW.pureS rfl rfl rfl rfl (OpP.assign rfl) ?_
  refine RW.done rfl ?_
  refine G.sub (ρ' := [(0, _)]) ⟨rfl, trivial⟩ ?_
  refine G.seq rfl ?_
  refine G.reg Tryd.func11 rfl ?_
  refine RW.pureS rfl rfl rfl rfl (OpP.build (H.bd28_0_1 _ _) rfl) ?_
  refine RW.pureS rfl rfl rfl rfl (OpP.build (H.bd28_0_2_3 _ _ _) rfl) ?_
  refine RW.pureS rfl rfl rfl rfl (OpP.build (H.bd28_0 _) rfl) ?_
  refine RW.opS rfl rfl rfl rfl (OpX.buildSlice Tryd.underlying22 H.el28 (vs := [(0, .agg (encS ⟨1, [97, 32, 98], 0, 0⟩).toArray), (1, .agg (encS ⟨3, [], 5, 20⟩).toArray), (2, .agg (encS ⟨2, [], 0, 0⟩).toArray)]) rfl (by decide) fill_ex) ?_
  rintro _ h1 ⟨rfl, hh1⟩
  refine RW.pureS rfl rfl rfl rfl (OpP.assign rfl) ?_
  refine RW.done rfl ?_
  refine G.sub (ρ' := [(0, _), (1, _)]) ⟨rfl, rfl, trivial⟩ ?_
  refine G.seq rfl ?_
  refine G.reg Tryd.func11 rfl ?_
  refine RW.pureS rfl rfl rfl rfl (OpP.assign rfl) ?_
  refine RW.done rfl ?_
  refine G.sub (ρ' := [(0, _), (1, _), (2, _)]) ⟨rfl, rfl, rfl, trivial⟩ ?_
  refine G.seq rfl ?_
  refine G.reg Tryd.func11 rfl ?_
  refine RW.pureS rfl rfl rfl rfl (OpP.move rfl) ?_
  have he1 : Ext0 h h1 := by rw [hh1]; exact Ext.push _ _ _
  have hl1 : SlR eStep h1 (fun _ => False) (.slice (some ⟨h.size, 0, none⟩) 3 3) exSteps := by rw [hh1]; exact made_rec rfl (by decide)
  have hg1 := hg.ext0 he1
  refine RW.opS rfl rfl rfl rfl (OpX.call (vs := [_]) Tryd.func12 rfl H.nm12 rfl (CallsH.toX (get_is hg1 exText (by decide) ex_get))) ?_
  rintro _ h2 ⟨⟨w2, rfl, hw2⟩, he2⟩
  refine RW.pureS rfl rfl rfl rfl (OpP.move rfl) ?_
  refine RW.pureS rfl rfl rfl rfl (OpP.extract rfl rfl) ?_
  refine RW.pureS rfl rfl rfl rfl (OpP.extract rfl rfl) ?_
  refine RW.pureS rfl rfl rfl rfl (OpP.extract rfl rfl) ?_
  refine RW.pureS rfl rfl rfl rfl (OpP.assign rfl) ?_
  refine RW.pureS rfl rfl rfl rfl (OpP.assign rfl) ?_
  refine RW.pureS rfl rfl rfl rfl (OpP.assign rfl) ?_
  refine RW.done rfl ?_
  refine G.sub (ρ' := [(0, _), (1, _), (2, _), (3, _), (4, _), (5, _)]) ⟨rfl, rfl, rfl, rfl, rfl, rfl, trivial⟩ ?_
  refine G.seq rfl ?_
  refine G.reg Tryd.func11 rfl ?_
  have hg2 := hg1.ext0 he2
  refine RW.opS rfl rfl rfl rfl (OpX.call (vs := [_]) Tryd.func12 rfl H.nm12 rfl (CallsH.toX (get_is hg2 _ (by decide) ex1))) ?_
  rintro _ h3 ⟨rfl, he3⟩
  refine RW.pureS rfl rfl rfl rfl (OpP.move rfl) ?_
  refine RW.pureS rfl rfl rfl rfl (OpP.extract rfl rfl) ?_
  refine RW.pureS rfl rfl rfl rfl (OpP.extract rfl rfl) ?_
  refine RW.pureS rfl rfl rfl rfl (OpP.extract rfl rfl) ?_
  refine RW.pureS rfl rfl rfl rfl (OpP.assign rfl) ?_
  refine RW.pureS rfl rfl rfl rfl (OpP.assign rfl) ?_
  refine RW.pureS rfl rfl rfl rfl (OpP.assign rfl) ?_
  refine RW.done rfl ?_
  refine G.sub (ρ' := [(0, _), (1, _), (2, _), (3, _), (4, _), (5, _), (7, _), (8, _)]) ⟨rfl, rfl, rfl, rfl, rfl, rfl, rfl, rfl, trivial⟩ ?_
  refine G.seq rfl ?_
  refine G.reg Tryd.func11 rfl ?_
  have hg3 := hg2.ext0 he3
  refine RW.opS rfl rfl rfl rfl (OpX.call (vs := [_]) Tryd.func12 rfl H.nm12 rfl (CallsH.toX (get_is hg3 _ (by decide) ex2))) ?_
  rintro _ h4 ⟨rfl, he4⟩
  refine RW.pureS rfl rfl rfl rfl (OpP.move rfl) ?_
  refine RW.pureS rfl rfl rfl rfl (OpP.extract rfl rfl) ?_
  refine RW.pureS rfl rfl rfl rfl (OpP.extract rfl rfl) ?_
  refine RW.pureS rfl rfl rfl rfl (OpP.extract rfl rfl) ?_
  refine RW.pureS rfl rfl rfl rfl (OpP.assign rfl) ?_
  refine RW.pureS rfl rfl rfl rfl (OpP.assign rfl) ?_
  refine RW.pureS rfl rfl rfl rfl (OpP.assign rfl) ?_
  refine RW.done rfl ?_
  refine G.sub (ρ' := [(0, _), (1, _), (2, _), (3, _), (4, _), (5, _), (7, _), (8, _), (11, _)]) ⟨rfl, rfl, rfl, rfl, rfl, rfl, rfl, rfl, rfl, trivial⟩ ?_
  refine G.seq rfl ?_
  refine G.reg Tryd.func11 rfl ?_
  have hg4 := hg3.ext0 he4
  refine RW.opS rfl rfl rfl rfl (OpX.call (vs := [_]) Tryd.func12 rfl H.nm12 rfl (CallsH.toX (get_is hg4 _ (by decide) ex3))) ?_
  rintro _ h5 ⟨rfl, he5⟩
  refine RW.pureS rfl rfl rfl rfl (OpP.move rfl) ?_
  refine RW.pureS rfl rfl rfl rfl (OpP.extract rfl rfl) ?_
  refine RW.pureS rfl rfl rfl rfl (OpP.extract rfl rfl) ?_
  refine RW.pureS rfl rfl rfl rfl (OpP.extract rfl rfl) ?_
  refine RW.pureS rfl rfl rfl rfl (OpP.assign rfl) ?_
  refine RW.pureS rfl rfl rfl rfl (OpP.assign rfl) ?_
  refine RW.pureS rfl rfl rfl rfl (OpP.assign rfl) ?_
  refine RW.done rfl ?_
  refine G.sub (ρ' := [(0, _), (1, _), (2, _), (3, _), (4, _), (5, _), (7, _), (8, _), (11, _), (14, _)]) ⟨rfl, rfl, rfl, rfl, rfl, rfl, rfl, rfl, rfl, rfl, trivial⟩ ?_
  refine G.seq rfl ?_
  have hg5 := hg4.ext0 he5
  have he15 := ((he2.trans he3).trans he4).trans he5
  obtain ⟨oa2, n2, c2, rfl, hs2⟩ := hw2.open
  have hn2 : n2 = 3 := hs2.len.symm
  subst hn2
  have hL1 := hl1.ext0 he15
  have hL2 := hs2.shut.ext0 ((he3.trans he4).trans he5)
  refine G.drawToX (fun (_u : Unit) (h' : Heap) => Ext0 h5 h') (fun (_u : Unit) => [(0, .bool true)]) [(1, _), (2, _), (3, _), (4, _), (5, _), (7, _), (8, _), (11, _), (14, _)] ⟨rfl, rfl, rfl, rfl, rfl, rfl, rfl, rfl, rfl, trivial⟩ (fun b => Array.size h5 ≤ b) (fun i => Nat.blt i 61) (sz := 61) (listed := #[false, false, false, false, false, false, false, false, false, false, false, false, false, false, false, false, false, false, false, false, false, false, false, false, false, false, false, false, false, false, false, false, false, false, false, false, false, false, false, false, false, false, false, false, false, false, false, false, false, false, false, false, false, false, false, false, false, false, false, false, false]) Tryd.func11 H.mixed rfl rfl rfl ?_ ?_
  · refine RD.takeS 0 (listed' := #[true, false, false, false, false, false, false, false, false, false, false, false, false, false, false, false, false, false, false, false, false, false, false, false, false, false, false, false, false, false, false, false, false, false, false, false, false, false, false, false, false, false, false, false, false, false, false, false, false, false, false, false, false, false, false, false, false, false, false, false, false]) rfl (by kernel_rfl) (by kernel_rfl) (by kernel_rfl) rfl rfl rfl (fun h' e => OpP.move rfl) rfl ?_
    refine RD.takeS 2 (listed' := #[true, false, true, false, false, false, false, false, false, false, false, false, false, false, false, false, false, false, false, false, false, false, false, false, false, false, false, false, false, false, false, false, false, false, false, false, false, false, false, false, false, false, false, false, false, false, false, false, false, false, false, false, false, false, false, false, false, false, false, false, false]) rfl (by kernel_rfl) (by kernel_rfl) (by kernel_rfl) rfl rfl rfl (fun h' e => OpP.move rfl) rfl ?_
    refine RD.oneS 1 (listed' := #[true, true, true, false, false, false, false, false, false, false, false, false, false, false, false, false, false, false, false, false, false, false, false, false, false, false, false, false, false, false, false, false, false, false, false, false, false, false, false, false, false, false, false, false, false, false, false, false, false, false, false, false, false, false, false, false, false, false, false, false, false]) rfl (by kernel_rfl) rfl rfl rfl (OpX.call (vs := [_]) Tryd.func14 rfl H.nm14 rfl (CallsH.toX (put_calls hg5 hL1 (by decide) ex_fine))) rfl ?_
    rintro _ h6 ⟨rfl, he6⟩
    refine ⟨fun _ => he6.of, ?_⟩
    refine RD.takeS 3 (listed' := #[true, true, true, true, false, false, false, false, false, false, false, false, false, false, false, false, false, false, false, false, false, false, false, false, false, false, false, false, false, false, false, false, false, false, false, false, false, false, false, false, false, false, false, false, false, false, false, false, false, false, false, false, false, false, false, false, false, false, false, false, false]) rfl (by kernel_rfl) (by kernel_rfl) (by kernel_rfl) rfl rfl rfl (fun h' e => OpP.eqlStr rfl rfl) rfl ?_
    refine RD.takeS 4 (listed' := #[true, true, true, true, true, false, false, false, false, false, false, false, false, false, false, false, false, false, false, false, false, false, false, false, false, false, false, false, false, false, false, false, false, false, false, false, false, false, false, false, false, false, false, false, false, false, false, false, false, false, false, false, false, false, false, false, false, false, false, false, false]) rfl (by kernel_rfl) (by kernel_rfl) (by kernel_rfl) rfl rfl rfl (fun h' e => OpP.move rfl) rfl ?_
    obtain ⟨_, _, _, e1, hT1⟩ := hL1.open
    cases e1
    obtain ⟨_, _, _, e2, hT2⟩ := hL2.open
    cases e2
    obtain ⟨ab0, ao0, ax0, ah0, _, ay0, ar0⟩ := hT2.recd (i := 0) (by decide)
    cases ay0
    obtain ⟨ab1, ao1, ax1, ah1, _, ay1, ar1⟩ := hT2.recd (i := 1) (by decide)
    cases ay1
    obtain ⟨ab2, ao2, ax2, ah2, _, ay2, ar2⟩ := hT2.recd (i := 2) (by decide)
    cases ay2
    obtain ⟨bb0, bo0, bx0, bh0, _, by0, br0⟩ := hT1.recd (i := 0) (by decide)
    cases by0
    obtain ⟨bb1, bo1, bx1, bh1, _, by1, br1⟩ := hT1.recd (i := 1) (by decide)
    cases by1
    obtain ⟨bb2, bo2, bx2, bh2, _, by2, br2⟩ := hT1.recd (i := 2) (by decide)
    cases by2
    refine RD.know (d := 44) (b' := true) rfl (decide_eq_true (by show bs (putL exSteps) = exText; rw [ex_put, bs_of])) ?_
    refine RD.takeS 5 (listed' := #[true, true, true, true, true, true, false, false, false, false, false, false, false, false, false, false, false, false, false, false, false, false, false, false, false, false, false, false, false, false, false, false, false, false, false, false, false, false, false, false, false, false, false, false, false, false, false, false, false, false, false, false, false, false, false, false, false, false, false, false, false]) rfl (by kernel_rfl) (by kernel_rfl) (by kernel_rfl) rfl rfl rfl (fun h' e => OpP.move rfl) rfl ?_
    refine RD.takeS 6 (listed' := #[true, true, true, true, true, true, true, false, false, false, false, false, false, false, false, false, false, false, false, false, false, false, false, false, false, false, false, false, false, false, false, false, false, false, false, false, false, false, false, false, false, false, false, false, false, false, false, false, false, false, false, false, false, false, false, false, false, false, false, false, false]) rfl (by kernel_rfl) (by kernel_rfl) (by kernel_rfl) rfl rfl rfl (fun h' e => OpP.eqlInt rfl rfl) rfl ?_
    refine RD.takeS 7 (listed' := #[true, true, true, true, true, true, true, true, false, false, false, false, false, false, false, false, false, false, false, false, false, false, false, false, false, false, false, false, false, false, false, false, false, false, false, false, false, false, false, false, false, false, false, false, false, false, false, false, false, false, false, false, false, false, false, false, false, false, false, false, false]) rfl (by kernel_rfl) (by kernel_rfl) (by kernel_rfl) rfl rfl rfl (fun h' e => OpP.pickT rfl rfl) rfl ?_
    refine RD.takeS 8 (listed' := #[true, true, true, true, true, true, true, true, true, false, false, false, false, false, false, false, false, false, false, false, false, false, false, false, false, false, false, false, false, false, false, false, false, false, false, false, false, false, false, false, false, false, false, false, false, false, false, false, false, false, false, false, false, false, false, false, false, false, false, false, false]) rfl (by kernel_rfl) (by kernel_rfl) (by kernel_rfl) rfl rfl rfl (fun h' e => OpP.move rfl) rfl ?_
    refine RD.know (d := 48) (b' := true) rfl (decide_eq_true (rfl)) ?_
    refine RD.takeS 9 (listed' := #[true, true, true, true, true, true, true, true, true, true, false, false, false, false, false, false, false, false, false, false, false, false, false, false, false, false, false, false, false, false, false, false, false, false, false, false, false, false, false, false, false, false, false, false, false, false, false, false, false, false, false, false, false, false, false, false, false, false, false, false, false]) rfl (by kernel_rfl) (by kernel_rfl) (by kernel_rfl) rfl rfl rfl (fun h' e => OpP.move rfl) rfl ?_
    refine RD.takeS 10 (listed' := #[true, true, true, true, true, true, true, true, true, true, true, false, false, false, false, false, false, false, false, false, false, false, false, false, false, false, false, false, false, false, false, false, false, false, false, false, false, false, false, false, false, false, false, false, false, false, false, false, false, false, false, false, false, false, false, false, false, false, false, false, false]) rfl (by kernel_rfl) (by kernel_rfl) (by kernel_rfl) rfl rfl rfl (fun h' e => OpP.eqlInt rfl rfl) rfl ?_
    refine RD.takeS 11 (listed' := #[true, true, true, true, true, true, true, true, true, true, true, true, false, false, false, false, false, false, false, false, false, false, false, false, false, false, false, false, false, false, false, false, false, false, false, false, false, false, false, false, false, false, false, false, false, false, false, false, false, false, false, false, false, false, false, false, false, false, false, false, false]) rfl (by kernel_rfl) (by kernel_rfl) (by kernel_rfl) rfl rfl rfl (fun h' e => OpP.pickT rfl rfl) rfl ?_
    refine RD.takeS 12 (listed' := #[true, true, true, true, true, true, true, true, true, true, true, true, true, false, false, false, false, false, false, false, false, false, false, false, false, false, false, false, false, false, false, false, false, false, false, false, false, false, false, false, false, false, false, false, false, false, false, false, false, false, false, false, false, false, false, false, false, false, false, false, false]) rfl (by kernel_rfl) (by kernel_rfl) (by kernel_rfl) rfl rfl rfl (fun h' e => OpP.move rfl) rfl ?_
    refine RD.know (d := 52) (b' := true) rfl (decide_eq_true (rfl)) ?_
    refine RD.takeS 13 (listed' := #[true, true, true, true, true, true, true, true, true, true, true, true, true, true, false, false, false, false, false, false, false, false, false, false, false, false, false, false, false, false, false, false, false, false, false, false, false, false, false, false, false, false, false, false, false, false, false, false, false, false, false, false, false, false, false, false, false, false, false, false, false]) rfl (by kernel_rfl) (by kernel_rfl) (by kernel_rfl) rfl rfl rfl (fun h' e => OpP.move rfl) rfl ?_
    refine RD.takeS 14 (listed' := #[true, true, true, true, true, true, true, true, true, true, true, true, true, true, true, false, false, false, false, false, false, false, false, false, false, false, false, false, false, false, false, false, false, false, false, false, false, false, false, false, false, false, false, false, false, false, false, false, false, false, false, false, false, false, false, false, false, false, false, false, false]) rfl (by kernel_rfl) (by kernel_rfl) (by kernel_rfl) rfl rfl rfl (fun h' e => OpP.lenSlice Tryd.underlying22 rfl) rfl ?_
    refine RD.takeS 15 (listed' := #[true, true, true, true, true, true, true, true, true, true, true, true, true, true, true, true, false, false, false, false, false, false, false, false, false, false, false, false, false, false, false, false, false, false, false, false, false, false, false, false, false, false, false, false, false, false, false, false, false, false, false, false, false, false, false, false, false, false, false, false, false]) rfl (by kernel_rfl) (by kernel_rfl) (by kernel_rfl) rfl rfl rfl (fun h' e => OpP.eqlInt rfl rfl) rfl ?_
    refine RD.takeS 16 (listed' := #[true, true, true, true, true, true, true, true, true, true, true, true, true, true, true, true, true, false, false, false, false, false, false, false, false, false, false, false, false, false, false, false, false, false, false, false, false, false, false, false, false, false, false, false, false, false, false, false, false, false, false, false, false, false, false, false, false, false, false, false, false]) rfl (by kernel_rfl) (by kernel_rfl) (by kernel_rfl) rfl rfl rfl (fun h' e => OpP.pickT rfl rfl) rfl ?_
    refine RD.takeS 17 (listed' := #[true, true, true, true, true, true, true, true, true, true, true, true, true, true, true, true, true, true, false, false, false, false, false, false, false, false, false, false, false, false, false, false, false, false, false, false, false, false, false, false, false, false, false, false, false, false, false, false, false, false, false, false, false, false, false, false, false, false, false, false, false]) rfl (by kernel_rfl) (by kernel_rfl) (by kernel_rfl) rfl rfl rfl (fun h' e => OpP.move rfl) rfl ?_
    refine RD.know (d := 57) (b' := true) rfl (decide_eq_true (rfl)) ?_
    refine RD.takeS 18 (listed' := #[true, true, true, true, true, true, true, true, true, true, true, true, true, true, true, true, true, true, true, false, false, false, false, false, false, false, false, false, false, false, false, false, false, false, false, false, false, false, false, false, false, false, false, false, false, false, false, false, false, false, false, false, false, false, false, false, false, false, false, false, false]) rfl (by kernel_rfl) (by kernel_rfl) (by kernel_rfl) rfl rfl rfl (fun h' e => OpP.move rfl) rfl ?_
    refine RD.takeS 19 (listed' := #[true, true, true, true, true, true, true, true, true, true, true, true, true, true, true, true, true, true, true, true, false, false, false, false, false, false, false, false, false, false, false, false, false, false, false, false, false, false, false, false, false, false, false, false, false, false, false, false, false, false, false, false, false, false, false, false, false, false, false, false, false]) rfl (by kernel_rfl) (by kernel_rfl) (by kernel_rfl) rfl rfl rfl (fun h' e => OpP.indexSlice Tryd.underlying22 H.sz28 rfl rfl 0 rfl ah0 (by decide)) rfl ?_
    refine RD.takeS 20 (listed' := #[true, true, true, true, true, true, true, true, true, true, true, true, true, true, true, true, true, true, true, true, true, false, false, false, false, false, false, false, false, false, false, false, false, false, false, false, false, false, false, false, false, false, false, false, false, false, false, false, false, false, false, false, false, false, false, false, false, false, false, false, false]) rfl (by kernel_rfl) (by kernel_rfl) (by kernel_rfl) rfl rfl rfl (fun h' e => OpP.loadRowN H.ag28 H.sz28 rfl (row_keep ar0 (List.cons_ne_nil _ _) he6 e) (by first | rfl | simp)) rfl ?_
    refine RD.takeS 21 (listed' := #[true, true, true, true, true, true, true, true, true, true, true, true, true, true, true, true, true, true, true, true, true, true, false, false, false, false, false, false, false, false, false, false, false, false, false, false, false, false, false, false, false, false, false, false, false, false, false, false, false, false, false, false, false, false, false, false, false, false, false, false, false]) rfl (by kernel_rfl) (by kernel_rfl) (by kernel_rfl) rfl rfl rfl (fun h' e => OpP.move rfl) rfl ?_
    refine RD.takeS 22 (listed' := #[true, true, true, true, true, true, true, true, true, true, true, true, true, true, true, true, true, true, true, true, true, true, true, false, false, false, false, false, false, false, false, false, false, false, false, false, false, false, false, false, false, false, false, false, false, false, false, false, false, false, false, false, false, false, false, false, false, false, false, false, false]) rfl (by kernel_rfl) (by kernel_rfl) (by kernel_rfl) rfl rfl rfl (fun h' e => OpP.indexSlice Tryd.underlying22 H.sz28 rfl rfl 0 rfl bh0 (by decide)) rfl ?_
    refine RD.takeS 23 (listed' := #[true, true, true, true, true, true, true, true, true, true, true, true, true, true, true, true, true, true, true, true, true, true, true, true, false, false, false, false, false, false, false, false, false, false, false, false, false, false, false, false, false, false, false, false, false, false, false, false, false, false, false, false, false, false, false, false, false, false, false, false, false]) rfl (by kernel_rfl) (by kernel_rfl) (by kernel_rfl) rfl rfl rfl (fun h' e => OpP.loadRowN H.ag28 H.sz28 rfl (row_keep br0 (List.cons_ne_nil _ _) he6 e) (by first | rfl | simp)) rfl ?_
    refine RD.takeS 24 (listed' := #[true, true, true, true, true, true, true, true, true, true, true, true, true, true, true, true, true, true, true, true, true, true, true, true, true, false, false, false, false, false, false, false, false, false, false, false, false, false, false, false, false, false, false, false, false, false, false, false, false, false, false, false, false, false, false, false, false, false, false, false, false]) rfl (by kernel_rfl) (by kernel_rfl) (by kernel_rfl) rfl rfl rfl (fun h' e => OpP.eqlAgg fieldsP stoodP guardP rfl rfl (eqP _ _)) rfl ?_
    refine RD.takeS 25 (listed' := #[true, true, true, true, true, true, true, true, true, true, true, true, true, true, true, true, true, true, true, true, true, true, true, true, true, true, false, false, false, false, false, false, false, false, false, false, false, false, false, false, false, false, false, false, false, false, false, false, false, false, false, false, false, false, false, false, false, false, false, false, false]) rfl (by kernel_rfl) (by kernel_rfl) (by kernel_rfl) rfl rfl rfl (fun h' e => OpP.pickT rfl rfl) rfl ?_
    refine RD.takeS 26 (listed' := #[true, true, true, true, true, true, true, true, true, true, true, true, true, true, true, true, true, true, true, true, true, true, true, true, true, true, true, false, false, false, false, false, false, false, false, false, false, false, false, false, false, false, false, false, false, false, false, false, false, false, false, false, false, false, false, false, false, false, false, false, false]) rfl (by kernel_rfl) (by kernel_rfl) (by kernel_rfl) rfl rfl rfl (fun h' e => OpP.move rfl) rfl ?_
    refine RD.know (d := 66) (b' := true) rfl (decide_eq_true (rfl)) ?_
    refine RD.takeS 27 (listed' := #[true, true, true, true, true, true, true, true, true, true, true, true, true, true, true, true, true, true, true, true, true, true, true, true, true, true, true, true, false, false, false, false, false, false, false, false, false, false, false, false, false, false, false, false, false, false, false, false, false, false, false, false, false, false, false, false, false, false, false, false, false]) rfl (by kernel_rfl) (by kernel_rfl) (by kernel_rfl) rfl rfl rfl (fun h' e => OpP.move rfl) rfl ?_
    refine RD.takeS 28 (listed' := #[true, true, true, true, true, true, true, true, true, true, true, true, true, true, true, true, true, true, true, true, true, true, true, true, true, true, true, true, true, false, false, false, false, false, false, false, false, false, false, false, false, false, false, false, false, false, false, false, false, false, false, false, false, false, false, false, false, false, false, false, false]) rfl (by kernel_rfl) (by kernel_rfl) (by kernel_rfl) rfl rfl rfl (fun h' e => OpP.indexSlice Tryd.underlying22 H.sz28 rfl rfl 1 rfl ah1 (by decide)) rfl ?_
    refine RD.takeS 29 (listed' := #[true, true, true, true, true, true, true, true, true, true, true, true, true, true, true, true, true, true, true, true, true, true, true, true, true, true, true, true, true, true, false, false, false, false, false, false, false, false, false, false, false, false, false, false, false, false, false, false, false, false, false, false, false, false, false, false, false, false, false, false, false]) rfl (by kernel_rfl) (by kernel_rfl) (by kernel_rfl) rfl rfl rfl (fun h' e => OpP.loadRowN H.ag28 H.sz28 rfl (row_keep ar1 (List.cons_ne_nil _ _) he6 e) (by first | rfl | simp)) rfl ?_
    refine RD.takeS 30 (listed' := #[true, true, true, true, true, true, true, true, true, true, true, true, true, true, true, true, true, true, true, true, true, true, true, true, true, true, true, true, true, true, true, false, false, false, false, false, false, false, false, false, false, false, false, false, false, false, false, false, false, false, false, false, false, false, false, false, false, false, false, false, false]) rfl (by kernel_rfl) (by kernel_rfl) (by kernel_rfl) rfl rfl rfl (fun h' e => OpP.move rfl) rfl ?_
    refine RD.takeS 31 (listed' := #[true, true, true, true, true, true, true, true, true, true, true, true, true, true, true, true, true, true, true, true, true, true, true, true, true, true, true, true, true, true, true, true, false, false, false, false, false, false, false, false, false, false, false, false, false, false, false, false, false, false, false, false, false, false, false, false, false, false, false, false, false]) rfl (by kernel_rfl) (by kernel_rfl) (by kernel_rfl) rfl rfl rfl (fun h' e => OpP.indexSlice Tryd.underlying22 H.sz28 rfl rfl 1 rfl bh1 (by decide)) rfl ?_
    refine RD.takeS 32 (listed' := #[true, true, true, true, true, true, true, true, true, true, true, true, true, true, true, true, true, true, true, true, true, true, true, true, true, true, true, true, true, true, true, true, true, false, false, false, false, false, false, false, false, false, false, false, false, false, false, false, false, false, false, false, false, false, false, false, false, false, false, false, false]) rfl (by kernel_rfl) (by kernel_rfl) (by kernel_rfl) rfl rfl rfl (fun h' e => OpP.loadRowN H.ag28 H.sz28 rfl (row_keep br1 (List.cons_ne_nil _ _) he6 e) (by first | rfl | simp)) rfl ?_
    refine RD.takeS 33 (listed' := #[true, true, true, true, true, true, true, true, true, true, true, true, true, true, true, true, true, true, true, true, true, true, true, true, true, true, true, true, true, true, true, true, true, true, false, false, false, false, false, false, false, false, false, false, false, false, false, false, false, false, false, false, false, false, false, false, false, false, false, false, false]) rfl (by kernel_rfl) (by kernel_rfl) (by kernel_rfl) rfl rfl rfl (fun h' e => OpP.eqlAgg fieldsP stoodP guardP rfl rfl (eqP _ _)) rfl ?_
    refine RD.takeS 34 (listed' := #[true, true, true, true, true, true, true, true, true, true, true, true, true, true, true, true, true, true, true, true, true, true, true, true, true, true, true, true, true, true, true, true, true, true, true, false, false, false, false, false, false, false, false, false, false, false, false, false, false, false, false, false, false, false, false, false, false, false, false, false, false]) rfl (by kernel_rfl) (by kernel_rfl) (by kernel_rfl) rfl rfl rfl (fun h' e => OpP.pickT rfl rfl) rfl ?_
    refine RD.takeS 35 (listed' := #[true, true, true, true, true, true, true, true, true, true, true, true, true, true, true, true, true, true, true, true, true, true, true, true, true, true, true, true, true, true, true, true, true, true, true, true, false, false, false, false, false, false, false, false, false, false, false, false, false, false, false, false, false, false, false, false, false, false, false, false, false]) rfl (by kernel_rfl) (by kernel_rfl) (by kernel_rfl) rfl rfl rfl (fun h' e => OpP.move rfl) rfl ?_
    refine RD.know (d := 75) (b' := true) rfl (decide_eq_true (rfl)) ?_
    refine RD.takeS 36 (listed' := #[true, true, true, true, true, true, true, true, true, true, true, true, true, true, true, true, true, true, true, true, true, true, true, true, true, true, true, true, true, true, true, true, true, true, true, true, true, false, false, false, false, false, false, false, false, false, false, false, false, false, false, false, false, false, false, false, false, false, false, false, false]) rfl (by kernel_rfl) (by kernel_rfl) (by kernel_rfl) rfl rfl rfl (fun h' e => OpP.move rfl) rfl ?_
    refine RD.takeS 37 (listed' := #[true, true, true, true, true, true, true, true, true, true, true, true, true, true, true, true, true, true, true, true, true, true, true, true, true, true, true, true, true, true, true, true, true, true, true, true, true, true, false, false, false, false, false, false, false, false, false, false, false, false, false, false, false, false, false, false, false, false, false, false, false]) rfl (by kernel_rfl) (by kernel_rfl) (by kernel_rfl) rfl rfl rfl (fun h' e => OpP.indexSlice Tryd.underlying22 H.sz28 rfl rfl 2 rfl ah2 (by decide)) rfl ?_
    refine RD.takeS 38 (listed' := #[true, true, true, true, true, true, true, true, true, true, true, true, true, true, true, true, true, true, true, true, true, true, true, true, true, true, true, true, true, true, true, true, true, true, true, true, true, true, true, false, false, false, false, false, false, false, false, false, false, false, false, false, false, false, false, false, false, false, false, false, false]) rfl (by kernel_rfl) (by kernel_rfl) (by kernel_rfl) rfl rfl rfl (fun h' e => OpP.loadRowN H.ag28 H.sz28 rfl (row_keep ar2 (List.cons_ne_nil _ _) he6 e) (by first | rfl | simp)) rfl ?_
    refine RD.takeS 39 (listed' := #[true, true, true, true, true, true, true, true, true, true, true, true, true, true, true, true, true, true, true, true, true, true, true, true, true, true, true, true, true, true, true, true, true, true, true, true, true, true, true, true, false, false, false, false, false, false, false, false, false, false, false, false, false, false, false, false, false, false, false, false, false]) rfl (by kernel_rfl) (by kernel_rfl) (by kernel_rfl) rfl rfl rfl (fun h' e => OpP.move rfl) rfl ?_
    refine RD.takeS 40 (listed' := #[true, true, true, true, true, true, true, true, true, true, true, true, true, true, true, true, true, true, true, true, true, true, true, true, true, true, true, true, true, true, true, true, true, true, true, true, true, true, true, true, true, false, false, false, false, false, false, false, false, false, false, false, false, false, false, false, false, false, false, false, false]) rfl (by kernel_rfl) (by kernel_rfl) (by kernel_rfl) rfl rfl rfl (fun h' e => OpP.indexSlice Tryd.underlying22 H.sz28 rfl rfl 2 rfl bh2 (by decide)) rfl ?_
    refine RD.takeS 41 (listed' := #[true, true, true, true, true, true, true, true, true, true, true, true, true, true, true, true, true, true, true, true, true, true, true, true, true, true, true, true, true, true, true, true, true, true, true, true, true, true, true, true, true, true, false, false, false, false, false, false, false, false, false, false, false, false, false, false, false, false, false, false, false]) rfl (by kernel_rfl) (by kernel_rfl) (by kernel_rfl) rfl rfl rfl (fun h' e => OpP.loadRowN H.ag28 H.sz28 rfl (row_keep br2 (List.cons_ne_nil _ _) he6 e) (by first | rfl | simp)) rfl ?_
    refine RD.takeS 42 (listed' := #[true, true, true, true, true, true, true, true, true, true, true, true, true, true, true, true, true, true, true, true, true, true, true, true, true, true, true, true, true, true, true, true, true, true, true, true, true, true, true, true, true, true, true, false, false, false, false, false, false, false, false, false, false, false, false, false, false, false, false, false, false]) rfl (by kernel_rfl) (by kernel_rfl) (by kernel_rfl) rfl rfl rfl (fun h' e => OpP.eqlAgg fieldsP stoodP guardP rfl rfl (eqP _ _)) rfl ?_
    refine RD.takeS 43 (listed' := #[true, true, true, true, true, true, true, true, true, true, true, true, true, true, true, true, true, true, true, true, true, true, true, true, true, true, true, true, true, true, true, true, true, true, true, true, true, true, true, true, true, true, true, true, false, false, false, false, false, false, false, false, false, false, false, false, false, false, false, false, false]) rfl (by kernel_rfl) (by kernel_rfl) (by kernel_rfl) rfl rfl rfl (fun h' e => OpP.pickT rfl rfl) rfl ?_
    refine RD.takeS 44 (listed' := #[true, true, true, true, true, true, true, true, true, true, true, true, true, true, true, true, true, true, true, true, true, true, true, true, true, true, true, true, true, true, true, true, true, true, true, true, true, true, true, true, true, true, true, true, true, false, false, false, false, false, false, false, false, false, false, false, false, false, false, false, false]) rfl (by kernel_rfl) (by kernel_rfl) (by kernel_rfl) rfl rfl rfl (fun h' e => OpP.move rfl) rfl ?_
    refine RD.know (d := 84) (b' := true) rfl (decide_eq_true (rfl)) ?_
    refine RD.takeS 45 (listed' := #[true, true, true, true, true, true, true, true, true, true, true, true, true, true, true, true, true, true, true, true, true, true, true, true, true, true, true, true, true, true, true, true, true, true, true, true, true, true, true, true, true, true, true, true, true, true, false, false, false, false, false, false, false, false, false, false, false, false, false, false, false]) rfl (by kernel_rfl) (by kernel_rfl) (by kernel_rfl) rfl rfl rfl (fun h' e => OpP.move rfl) rfl ?_
    refine RD.takeS 46 (listed' := #[true, true, true, true, true, true, true, true, true, true, true, true, true, true, true, true, true, true, true, true, true, true, true, true, true, true, true, true, true, true, true, true, true, true, true, true, true, true, true, true, true, true, true, true, true, true, true, false, false, false, false, false, false, false, false, false, false, false, false, false, false]) rfl (by kernel_rfl) (by kernel_rfl) (by kernel_rfl) rfl rfl rfl (fun h' e => OpP.eqlInt rfl rfl) rfl ?_
    refine RD.takeS 47 (listed' := #[true, true, true, true, true, true, true, true, true, true, true, true, true, true, true, true, true, true, true, true, true, true, true, true, true, true, true, true, true, true, true, true, true, true, true, true, true, true, true, true, true, true, true, true, true, true, true, true, false, false, false, false, false, false, false, false, false, false, false, false, false]) rfl (by kernel_rfl) (by kernel_rfl) (by kernel_rfl) rfl rfl rfl (fun h' e => OpP.pickT rfl rfl) rfl ?_
    refine RD.takeS 48 (listed' := #[true, true, true, true, true, true, true, true, true, true, true, true, true, true, true, true, true, true, true, true, true, true, true, true, true, true, true, true, true, true, true, true, true, true, true, true, true, true, true, true, true, true, true, true, true, true, true, true, true, false, false, false, false, false, false, false, false, false, false, false, false]) rfl (by kernel_rfl) (by kernel_rfl) (by kernel_rfl) rfl rfl rfl (fun h' e => OpP.move rfl) rfl ?_
    refine RD.know (d := 88) (b' := true) rfl (decide_eq_true (rfl)) ?_
    refine RD.takeS 49 (listed' := #[true, true, true, true, true, true, true, true, true, true, true, true, true, true, true, true, true, true, true, true, true, true, true, true, true, true, true, true, true, true, true, true, true, true, true, true, true, true, true, true, true, true, true, true, true, true, true, true, true, true, false, false, false, false, false, false, false, false, false, false, false]) rfl (by kernel_rfl) (by kernel_rfl) (by kernel_rfl) rfl rfl rfl (fun h' e => OpP.move rfl) rfl ?_
    refine RD.takeS 50 (listed' := #[true, true, true, true, true, true, true, true, true, true, true, true, true, true, true, true, true, true, true, true, true, true, true, true, true, true, true, true, true, true, true, true, true, true, true, true, true, true, true, true, true, true, true, true, true, true, true, true, true, true, true, false, false, false, false, false, false, false, false, false, false]) rfl (by kernel_rfl) (by kernel_rfl) (by kernel_rfl) rfl rfl rfl (fun h' e => OpP.eqlInt rfl rfl) rfl ?_
    refine RD.takeS 51 (listed' := #[true, true, true, true, true, true, true, true, true, true, true, true, true, true, true, true, true, true, true, true, true, true, true, true, true, true, true, true, true, true, true, true, true, true, true, true, true, true, true, true, true, true, true, true, true, true, true, true, true, true, true, true, false, false, false, false, false, false, false, false, false]) rfl (by kernel_rfl) (by kernel_rfl) (by kernel_rfl) rfl rfl rfl (fun h' e => OpP.pickT rfl rfl) rfl ?_
    refine RD.takeS 52 (listed' := #[true, true, true, true, true, true, true, true, true, true, true, true, true, true, true, true, true, true, true, true, true, true, true, true, true, true, true, true, true, true, true, true, true, true, true, true, true, true, true, true, true, true, true, true, true, true, true, true, true, true, true, true, true, false, false, false, false, false, false, false, false]) rfl (by kernel_rfl) (by kernel_rfl) (by kernel_rfl) rfl rfl rfl (fun h' e => OpP.move rfl) rfl ?_
    refine RD.know (d := 92) (b' := true) rfl (decide_eq_true (rfl)) ?_
    refine RD.takeS 53 (listed' := #[true, true, true, true, true, true, true, true, true, true, true, true, true, true, true, true, true, true, true, true, true, true, true, true, true, true, true, true, true, true, true, true, true, true, true, true, true, true, true, true, true, true, true, true, true, true, true, true, true, true, true, true, true, true, false, false, false, false, false, false, false]) rfl (by kernel_rfl) (by kernel_rfl) (by kernel_rfl) rfl rfl rfl (fun h' e => OpP.move rfl) rfl ?_
    refine RD.takeS 54 (listed' := #[true, true, true, true, true, true, true, true, true, true, true, true, true, true, true, true, true, true, true, true, true, true, true, true, true, true, true, true, true, true, true, true, true, true, true, true, true, true, true, true, true, true, true, true, true, true, true, true, true, true, true, true, true, true, true, false, false, false, false, false, false]) rfl (by kernel_rfl) (by kernel_rfl) (by kernel_rfl) rfl rfl rfl (fun h' e => OpP.eqlInt rfl rfl) rfl ?_
    refine RD.takeS 55 (listed' := #[true, true, true, true, true, true, true, true, true, true, true, true, true, true, true, true, true, true, true, true, true, true, true, true, true, true, true, true, true, true, true, true, true, true, true, true, true, true, true, true, true, true, true, true, true, true, true, true, true, true, true, true, true, true, true, true, false, false, false, false, false]) rfl (by kernel_rfl) (by kernel_rfl) (by kernel_rfl) rfl rfl rfl (fun h' e => OpP.pickT rfl rfl) rfl ?_
    refine RD.takeS 56 (listed' := #[true, true, true, true, true, true, true, true, true, true, true, true, true, true, true, true, true, true, true, true, true, true, true, true, true, true, true, true, true, true, true, true, true, true, true, true, true, true, true, true, true, true, true, true, true, true, true, true, true, true, true, true, true, true, true, true, true, false, false, false, false]) rfl (by kernel_rfl) (by kernel_rfl) (by kernel_rfl) rfl rfl rfl (fun h' e => OpP.move rfl) rfl ?_
    refine RD.know (d := 96) (b' := true) rfl (decide_eq_true (rfl)) ?_
    refine RD.takeS 57 (listed' := #[true, true, true, true, true, true, true, true, true, true, true, true, true, true, true, true, true, true, true, true, true, true, true, true, true, true, true, true, true, true, true, true, true, true, true, true, true, true, true, true, true, true, true, true, true, true, true, true, true, true, true, true, true, true, true, true, true, true, false, false, false]) rfl (by kernel_rfl) (by kernel_rfl) (by kernel_rfl) rfl rfl rfl (fun h' e => OpP.move rfl) rfl ?_
    refine RD.takeS 58 (listed' := #[true, true, true, true, true, true, true, true, true, true, true, true, true, true, true, true, true, true, true, true, true, true, true, true, true, true, true, true, true, true, true, true, true, true, true, true, true, true, true, true, true, true, true, true, true, true, true, true, true, true, true, true, true, true, true, true, true, true, true, false, false]) rfl (by kernel_rfl) (by kernel_rfl) (by kernel_rfl) rfl rfl rfl (fun h' e => OpP.eqlInt rfl rfl) rfl ?_
    refine RD.takeS 59 (listed' := #[true, true, true, true, true, true, true, true, true, true, true, true, true, true, true, true, true, true, true, true, true, true, true, true, true, true, true, true, true, true, true, true, true, true, true, true, true, true, true, true, true, true, true, true, true, true, true, true, true, true, true, true, true, true, true, true, true, true, true, true, false]) rfl (by kernel_rfl) (by kernel_rfl) (by kernel_rfl) rfl rfl rfl (fun h' e => OpP.pickT rfl rfl) rfl ?_
    refine RD.takeS 60 (listed' := #[true, true, true, true, true, true, true, true, true, true, true, true, true, true, true, true, true, true, true, true, true, true, true, true, true, true, true, true, true, true, true, true, true, true, true, true, true, true, true, true, true, true, true, true, true, true, true, true, true, true, true, true, true, true, true, true, true, true, true, true, true]) rfl (by kernel_rfl) (by kernel_rfl) (by kernel_rfl) rfl rfl rfl (fun h' e => OpP.assign rfl) rfl ?_
    refine RD.done (by kernel_rfl) ?_
    exact ⟨(), he6, rfl, rfl, rfl, rfl, rfl, rfl, rfl, rfl, rfl, rfl, trivial⟩
  · rintro _ h6 he6
    refine G.ret Tryd.func11 rfl rfl ?_
    exact ⟨_, rfl, rfl, he1.trans (he15.trans he6)⟩

end Go.Proofs.YtmbikkapabljfaaDoor
