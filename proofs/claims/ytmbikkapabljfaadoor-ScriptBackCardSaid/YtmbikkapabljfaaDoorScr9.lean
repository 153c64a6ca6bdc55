/- script.step. -/
import Derived.Test.YtmbikkapabljfaaDoorScr8
namespace Go.Proofs.YtmbikkapabljfaaDoor
open Go Go.Lw
set_option maxRecDepth 20000

def encS (x : Stp) : List Value := [.int .i64 x.kind, .string (bs x.text), .int .i64 x.rows, .int .i64 x.cols]
theorem encS_len (x : Stp) : (encS x).length = 4 := rfl
theorem encS_one (x : Stp) : ∀ v ∈ encS x, v.oneCell' = true := by intro v hv; simp [encS] at hv; rcases hv with rfl | rfl | rfl | rfl <;> rfl
/-- What a line's step is, with whether there is one. -/
def StepIs (line : Bs) (x : Stp) (ok : Bool) : Prop := if ok then stepS line = some x else stepS line = none

theorem step_tick {line : Bs} (h : line = tickL) : stepS line = some ⟨2, [], 0, 0⟩ := by unfold stepS; rw [if_pos h]
theorem step_two {line a b : Bs} (hs : splitS 32 line = [a, b]) (ha : a = bytesL) : StepIs line ⟨1, (unquoteP b).1, 0, 0⟩ (unquoteP b).2 := by
  have ht : line ≠ tickL := by
    rintro rfl
    have h9 : splitS 32 tickL = [tickL] := by decide
    exact absurd (h9.symm.trans hs) (by simp)
  unfold StepIs stepS
  rw [if_neg ht, hs]
  cases hq : (unquoteP b).2 <;> simp [ha, hq]
theorem step_three {line a b c : Bs} (hs : splitS 32 line = [a, b, c]) (ha : a = resizeL) : StepIs line ⟨3, [], (numP b).1, (numP c).1⟩ ((numP b).2 && (numP c).2) := by
  have ht : line ≠ tickL := by
    rintro rfl
    have h9 : splitS 32 tickL = [tickL] := by decide
    exact absurd (h9.symm.trans hs) (by simp)
  unfold StepIs stepS
  rw [if_neg ht, hs]
  cases hq : (numP b).2 <;> cases hq2 : (numP c).2 <;> simp [ha, hq, hq2]
theorem step_none {line : Bs} (h0 : line ≠ tickL) (h1 : ∀ b, splitS 32 line ≠ [bytesL, b]) (h2 : ∀ b c, splitS 32 line ≠ [resizeL, b, c]) : stepS line = none := by
  unfold stepS
  rw [if_neg h0]
  split
  · rename_i a b hs
    rw [if_neg]
    rintro ⟨rfl, _⟩
    exact h1 b hs
  · rename_i a b c hs
    rw [if_neg]
    rintro ⟨rfl, _⟩
    exact h2 b c hs
  · rfl

theorem eq_lit (s : ByteArray) (l : Bs) : decide (s = bs l) = decide (s.data.toList = l) := by
  rw [← bs_of s, bs_eq, bs_of]

theorem stepP_calls {h : Heap} (hg : Glob h) (line : ByteArray) (hs : line.size ≤ 1000000) :
    CallsH Tryd.prog 21 #[.string line] h (Ret fun r h' => (∃ x ok, r = .tuple #[.agg (encS x).toArray, .bool ok] ∧ StepIs line.data.toList x ok) ∧ Ext0 h h') := by
  have hll : line.data.toList.length = line.size := by simp
  refine CallsH.of Tryd.func21 rfl rfl ?_
  refine G.seq rfl ?_
  refine G.reg Tryd.func21 rfl ?_
  refine RW.opS rfl rfl rfl rfl (OpX.allocN H.zr28) ?_
  rintro _ h1 ⟨rfl, hk1, he1, hs1⟩
  refine RW.pureS rfl rfl rfl rfl (OpP.assign rfl) ?_
  refine RW.done rfl ?_
  refine G.sub (ρ' := [(0, _), (2, _), (3, _)]) ⟨rfl, rfl, rfl, trivial⟩ ?_
  refine G.seq rfl ?_
  refine G.reg Tryd.func21 rfl ?_
  refine RW.pureS rfl rfl rfl rfl (OpP.move rfl) ?_
  refine RW.opS rfl rfl rfl rfl (OpX.call (vs := [_, _]) Tryd.func41 rfl H.nm41 rfl (CallsH.toX (split_calls (hg.ext0 he1) line 32 (bs [32]) rfl (by omega)))) ?_
  rintro v h2 ⟨l, hl, hv, he2⟩
  refine RW.pureS rfl rfl rfl rfl (OpP.assign rfl) ?_
  refine RW.done rfl ?_
  refine G.sub (ρ' := [(0, _), (2, _), (3, _), (4, _)]) ⟨rfl, rfl, rfl, rfl, trivial⟩ ?_
  refine G.seq rfl ?_
  refine G.block rfl rfl ?_
  refine G.seq rfl ?_
  refine G.reg Tryd.func21 rfl ?_
  refine RW.pureS rfl rfl rfl rfl (OpP.move rfl) ?_
  refine RW.pureS rfl rfl rfl rfl (OpP.eqlStr rfl rfl) ?_
  refine RW.pureS rfl rfl rfl rfl (OpP.assign rfl) ?_
  refine RW.done rfl ?_
  refine G.sub (ρ' := [(0, _), (2, _), (3, _), (4, _), (13, _)]) ⟨rfl, rfl, rfl, rfl, rfl, trivial⟩ ?_
  have hk2 := hk1.ext0 he2
  have hgl2 := (hg.ext0 he1).ext0 he2
  have hsz : ∀ x ∈ l, x.size ≤ 1000000 := by
    intro x hx
    have h1 : x.data.toList ∈ splitS 32 line.data.toList := by rw [← hl]; exact List.mem_map.2 ⟨x, hx, rfl⟩
    have := splitS_mem _ _ h1
    have h2 : x.data.toList.length = x.size := by simp
    omega
  obtain ⟨oa, n, c, rfl, hsl⟩ := (show SlR .str h2 (fun _ => False) v l from OwE.read (h1 := fun _ => rfl) hv (fun _ _ k => k)).open
  have hn := hsl.len
  have hn0 : 0 < n := by
    rcases Nat.eq_zero_or_pos n with h0 | h0
    · rw [List.eq_nil_of_length_eq_zero (hn.trans h0)] at hl
      exact absurd hl.symm (splitS_ne _ _)
    · exact h0
  obtain ⟨b0, o0, x0, ha0, _, hx0, hc0⟩ := hsl.at hn0
  have hhead : ∀ a r, splitS 32 line.data.toList = a :: r → a = x0.data.toList := by
    intro a r e
    rw [← hl] at e
    cases l with
    | nil => cases e
    | cons y l => simp at hx0 e; rw [← e.1, hx0]
  have hlen : (splitS 32 line.data.toList).length = n := by rw [← hl]; simp [hn]
  refine G.ite rfl rfl (fun htick => ?_) (fun htick => ?_)
  · have ht : line.data.toList = tickL := by have : line = bs tickL := htick; rw [this, bs_list]
    refine G.seq rfl ?_
    refine G.reg Tryd.func21 rfl ?_
    refine RW.pureS rfl rfl rfl rfl (OpP.build (H.bd28_0 _) rfl) ?_
    refine RW.op0 rfl rfl rfl (OpX.storeBlk H.sz28 rfl rfl hk2 rfl (by first | decide | simp | (simp; omega)) (by first | decide | simp [Value.oneCell'])) ?_
    rintro _ h3 ⟨rfl, hk3, hx3, hs3⟩
    refine RW.pureS rfl rfl rfl rfl (OpP.assign rfl) ?_
    refine RW.done rfl ?_
    refine G.sub (ρ' := [(0, _), (2, _), (3, _), (4, _), (13, _)]) ⟨rfl, rfl, rfl, rfl, rfl, trivial⟩ ?_
    refine G.retC Tryd.func21 rfl (.cons (ResOk.rowN H.ag28 H.sz28 rfl (hk3.row) (by first | rfl | simp)) (.cons (ResOk.tmp rfl) (.nil))) ?_
    exact ⟨_, rfl, ⟨⟨2, [], 0, 0⟩, true, rfl, step_tick ht⟩, Ext0.only (he1.trans he2) hx3 (Nat.le_refl _)⟩
  · have ht : line.data.toList ≠ tickL := fun e => htick (by show line = bs tickL; rw [← e, bs_of])
    refine G.seq rfl ?_
    refine G.regTo1 [(17, .bool (decide (x0.data.toList = bytesL ∧ n = 2)))] [(0, _), (2, _), (3, _), (4, _), (13, _)] ⟨rfl, rfl, rfl, rfl, rfl, trivial⟩ Tryd.func21 rfl ?_ ?_
    · refine RW.pureS rfl rfl rfl rfl (OpP.move rfl) ?_
      refine RW.pureS rfl rfl rfl rfl (OpP.indexSlice Tryd.underlying84 H.sz9 rfl rfl 0 rfl ha0 hn0) ?_
      refine RW.pureS rfl rfl rfl rfl (OpP.load H.ag9 rfl hc0) ?_
      refine RW.pureS rfl rfl rfl rfl (OpP.eqlStr rfl rfl) ?_
      refine RW.pureS rfl rfl rfl rfl (OpP.move rfl) ?_
      refine RW.split (d := 22) rfl (fun hb => ?_) (fun hb => ?_)
      · have hb' : x0.data.toList = bytesL := of_decide_eq_true ((eq_lit x0 bytesL).symm.trans hb)
        refine RW.pureS rfl rfl rfl rfl (OpP.move rfl) ?_
        refine RW.pureS rfl rfl rfl rfl (OpP.lenSlice Tryd.underlying84 rfl) ?_
        refine RW.pureS rfl rfl rfl rfl (OpP.eqlInt rfl rfl) ?_
        refine RW.pureS rfl rfl rfl rfl (OpP.pickT rfl rfl) ?_
        refine RW.pureS rfl rfl rfl rfl (OpP.assign rfl) ?_
        refine RW.done rfl ?_
        exact ⟨rfl, at_bool rfl (by rw [decide_eq_decide]; simp [hb']; omega), rfl, rfl, rfl, rfl, rfl, trivial⟩
      · have hb' : ¬ x0.data.toList = bytesL := of_decide_eq_false ((eq_lit x0 bytesL).symm.trans hb)
        refine RW.skipS rfl rfl rfl rfl ?_
        refine RW.skipS rfl rfl rfl rfl ?_
        refine RW.skipS rfl rfl rfl rfl ?_
        refine RW.pureS rfl rfl rfl rfl (OpP.pickF rfl rfl) ?_
        refine RW.pureS rfl rfl rfl rfl (OpP.assign rfl) ?_
        refine RW.done rfl ?_
        exact ⟨rfl, at_bool rfl (by simp [hb']), rfl, rfl, rfl, rfl, rfl, trivial⟩
    · refine G.ite rfl rfl (fun hby => ?_) (fun hby => ?_)
      · obtain ⟨hb1, rfl⟩ := hby
        obtain ⟨b1, o1, x1, ha1, _, hx1, hc1⟩ := hsl.at (i := 1) (by omega)
        have hsp : splitS 32 line.data.toList = [bytesL, x1.data.toList] := by
          rw [← hl]
          match l, hn, hx0, hx1 with
          | [y0, y1], _, h0, h1 => simp at h0 h1; subst h0; subst h1; simp [hb1]
        have hq := step_two hsp rfl
        refine G.seq rfl ?_
        refine G.reg Tryd.func21 rfl ?_
        refine RW.pureS rfl rfl rfl rfl (OpP.move rfl) ?_
        refine RW.pureS rfl rfl rfl rfl (OpP.indexSlice Tryd.underlying84 H.sz9 rfl rfl 1 rfl ha1 (by omega)) ?_
        refine RW.pureS rfl rfl rfl rfl (OpP.load H.ag9 rfl hc1) ?_
        refine RW.opS rfl rfl rfl rfl (OpX.call (vs := [_]) Tryd.func42 rfl H.nm42 rfl (CallsH.toX (unquote_calls x1 (by have := hsz x1 (List.mem_of_getElem? hx1); omega)))) ?_
        rintro _ h3 ⟨rfl, he3⟩
        refine RW.pureS rfl rfl rfl rfl (OpP.move rfl) ?_
        refine RW.pureS rfl rfl rfl rfl (OpP.extract rfl rfl) ?_
        refine RW.pureS rfl rfl rfl rfl (OpP.extract rfl rfl) ?_
        refine RW.pureS rfl rfl rfl rfl (OpP.assign rfl) ?_
        refine RW.pureS rfl rfl rfl rfl (OpP.assign rfl) ?_
        refine RW.done rfl ?_
        refine G.sub (ρ' := [(0, _), (2, _), (3, _), (4, _), (5, _), (6, _), (13, _), (17, _)]) ⟨rfl, rfl, rfl, rfl, rfl, rfl, rfl, rfl, trivial⟩ ?_
        refine G.seq rfl ?_
        refine G.reg Tryd.func21 rfl ?_
        refine RW.pureS rfl rfl rfl rfl (OpP.move rfl) ?_
        refine RW.pureS rfl rfl rfl rfl (OpP.build (H.bd28_0_1 _ _) rfl) ?_
        refine RW.pureS rfl rfl rfl rfl (OpP.move rfl) ?_
        have hk3 := hk2.ext0 he3
        refine RW.op0 rfl rfl rfl (OpX.storeBlk H.sz28 rfl rfl hk3 rfl (by first | decide | simp | (simp; omega)) (by first | decide | simp [Value.oneCell'])) ?_
        rintro _ h4 ⟨rfl, hk4, hx4, hs4⟩
        refine RW.pureS rfl rfl rfl rfl (OpP.assign rfl) ?_
        refine RW.done rfl ?_
        refine G.sub (ρ' := [(0, _), (2, _), (3, _), (4, _), (5, _), (6, _), (13, _), (17, _)]) ⟨rfl, rfl, rfl, rfl, rfl, rfl, rfl, rfl, trivial⟩ ?_
        refine G.retC Tryd.func21 rfl (.cons (ResOk.rowN H.ag28 H.sz28 rfl (hk4.row) (by first | rfl | simp)) (.cons (ResOk.tmp rfl) (.nil))) ?_
        exact ⟨_, rfl, ⟨⟨1, (unquoteP x1.data.toList).1, 0, 0⟩, _, rfl, hq⟩, Ext0.only ((he1.trans he2).trans he3) hx4 (Nat.le_refl _)⟩
      · have hnb : ∀ b, splitS 32 line.data.toList ≠ [bytesL, b] := fun b e => hby ⟨(hhead _ _ e).symm, by rw [← hlen, e]; rfl⟩
        refine G.seq rfl ?_
        refine G.regTo1 [(37, .bool (decide (x0.data.toList = resizeL ∧ n = 3)))] [(0, _), (2, _), (3, _), (4, _), (13, _), (17, _)] ⟨rfl, rfl, rfl, rfl, rfl, rfl, trivial⟩ Tryd.func21 rfl ?_ ?_
        · refine RW.pureS rfl rfl rfl rfl (OpP.move rfl) ?_
          refine RW.pureS rfl rfl rfl rfl (OpP.indexSlice Tryd.underlying84 H.sz9 rfl rfl 0 rfl ha0 hn0) ?_
          refine RW.pureS rfl rfl rfl rfl (OpP.load H.ag9 rfl hc0) ?_
          refine RW.pureS rfl rfl rfl rfl (OpP.eqlStr rfl rfl) ?_
          refine RW.pureS rfl rfl rfl rfl (OpP.move rfl) ?_
          refine RW.split (d := 42) rfl (fun hb => ?_) (fun hb => ?_)
          · have hb' : x0.data.toList = resizeL := of_decide_eq_true ((eq_lit x0 resizeL).symm.trans hb)
            refine RW.pureS rfl rfl rfl rfl (OpP.move rfl) ?_
            refine RW.pureS rfl rfl rfl rfl (OpP.lenSlice Tryd.underlying84 rfl) ?_
            refine RW.pureS rfl rfl rfl rfl (OpP.eqlInt rfl rfl) ?_
            refine RW.pureS rfl rfl rfl rfl (OpP.pickT rfl rfl) ?_
            refine RW.pureS rfl rfl rfl rfl (OpP.assign rfl) ?_
            refine RW.done rfl ?_
            exact ⟨rfl, at_bool rfl (by rw [decide_eq_decide]; simp [hb']; omega), rfl, rfl, rfl, rfl, rfl, rfl, trivial⟩
          · have hb' : ¬ x0.data.toList = resizeL := of_decide_eq_false ((eq_lit x0 resizeL).symm.trans hb)
            refine RW.skipS rfl rfl rfl rfl ?_
            refine RW.skipS rfl rfl rfl rfl ?_
            refine RW.skipS rfl rfl rfl rfl ?_
            refine RW.pureS rfl rfl rfl rfl (OpP.pickF rfl rfl) ?_
            refine RW.pureS rfl rfl rfl rfl (OpP.assign rfl) ?_
            refine RW.done rfl ?_
            exact ⟨rfl, at_bool rfl (by simp [hb']), rfl, rfl, rfl, rfl, rfl, rfl, trivial⟩
        · refine G.ite rfl rfl (fun hre => ?_) (fun hre => ?_)
          · obtain ⟨hb1, rfl⟩ := hre
            obtain ⟨b1, o1, x1, ha1, _, hx1, hc1⟩ := hsl.at (i := 1) (by omega)
            obtain ⟨b2, o2, x2, ha2, _, hx2, hc2⟩ := hsl.at (i := 2) (by omega)
            have hsp : splitS 32 line.data.toList = [resizeL, x1.data.toList, x2.data.toList] := by
              rw [← hl]
              match l, hn, hx0, hx1, hx2 with
              | [y0, y1, y2], _, h0, h1, h2 => simp at h0 h1 h2; subst h0; subst h1; subst h2; simp [hb1]
            have hq := step_three hsp rfl
            refine G.seq rfl ?_
            refine G.reg Tryd.func21 rfl ?_
            refine RW.pureS rfl rfl rfl rfl (OpP.move rfl) ?_
            refine RW.pureS rfl rfl rfl rfl (OpP.indexSlice Tryd.underlying84 H.sz9 rfl rfl 1 rfl ha1 (by omega)) ?_
            refine RW.pureS rfl rfl rfl rfl (OpP.load H.ag9 rfl hc1) ?_
            refine RW.opS rfl rfl rfl rfl (OpX.call (vs := [_]) Tryd.func43 rfl H.nm43 rfl (CallsH.toX (numberP_calls hgl2 x1 (by have := hsz x1 (List.mem_of_getElem? hx1); omega)))) ?_
            rintro _ h3 ⟨rfl, he3⟩
            refine RW.pureS rfl rfl rfl rfl (OpP.move rfl) ?_
            refine RW.pureS rfl rfl rfl rfl (OpP.extract rfl rfl) ?_
            refine RW.pureS rfl rfl rfl rfl (OpP.extract rfl rfl) ?_
            refine RW.pureS rfl rfl rfl rfl (OpP.assign rfl) ?_
            refine RW.pureS rfl rfl rfl rfl (OpP.assign rfl) ?_
            refine RW.done rfl ?_
            refine G.sub (ρ' := [(0, _), (2, _), (3, _), (4, _), (7, _), (8, _), (13, _), (17, _), (37, _)]) ⟨rfl, rfl, rfl, rfl, rfl, rfl, rfl, rfl, rfl, trivial⟩ ?_
            refine G.seq rfl ?_
            refine G.reg Tryd.func21 rfl ?_
            refine RW.pureS rfl rfl rfl rfl (OpP.move rfl) ?_
            have hc23 := he3.cell (fun k => k) hc2
            refine RW.pureS rfl rfl rfl rfl (OpP.indexSlice Tryd.underlying84 H.sz9 rfl rfl 2 rfl ha2 (by omega)) ?_
            refine RW.pureS rfl rfl rfl rfl (OpP.load H.ag9 rfl hc23) ?_
            refine RW.opS rfl rfl rfl rfl (OpX.call (vs := [_]) Tryd.func43 rfl H.nm43 rfl (CallsH.toX (numberP_calls (hgl2.ext0 he3) x2 (by have := hsz x2 (List.mem_of_getElem? hx2); omega)))) ?_
            rintro _ h4 ⟨rfl, he4⟩
            refine RW.pureS rfl rfl rfl rfl (OpP.move rfl) ?_
            refine RW.pureS rfl rfl rfl rfl (OpP.extract rfl rfl) ?_
            refine RW.pureS rfl rfl rfl rfl (OpP.extract rfl rfl) ?_
            refine RW.pureS rfl rfl rfl rfl (OpP.assign rfl) ?_
            refine RW.pureS rfl rfl rfl rfl (OpP.assign rfl) ?_
            refine RW.done rfl ?_
            refine G.sub (ρ' := [(0, _), (2, _), (3, _), (4, _), (7, _), (8, _), (9, _), (10, _), (13, _), (17, _), (37, _)]) ⟨rfl, rfl, rfl, rfl, rfl, rfl, rfl, rfl, rfl, rfl, rfl, trivial⟩ ?_
            refine G.seq rfl ?_
            have hk4 := (hk2.ext0 he3).ext0 he4
            refine G.regToX (fun (_u : Unit) (h5 : Heap) => Blk h5 h.size 28 (encS ⟨3, [], (numP x1.data.toList).1, (numP x2.data.toList).1⟩) ∧ Ext0 h h5) (fun (_u : Unit) => [(3, .bool ((numP x1.data.toList).2 && (numP x2.data.toList).2))]) [(0, _), (2, _), (4, _), (7, _), (8, _), (9, _), (10, _), (13, _), (17, _), (37, _)] ⟨rfl, rfl, rfl, rfl, rfl, rfl, rfl, rfl, rfl, rfl, trivial⟩ Tryd.func21 rfl ?_ ?_
            · refine RW.pureS rfl rfl rfl rfl (OpP.move rfl) ?_
              refine RW.pureS rfl rfl rfl rfl (OpP.move rfl) ?_
              refine RW.pureS rfl rfl rfl rfl (OpP.build (H.bd28_0_2_3 _ _ _) rfl) ?_
              refine RW.pureS rfl rfl rfl rfl (OpP.move rfl) ?_
              refine RW.pureS rfl rfl rfl rfl (OpP.move rfl) ?_
              refine RW.split (d := 65) rfl (fun hone => ?_) (fun hone => ?_)
              · refine RW.pureS rfl rfl rfl rfl (OpP.move rfl) ?_
                refine RW.pureS rfl rfl rfl rfl (OpP.pickT rfl rfl) ?_
                refine RW.op0 rfl rfl rfl (OpX.storeBlk H.sz28 rfl rfl hk4 rfl (by first | decide | simp | (simp; omega)) (by first | decide | simp [Value.oneCell'])) ?_
                rintro _ h5 ⟨rfl, hk5, hx5, hs5⟩
                refine RW.pureS rfl rfl rfl rfl (OpP.assign rfl) ?_
                refine RW.done rfl ?_
                exact ⟨(), ⟨hk5, Ext0.only (((he1.trans he2).trans he3).trans he4) hx5 (Nat.le_refl _)⟩, at_bool rfl (by rw [hone, Bool.true_and]), rfl, rfl, rfl, rfl, rfl, rfl, rfl, rfl, rfl, rfl, trivial⟩
              · refine RW.skipS rfl rfl rfl rfl ?_
                refine RW.pureS rfl rfl rfl rfl (OpP.pickF rfl rfl) ?_
                refine RW.op0 rfl rfl rfl (OpX.storeBlk H.sz28 rfl rfl hk4 rfl (by first | decide | simp | (simp; omega)) (by first | decide | simp [Value.oneCell'])) ?_
                rintro _ h5 ⟨rfl, hk5, hx5, hs5⟩
                refine RW.pureS rfl rfl rfl rfl (OpP.assign rfl) ?_
                refine RW.done rfl ?_
                exact ⟨(), ⟨hk5, Ext0.only (((he1.trans he2).trans he3).trans he4) hx5 (Nat.le_refl _)⟩, at_bool rfl (by rw [hone, Bool.false_and]), rfl, rfl, rfl, rfl, rfl, rfl, rfl, rfl, rfl, rfl, trivial⟩
            · rintro _ h5 ⟨hk5, he5⟩
              refine G.retC Tryd.func21 rfl (.cons (ResOk.rowN H.ag28 H.sz28 rfl (hk5.row) (by first | rfl | simp)) (.cons (ResOk.tmp rfl) (.nil))) ?_
              exact ⟨_, rfl, ⟨_, _, rfl, hq⟩, he5⟩
          · have hnr : ∀ b c, splitS 32 line.data.toList ≠ [resizeL, b, c] := fun b c e => hre ⟨(hhead _ _ e).symm, by rw [← hlen, e]; rfl⟩
            refine G.skip rfl ?_
            refine G.blkEnd ?_
            refine G.seq rfl ?_
            refine G.reg Tryd.func21 rfl ?_
            refine RW.pureS rfl rfl rfl rfl (OpP.build (H.bd28_ ) rfl) ?_
            refine RW.op0 rfl rfl rfl (OpX.storeBlk H.sz28 rfl rfl hk2 rfl (by first | decide | simp | (simp; omega)) (by first | decide | simp [Value.oneCell'])) ?_
            rintro _ h3 ⟨rfl, hk3, hx3, hs3⟩
            refine RW.pureS rfl rfl rfl rfl (OpP.assign rfl) ?_
            refine RW.done rfl ?_
            refine G.sub (ρ' := [(0, _), (2, _), (3, _), (4, _), (13, _), (17, _), (37, _)]) ⟨rfl, rfl, rfl, rfl, rfl, rfl, rfl, trivial⟩ ?_
            refine G.retC Tryd.func21 rfl (.cons (ResOk.rowN H.ag28 H.sz28 rfl (hk3.row) (by first | rfl | simp)) (.cons (ResOk.tmp rfl) (.nil))) ?_
            exact ⟨_, rfl, ⟨⟨0, [], 0, 0⟩, false, rfl, step_none ht hnb hnr⟩, Ext0.only (he1.trans he2) hx3 (Nat.le_refl _)⟩

end Go.Proofs.YtmbikkapabljfaaDoor
