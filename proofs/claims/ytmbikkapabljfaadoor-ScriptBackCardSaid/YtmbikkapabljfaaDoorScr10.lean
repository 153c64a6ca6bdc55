/- limnerref27.step. -/
import Derived.Test.YtmbikkapabljfaaDoorScr9
namespace Go.Proofs.YtmbikkapabljfaaDoor
open Go Go.Lw
set_option maxRecDepth 20000

theorem unq_is {line b : Bs} (h : StepIs line ⟨1, (unquoteP b).1, 0, 0⟩ (unquoteP b).2) : StepIs line ⟨1, (unquoteR b).1, 0, 0⟩ (unquoteR b).2 := by
  obtain ⟨e1, e2⟩ := unquote_same b
  rw [← e1]
  cases hq : (unquoteP b).2 with
  | true => rw [hq] at h; rw [← e2 hq]; exact h
  | false => rw [hq] at h; exact h

theorem num_is {line b c : Bs} (h : StepIs line ⟨3, [], (numP b).1, (numP c).1⟩ ((numP b).2 && (numP c).2)) : StepIs line ⟨3, [], (numR b).1, (numR c).1⟩ ((numR b).2 && (numR c).2) := by
  obtain ⟨e1, e2⟩ := num_same b
  obtain ⟨e3, e4⟩ := num_same c
  rw [← e1, ← e3]
  cases hq : (numP b).2 with
  | true =>
    cases hq2 : (numP c).2 with
    | true => rw [hq, hq2] at h; rw [← e2 hq, ← e4 hq2]; exact h
    | false => rw [hq, hq2] at h; exact h
  | false => rw [hq] at h; exact h

theorem tick_of_one {line : Bs} (h : splitS 32 line = [tickL]) : line = tickL := by
  have := joinS_split 32 line
  rw [h] at this
  exact this.symm

theorem stepR_calls {h : Heap} (line : ByteArray) (hs : line.size ≤ 1000000) :
    CallsH Tryd.prog 22 #[.string line] h (Ret fun r h' => (∃ x ok, r = .tuple #[.agg (encS x).toArray, .bool ok] ∧ StepIs line.data.toList x ok) ∧ Ext0 h h') := by
  have hll : line.data.toList.length = line.size := by simp
  refine CallsH.of Tryd.func22 rfl rfl ?_
  refine G.seq rfl ?_
  refine G.reg Tryd.func22 rfl ?_
  refine RW.opS rfl rfl rfl rfl (OpX.allocN H.zr27) ?_
  rintro _ h1 ⟨rfl, hk1, he1, hs1⟩
  refine RW.pureS rfl rfl rfl rfl (OpP.assign rfl) ?_
  refine RW.done rfl ?_
  refine G.sub (ρ' := [(0, _), (2, _), (3, _)]) ⟨rfl, rfl, rfl, trivial⟩ ?_
  refine G.seq rfl ?_
  refine G.reg Tryd.func22 rfl ?_
  refine RW.pureS rfl rfl rfl rfl (OpP.move rfl) ?_
  refine RW.opS rfl rfl rfl rfl (OpX.call (vs := [_]) Tryd.func44 rfl H.nm44 rfl (CallsH.toX (words_calls line (by omega)))) ?_
  rintro v h2 ⟨l, hl, hv, he2⟩
  refine RW.pureS rfl rfl rfl rfl (OpP.assign rfl) ?_
  refine RW.done rfl ?_
  refine G.sub (ρ' := [(0, _), (2, _), (3, _), (4, _)]) ⟨rfl, rfl, rfl, rfl, trivial⟩ ?_
  refine G.seq rfl ?_
  refine G.seq rfl ?_
  have hk2 := hk1.ext0 he2
  have hsz : ∀ x ∈ l, x.size ≤ 1000000 := by
    intro x hx
    have h1 : x.data.toList ∈ splitS 32 line.data.toList := by rw [← hl]; exact List.mem_map.2 ⟨x, hx, rfl⟩
    have := splitS_mem _ _ h1
    have h2 : x.data.toList.length = x.size := by simp
    omega
  obtain ⟨oa, n, c, rfl, hsl⟩ := (show SlR .str h2 (fun _ => False) v l from OwE.read (h1 := fun _ => rfl) hv (fun _ _ k => k)).open
  have hn := hsl.len
  have hn0 : 0 < n := by
    rcases Nat.eq_zero_or_pos n with h0 | h0
    · rw [List.eq_nil_of_length_eq_zero (hn.trans h0)] at hl
      exact absurd hl.symm (splitS_ne _ _)
    · exact h0
  obtain ⟨b0, o0, x0, ha0, _, hx0, hc0⟩ := hsl.at hn0
  have hhead : ∀ a r, splitS 32 line.data.toList = a :: r → a = x0.data.toList := by
    intro a r e
    rw [← hl] at e
    cases l with
    | nil => cases e
    | cons y l => simp at hx0 e; rw [← e.1, hx0]
  have hlen : (splitS 32 line.data.toList).length = n := by rw [← hl]; simp [hn]
  refine G.regTo1 [(21, .bool (decide (n = 1 ∧ x0.data.toList = tickL)))] [(0, _), (2, _), (3, _), (4, _)] ⟨rfl, rfl, rfl, rfl, trivial⟩ Tryd.func22 rfl ?_ ?_
  · refine RW.pureS rfl rfl rfl rfl (OpP.move rfl) ?_
    refine RW.pureS rfl rfl rfl rfl (OpP.lenSlice Tryd.underlying84 rfl) ?_
    refine RW.pureS rfl rfl rfl rfl (OpP.eqlInt rfl rfl) ?_
    refine RW.pureS rfl rfl rfl rfl (OpP.move rfl) ?_
    refine RW.split (d := 16) rfl (fun hb => ?_) (fun hb => ?_)
    · have hb := of_decide_eq_true hb
      refine RW.pureS rfl rfl rfl rfl (OpP.move rfl) ?_
      refine RW.pureS rfl rfl rfl rfl (OpP.indexSlice Tryd.underlying84 H.sz9 rfl rfl 0 rfl ha0 hn0) ?_
      refine RW.pureS rfl rfl rfl rfl (OpP.load H.ag9 rfl hc0) ?_
      refine RW.pureS rfl rfl rfl rfl (OpP.eqlStr rfl rfl) ?_
      refine RW.pureS rfl rfl rfl rfl (OpP.pickT rfl rfl) ?_
      refine RW.done rfl ?_
      exact ⟨rfl, at_bool rfl (by show decide (x0 = bs tickL) = _; rw [eq_lit, decide_eq_decide]; constructor; { intro e; exact ⟨by omega, e⟩ }; { exact fun e => e.2 }), rfl, rfl, rfl, rfl, trivial⟩
    · have hb := of_decide_eq_false hb
      refine RW.skipS rfl rfl rfl rfl ?_
      refine RW.skipS rfl rfl rfl rfl ?_
      refine RW.skipS rfl rfl rfl rfl ?_
      refine RW.skipS rfl rfl rfl rfl ?_
      refine RW.pureS rfl rfl rfl rfl (OpP.pickF rfl rfl) ?_
      refine RW.done rfl ?_
      exact ⟨rfl, at_bool rfl (by symm; rw [decide_eq_false_iff_not]; omega), rfl, rfl, rfl, rfl, trivial⟩
  · refine G.ite rfl rfl (fun htick => ?_) (fun htick => ?_)
    · obtain ⟨rfl, ht0⟩ := htick
      have ht : line.data.toList = tickL := by
        apply tick_of_one
        rw [← hl]
        match l, hn, hx0 with
        | [y0], _, h0 => simp at h0; subst h0; simp [ht0]
      refine G.seq rfl ?_
      refine G.reg Tryd.func22 rfl ?_
      refine RW.pureS rfl rfl rfl rfl (OpP.build (H.bd27_0 _) rfl) ?_
      refine RW.op0 rfl rfl rfl (OpX.storeBlk H.sz27 rfl rfl hk2 rfl (by first | decide | simp | (simp; omega)) (by first | decide | simp [Value.oneCell'])) ?_
      rintro _ h3 ⟨rfl, hk3, hx3, hs3⟩
      refine RW.pureS rfl rfl rfl rfl (OpP.assign rfl) ?_
      refine RW.done rfl ?_
      refine G.sub (ρ' := [(0, _), (2, _), (3, _), (4, _), (21, _)]) ⟨rfl, rfl, rfl, rfl, rfl, trivial⟩ ?_
      refine G.retC Tryd.func22 rfl (.cons (ResOk.rowN H.ag27 H.sz27 rfl (hk3.row) (by first | rfl | simp)) (.cons (ResOk.tmp rfl) (.nil))) ?_
      exact ⟨_, rfl, ⟨⟨2, [], 0, 0⟩, true, rfl, step_tick ht⟩, Ext0.only (he1.trans he2) hx3 (Nat.le_refl _)⟩
    · have ht : line.data.toList ≠ tickL := by
        intro e
        have h9 : splitS 32 tickL = [tickL] := by decide
        have h8 : splitS 32 line.data.toList = [tickL] := by rw [e, h9]
        exact htick ⟨by rw [← hlen, h8]; rfl, (hhead _ _ h8).symm⟩
      refine G.skip rfl ?_
      refine G.seq rfl ?_
      refine G.seq rfl ?_
      refine G.regTo1 [(31, .bool (decide (n = 2 ∧ x0.data.toList = bytesL)))] [(0, _), (2, _), (3, _), (4, _), (21, _)] ⟨rfl, rfl, rfl, rfl, rfl, trivial⟩ Tryd.func22 rfl ?_ ?_
      · refine RW.pureS rfl rfl rfl rfl (OpP.move rfl) ?_
        refine RW.pureS rfl rfl rfl rfl (OpP.lenSlice Tryd.underlying84 rfl) ?_
        refine RW.pureS rfl rfl rfl rfl (OpP.eqlInt rfl rfl) ?_
        refine RW.pureS rfl rfl rfl rfl (OpP.move rfl) ?_
        refine RW.split (d := 26) rfl (fun hb => ?_) (fun hb => ?_)
        · have hb := of_decide_eq_true hb
          refine RW.pureS rfl rfl rfl rfl (OpP.move rfl) ?_
          refine RW.pureS rfl rfl rfl rfl (OpP.indexSlice Tryd.underlying84 H.sz9 rfl rfl 0 rfl ha0 hn0) ?_
          refine RW.pureS rfl rfl rfl rfl (OpP.load H.ag9 rfl hc0) ?_
          refine RW.pureS rfl rfl rfl rfl (OpP.eqlStr rfl rfl) ?_
          refine RW.pureS rfl rfl rfl rfl (OpP.pickT rfl rfl) ?_
          refine RW.done rfl ?_
          exact ⟨rfl, at_bool rfl (by show decide (x0 = bs bytesL) = _; rw [eq_lit, decide_eq_decide]; constructor; { intro e; exact ⟨by omega, e⟩ }; { exact fun e => e.2 }), rfl, rfl, rfl, rfl, rfl, trivial⟩
        · have hb := of_decide_eq_false hb
          refine RW.skipS rfl rfl rfl rfl ?_
          refine RW.skipS rfl rfl rfl rfl ?_
          refine RW.skipS rfl rfl rfl rfl ?_
          refine RW.skipS rfl rfl rfl rfl ?_
          refine RW.pureS rfl rfl rfl rfl (OpP.pickF rfl rfl) ?_
          refine RW.done rfl ?_
          exact ⟨rfl, at_bool rfl (by symm; rw [decide_eq_false_iff_not]; omega), rfl, rfl, rfl, rfl, rfl, trivial⟩
      · refine G.ite rfl rfl (fun hby => ?_) (fun hby => ?_)
        · obtain ⟨rfl, hb1⟩ := hby
          obtain ⟨b1, o1, x1, ha1, _, hx1, hc1⟩ := hsl.at (i := 1) (by omega)
          have hsp : splitS 32 line.data.toList = [bytesL, x1.data.toList] := by
            rw [← hl]
            match l, hn, hx0, hx1 with
            | [y0, y1], _, h0, h1 => simp at h0 h1; subst h0; subst h1; simp [hb1]
          have hq := unq_is (step_two hsp rfl)
          refine G.seq rfl ?_
          refine G.reg Tryd.func22 rfl ?_
          refine RW.pureS rfl rfl rfl rfl (OpP.move rfl) ?_
          refine RW.pureS rfl rfl rfl rfl (OpP.indexSlice Tryd.underlying84 H.sz9 rfl rfl 1 rfl ha1 (by omega)) ?_
          refine RW.pureS rfl rfl rfl rfl (OpP.load H.ag9 rfl hc1) ?_
          refine RW.opS rfl rfl rfl rfl (OpX.call (vs := [_]) Tryd.func45 rfl H.nm45 rfl (CallsH.toX (text_calls x1 (by have := hsz x1 (List.mem_of_getElem? hx1); omega)))) ?_
          rintro _ h3 ⟨rfl, he3⟩
          refine RW.pureS rfl rfl rfl rfl (OpP.move rfl) ?_
          refine RW.pureS rfl rfl rfl rfl (OpP.extract rfl rfl) ?_
          refine RW.pureS rfl rfl rfl rfl (OpP.extract rfl rfl) ?_
          refine RW.pureS rfl rfl rfl rfl (OpP.assign rfl) ?_
          refine RW.pureS rfl rfl rfl rfl (OpP.assign rfl) ?_
          refine RW.done rfl ?_
          refine G.sub (ρ' := [(0, _), (2, _), (3, _), (4, _), (5, _), (6, _), (21, _), (31, _)]) ⟨rfl, rfl, rfl, rfl, rfl, rfl, rfl, rfl, trivial⟩ ?_
          refine G.seq rfl ?_
          refine G.reg Tryd.func22 rfl ?_
          refine RW.pureS rfl rfl rfl rfl (OpP.move rfl) ?_
          refine RW.pureS rfl rfl rfl rfl (OpP.build (H.bd27_0_1 _ _) rfl) ?_
          refine RW.pureS rfl rfl rfl rfl (OpP.move rfl) ?_
          have hk3 := hk2.ext0 he3
          refine RW.op0 rfl rfl rfl (OpX.storeBlk H.sz27 rfl rfl hk3 rfl (by first | decide | simp | (simp; omega)) (by first | decide | simp [Value.oneCell'])) ?_
          rintro _ h4 ⟨rfl, hk4, hx4, hs4⟩
          refine RW.pureS rfl rfl rfl rfl (OpP.assign rfl) ?_
          refine RW.done rfl ?_
          refine G.sub (ρ' := [(0, _), (2, _), (3, _), (4, _), (5, _), (6, _), (21, _), (31, _)]) ⟨rfl, rfl, rfl, rfl, rfl, rfl, rfl, rfl, trivial⟩ ?_
          refine G.retC Tryd.func22 rfl (.cons (ResOk.rowN H.ag27 H.sz27 rfl (hk4.row) (by first | rfl | simp)) (.cons (ResOk.tmp rfl) (.nil))) ?_
          exact ⟨_, rfl, ⟨⟨1, (unquoteR x1.data.toList).1, 0, 0⟩, _, rfl, hq⟩, Ext0.only ((he1.trans he2).trans he3) hx4 (Nat.le_refl _)⟩
        · have hnb : ∀ b, splitS 32 line.data.toList ≠ [bytesL, b] := fun b e => hby ⟨by rw [← hlen, e]; rfl, (hhead _ _ e).symm⟩
          refine G.skip rfl ?_
          refine G.seq rfl ?_
          refine G.seq rfl ?_
          refine G.regTo1 [(50, .bool (decide (n = 3 ∧ x0.data.toList = resizeL)))] [(0, _), (2, _), (3, _), (4, _), (21, _), (31, _)] ⟨rfl, rfl, rfl, rfl, rfl, rfl, trivial⟩ Tryd.func22 rfl ?_ ?_
          · refine RW.pureS rfl rfl rfl rfl (OpP.move rfl) ?_
            refine RW.pureS rfl rfl rfl rfl (OpP.lenSlice Tryd.underlying84 rfl) ?_
            refine RW.pureS rfl rfl rfl rfl (OpP.eqlInt rfl rfl) ?_
            refine RW.pureS rfl rfl rfl rfl (OpP.move rfl) ?_
            refine RW.split (d := 45) rfl (fun hb => ?_) (fun hb => ?_)
            · have hb := of_decide_eq_true hb
              refine RW.pureS rfl rfl rfl rfl (OpP.move rfl) ?_
              refine RW.pureS rfl rfl rfl rfl (OpP.indexSlice Tryd.underlying84 H.sz9 rfl rfl 0 rfl ha0 hn0) ?_
              refine RW.pureS rfl rfl rfl rfl (OpP.load H.ag9 rfl hc0) ?_
              refine RW.pureS rfl rfl rfl rfl (OpP.eqlStr rfl rfl) ?_
              refine RW.pureS rfl rfl rfl rfl (OpP.pickT rfl rfl) ?_
              refine RW.done rfl ?_
              exact ⟨rfl, at_bool rfl (by show decide (x0 = bs resizeL) = _; rw [eq_lit, decide_eq_decide]; constructor; { intro e; exact ⟨by omega, e⟩ }; { exact fun e => e.2 }), rfl, rfl, rfl, rfl, rfl, rfl, trivial⟩
            · have hb := of_decide_eq_false hb
              refine RW.skipS rfl rfl rfl rfl ?_
              refine RW.skipS rfl rfl rfl rfl ?_
              refine RW.skipS rfl rfl rfl rfl ?_
              refine RW.skipS rfl rfl rfl rfl ?_
              refine RW.pureS rfl rfl rfl rfl (OpP.pickF rfl rfl) ?_
              refine RW.done rfl ?_
              exact ⟨rfl, at_bool rfl (by symm; rw [decide_eq_false_iff_not]; omega), rfl, rfl, rfl, rfl, rfl, rfl, trivial⟩
          · refine G.ite rfl rfl (fun hre => ?_) (fun hre => ?_)
            · obtain ⟨rfl, hb1⟩ := hre
              obtain ⟨b1, o1, x1, ha1, _, hx1, hc1⟩ := hsl.at (i := 1) (by omega)
              obtain ⟨b2, o2, x2, ha2, _, hx2, hc2⟩ := hsl.at (i := 2) (by omega)
              have hsp : splitS 32 line.data.toList = [resizeL, x1.data.toList, x2.data.toList] := by
                rw [← hl]
                match l, hn, hx0, hx1, hx2 with
                | [y0, y1, y2], _, h0, h1, h2 => simp at h0 h1 h2; subst h0; subst h1; subst h2; simp [hb1]
              have hq := num_is (step_three hsp rfl)
              refine G.seq rfl ?_
              refine G.reg Tryd.func22 rfl ?_
              refine RW.pureS rfl rfl rfl rfl (OpP.move rfl) ?_
              refine RW.pureS rfl rfl rfl rfl (OpP.indexSlice Tryd.underlying84 H.sz9 rfl rfl 1 rfl ha1 (by omega)) ?_
              refine RW.pureS rfl rfl rfl rfl (OpP.load H.ag9 rfl hc1) ?_
              refine RW.opS rfl rfl rfl rfl (OpX.call (vs := [_]) Tryd.func46 rfl H.nm46 rfl (CallsH.toX (numberR2_calls x1 (by have := hsz x1 (List.mem_of_getElem? hx1); omega)))) ?_
              rintro _ _ ⟨rfl, rfl⟩
              refine RW.pureS rfl rfl rfl rfl (OpP.move rfl) ?_
              refine RW.pureS rfl rfl rfl rfl (OpP.extract rfl rfl) ?_
              refine RW.pureS rfl rfl rfl rfl (OpP.extract rfl rfl) ?_
              refine RW.pureS rfl rfl rfl rfl (OpP.assign rfl) ?_
              refine RW.pureS rfl rfl rfl rfl (OpP.assign rfl) ?_
              refine RW.done rfl ?_
              refine G.sub (ρ' := [(0, _), (2, _), (3, _), (4, _), (7, _), (8, _), (21, _), (31, _), (50, _)]) ⟨rfl, rfl, rfl, rfl, rfl, rfl, rfl, rfl, rfl, trivial⟩ ?_
              refine G.seq rfl ?_
              refine G.reg Tryd.func22 rfl ?_
              refine RW.pureS rfl rfl rfl rfl (OpP.move rfl) ?_
              refine RW.pureS rfl rfl rfl rfl (OpP.indexSlice Tryd.underlying84 H.sz9 rfl rfl 2 rfl ha2 (by omega)) ?_
              refine RW.pureS rfl rfl rfl rfl (OpP.load H.ag9 rfl hc2) ?_
              refine RW.opS rfl rfl rfl rfl (OpX.call (vs := [_]) Tryd.func46 rfl H.nm46 rfl (CallsH.toX (numberR2_calls x2 (by have := hsz x2 (List.mem_of_getElem? hx2); omega)))) ?_
              rintro _ _ ⟨rfl, rfl⟩
              refine RW.pureS rfl rfl rfl rfl (OpP.move rfl) ?_
              refine RW.pureS rfl rfl rfl rfl (OpP.extract rfl rfl) ?_
              refine RW.pureS rfl rfl rfl rfl (OpP.extract rfl rfl) ?_
              refine RW.pureS rfl rfl rfl rfl (OpP.assign rfl) ?_
              refine RW.pureS rfl rfl rfl rfl (OpP.assign rfl) ?_
              refine RW.done rfl ?_
              refine G.sub (ρ' := [(0, _), (2, _), (3, _), (4, _), (7, _), (8, _), (9, _), (10, _), (21, _), (31, _), (50, _)]) ⟨rfl, rfl, rfl, rfl, rfl, rfl, rfl, rfl, rfl, rfl, rfl, trivial⟩ ?_
              refine G.seq rfl ?_
              refine G.regToX (fun (_u : Unit) (h5 : Heap) => Blk h5 h.size 27 (encS ⟨3, [], (numR x1.data.toList).1, (numR x2.data.toList).1⟩) ∧ Ext0 h h5) (fun (_u : Unit) => [(3, .bool ((numR x1.data.toList).2 && (numR x2.data.toList).2))]) [(0, _), (2, _), (4, _), (7, _), (8, _), (9, _), (10, _), (21, _), (31, _), (50, _)] ⟨rfl, rfl, rfl, rfl, rfl, rfl, rfl, rfl, rfl, rfl, trivial⟩ Tryd.func22 rfl ?_ ?_
              · refine RW.pureS rfl rfl rfl rfl (OpP.move rfl) ?_
                refine RW.pureS rfl rfl rfl rfl (OpP.move rfl) ?_
                refine RW.pureS rfl rfl rfl rfl (OpP.build (H.bd27_0_2_3 _ _ _) rfl) ?_
                refine RW.pureS rfl rfl rfl rfl (OpP.move rfl) ?_
                refine RW.pureS rfl rfl rfl rfl (OpP.move rfl) ?_
                refine RW.split (d := 69) rfl (fun hone => ?_) (fun hone => ?_)
                · refine RW.pureS rfl rfl rfl rfl (OpP.move rfl) ?_
                  refine RW.pureS rfl rfl rfl rfl (OpP.pickT rfl rfl) ?_
                  refine RW.op0 rfl rfl rfl (OpX.storeBlk H.sz27 rfl rfl hk2 rfl (by first | decide | simp | (simp; omega)) (by first | decide | simp [Value.oneCell'])) ?_
                  rintro _ h5 ⟨rfl, hk5, hx5, hs5⟩
                  refine RW.pureS rfl rfl rfl rfl (OpP.assign rfl) ?_
                  refine RW.done rfl ?_
                  exact ⟨(), ⟨hk5, Ext0.only (he1.trans he2) hx5 (Nat.le_refl _)⟩, at_bool rfl (by rw [hone, Bool.true_and]), rfl, rfl, rfl, rfl, rfl, rfl, rfl, rfl, rfl, rfl, trivial⟩
                · refine RW.skipS rfl rfl rfl rfl ?_
                  refine RW.pureS rfl rfl rfl rfl (OpP.pickF rfl rfl) ?_
                  refine RW.op0 rfl rfl rfl (OpX.storeBlk H.sz27 rfl rfl hk2 rfl (by first | decide | simp | (simp; omega)) (by first | decide | simp [Value.oneCell'])) ?_
                  rintro _ h5 ⟨rfl, hk5, hx5, hs5⟩
                  refine RW.pureS rfl rfl rfl rfl (OpP.assign rfl) ?_
                  refine RW.done rfl ?_
                  exact ⟨(), ⟨hk5, Ext0.only (he1.trans he2) hx5 (Nat.le_refl _)⟩, at_bool rfl (by rw [hone, Bool.false_and]), rfl, rfl, rfl, rfl, rfl, rfl, rfl, rfl, rfl, rfl, trivial⟩
              · rintro _ h5 ⟨hk5, he5⟩
                refine G.retC Tryd.func22 rfl (.cons (ResOk.rowN H.ag27 H.sz27 rfl (hk5.row) (by first | rfl | simp)) (.cons (ResOk.tmp rfl) (.nil))) ?_
                exact ⟨_, rfl, ⟨_, _, rfl, hq⟩, he5⟩
            · have hnr : ∀ b c, splitS 32 line.data.toList ≠ [resizeL, b, c] := fun b c e => hre ⟨by rw [← hlen, e]; rfl, (hhead _ _ e).symm⟩
              refine G.skip rfl ?_
              refine G.seq rfl ?_
              refine G.reg Tryd.func22 rfl ?_
              refine RW.pureS rfl rfl rfl rfl (OpP.build (H.bd27_ ) rfl) ?_
              refine RW.op0 rfl rfl rfl (OpX.storeBlk H.sz27 rfl rfl hk2 rfl (by first | decide | simp | (simp; omega)) (by first | decide | simp [Value.oneCell'])) ?_
              rintro _ h3 ⟨rfl, hk3, hx3, hs3⟩
              refine RW.pureS rfl rfl rfl rfl (OpP.assign rfl) ?_
              refine RW.done rfl ?_
              refine G.sub (ρ' := [(0, _), (2, _), (3, _), (4, _), (21, _), (31, _), (50, _)]) ⟨rfl, rfl, rfl, rfl, rfl, rfl, rfl, trivial⟩ ?_
              refine G.retC Tryd.func22 rfl (.cons (ResOk.rowN H.ag27 H.sz27 rfl (hk3.row) (by first | rfl | simp)) (.cons (ResOk.tmp rfl) (.nil))) ?_
              exact ⟨_, rfl, ⟨⟨0, [], 0, 0⟩, false, rfl, step_none ht hnb hnr⟩, Ext0.only (he1.trans he2) hx3 (Nat.le_refl _)⟩

end Go.Proofs.YtmbikkapabljfaaDoor
