/- limnerlaw27.ScriptBack. (printed by gen19.py) -/
import Derived.Test.YtmbikkapabljfaaDoorScr18
namespace Go.Proofs.YtmbikkapabljfaaDoor
open Go Go.Lw
set_option maxRecDepth 20000

theorem norm_fine {x y : Stp} (hx : Fine x) (h : normS x = some y) : Fine y := by
  unfold normS at h
  split at h
  · cases h; exact ⟨⟨by show _ ≤ (0 : Int) ∧ (0 : Int) ≤ _; omega, by show _ ≤ (0 : Int) ∧ (0 : Int) ≤ _; omega⟩, hx.text⟩
  · split at h
    · cases h; exact ⟨⟨by show _ ≤ (0 : Int) ∧ (0 : Int) ≤ _; omega, by show _ ≤ (0 : Int) ∧ (0 : Int) ≤ _; omega⟩, by simp⟩
    · split at h
      · cases h; exact ⟨⟨hx.rows, hx.cols⟩, by simp⟩
      · cases h

theorem norm_at {l : List Stp} {i : Nat} {x y : Stp} (hx : l[i]? = some x) (h : normS x = some y) :
    (l.filterMap normS)[((l.take i).filterMap normS).length]? = some y ∧ ((l.take (i + 1)).filterMap normS).length = ((l.take i).filterMap normS).length + 1 := by
  have ht : l.take (i + 1) = l.take i ++ [x] := by rw [List.take_add_one, hx]; rfl
  have e : l.filterMap normS = (l.take i).filterMap normS ++ y :: (l.drop (i + 1)).filterMap normS := by
    conv => lhs; rw [← List.take_append_drop (i + 1) l, ht]
    simp [h]
  constructor
  · rw [e, List.getElem?_append_right (Nat.le_refl _)]; simp
  · rw [ht]; simp [h]

theorem norm_skip {l : List Stp} {i : Nat} {x : Stp} (hx : l[i]? = some x) (h : normS x = none) : ((l.take (i + 1)).filterMap normS).length = ((l.take i).filterMap normS).length := by
  rw [List.take_add_one, hx]; simp [h]

theorem putStep_len2 {x : Stp} (h : Fine x) (h1 : x.text.length ≤ 1000) : (putStep x).length ≤ 4000 := by
  have h2 := quoteL_len x.text
  have h3 := itoa_len h.rows
  have h4 := itoa_len h.cols
  have e1 : bytesL.length = 5 := rfl
  have e2 : tickL.length = 4 := rfl
  have e3 : resizeL.length = 6 := rfl
  unfold putStep
  split
  · simp only [List.length_append, List.length_cons, List.length_nil]; omega
  · split
    · simp only [List.length_append, List.length_cons, List.length_nil]; omega
    · split
      · simp only [List.length_append, List.length_cons, List.length_nil]; omega
      · simp

theorem putL_len2 : ∀ (l : List Stp), (∀ x ∈ l, Fine x) → (∀ x ∈ l, x.text.length ≤ 1000) → (putL l).length ≤ 4000 * l.length
  | [], _, _ => by simp [putL]
  | x :: l, h, h' => by
    have h1 := putStep_len2 (h x (by simp)) (h' x (by simp))
    have h2 := putL_len2 l (fun y hy => h y (by simp [hy])) (fun y hy => h' y (by simp [hy]))
    have e : putL (x :: l) = putStep x ++ putL l := rfl
    rw [e, List.length_append, List.length_cons]; omega

theorem back_calls {h : Heap} (hg : Glob h) {v : Value} {l : List Stp} (hv : SlR eStep h (fun _ => False) v l) (hok : ∀ x ∈ l, x.Ok) :
    CallsH Tryd.prog 4 #[v] h (Ret fun r h' => r = .bool true ∧ Ext0 h h') := by
  have hlm : l.length ≤ maxLen := by obtain ⟨_, n, c, _, hn, hc, hm, _⟩ := hv; omega
  refine CallsH.of Tryd.func4 rfl rfl ?_
  refine G.seq rfl ?_
  refine G.reg Tryd.func4 rfl ?_
  refine RW.pureS rfl rfl rfl rfl (OpP.assign rfl) ?_
  refine RW.done rfl ?_
  refine G.sub (ρ' := [(0, _), (2, _)]) ⟨rfl, rfl, trivial⟩ ?_
  refine G.seq rfl ?_
  refine G.seq rfl ?_
  refine G.reg Tryd.func4 rfl ?_
  refine RW.pureS rfl rfl rfl rfl (OpP.move rfl) ?_
  refine RW.opS rfl rfl rfl rfl (OpX.call (vs := [_, _]) Tryd.func10 rfl H.nm10 rfl (CallsH.toX (great_calls hv hlm))) ?_
  rintro _ h ⟨⟨b, rfl, hb⟩, rfl⟩
  refine RW.done rfl ?_
  refine G.sub (ρ' := [(0, _), (2, _), (11, _)]) ⟨rfl, rfl, rfl, trivial⟩ ?_
  refine G.cond rfl rfl (fun hbig => ?_) (fun hbig => ?_)
  · refine G.seq rfl ?_
    refine G.reg Tryd.func4 rfl ?_
    refine RW.opS rfl rfl rfl rfl (OpX.call (vs := []) Tryd.func11 rfl H.nm11 rfl (CallsH.toX (said_calls hg))) ?_
    rintro _ h1 ⟨rfl, he1⟩
    refine RW.pureS rfl rfl rfl rfl (OpP.assign rfl) ?_
    refine RW.done rfl ?_
    refine G.sub (ρ' := [(0, _), (2, _), (11, _)]) ⟨rfl, rfl, rfl, trivial⟩ ?_
    refine G.ret Tryd.func4 rfl rfl ?_
    exact ⟨_, rfl, rfl, he1⟩
  · have hbig : b = false := by simpa using hbig
    obtain ⟨hl60, htx⟩ := hb hbig
    have hf : ∀ x ∈ l, Fine x := fun x hx => ⟨hok x hx, by have := htx x hx; omega⟩
    have hpl := putL_len2 l hf htx
    have hgp : getS (putL l) = .inr (l.filterMap normS) := getL_put l 0 hok
    have hfm : ∀ x ∈ l.filterMap normS, Fine x := fun y hy => by obtain ⟨x, hx, hxy⟩ := List.mem_filterMap.1 hy; exact norm_fine (hf x hx) hxy
    have hml : (l.filterMap normS).length ≤ l.length := List.length_filterMap_le _ _
    have hpm := putL_norm l
    generalize hM : l.filterMap normS = M at hgp hfm hml hpm
    obtain ⟨oa, n, c, rfl, hsl⟩ := hv.open
    have hn := hsl.len
    refine G.skip rfl ?_
    refine G.seq rfl ?_
    refine G.reg Tryd.func4 rfl ?_
    refine RW.pureS rfl rfl rfl rfl (OpP.move rfl) ?_
    refine RW.opS rfl rfl rfl rfl (OpX.call (vs := [_]) Tryd.func14 rfl H.nm14 rfl (CallsH.toX (put_calls hg hv (by omega) hf))) ?_
    rintro _ h1 ⟨rfl, he1⟩
    refine RW.pureS rfl rfl rfl rfl (OpP.assign rfl) ?_
    refine RW.done rfl ?_
    refine G.sub (ρ' := [(0, _), (2, _), (3, _), (11, _)]) ⟨rfl, rfl, rfl, rfl, trivial⟩ ?_
    refine G.seq rfl ?_
    refine G.reg Tryd.func4 rfl ?_
    refine RW.pureS rfl rfl rfl rfl (OpP.move rfl) ?_
    have hg1 := hg.ext0 he1
    refine RW.opS rfl rfl rfl rfl (OpX.call (vs := [_]) Tryd.func12 rfl H.nm12 rfl (CallsH.toX (get_two hg1 (bs (putL l)) (by rw [bs_size]; omega)))) ?_
    rintro _ h2 ⟨⟨w, m, e, rfl, hca⟩, he2⟩
    refine RW.pureS rfl rfl rfl rfl (OpP.move rfl) ?_
    refine RW.pureS rfl rfl rfl rfl (OpP.extract rfl rfl) ?_
    refine RW.pureS rfl rfl rfl rfl (OpP.extract rfl rfl) ?_
    refine RW.pureS rfl rfl rfl rfl (OpP.extract rfl rfl) ?_
    refine RW.pureS rfl rfl rfl rfl (OpP.assign rfl) ?_
    refine RW.pureS rfl rfl rfl rfl (OpP.assign rfl) ?_
    refine RW.pureS rfl rfl rfl rfl (OpP.assign rfl) ?_
    refine RW.done rfl ?_
    refine G.sub (ρ' := [(0, _), (2, _), (3, _), (4, _), (5, _), (6, _), (11, _)]) ⟨rfl, rfl, rfl, rfl, rfl, rfl, rfl, trivial⟩ ?_
    refine G.seq rfl ?_
    refine G.seq rfl ?_
    have hg2 := hg1.ext0 he2
    obtain ⟨rfl, rfl, hwM⟩ : e = 0 ∧ m = 0 ∧ SlR eStep h2 (fun _ => False) w M := by
      rw [bs_list, hgp] at hca
      rcases hca with ⟨_, _, k⟩ | ⟨h1, h2, l', hl', k⟩
      · cases k
      · cases hl'; exact ⟨h1, h2, k⟩
    obtain ⟨oa1, n1, c1, rfl, hsM⟩ := hwM.open
    have hn1 := hsM.len
    refine G.regToX (fun (_u : Unit) (h' : Heap) => Ext0 h2 h') (fun (_u : Unit) => [(32, .bool false)]) [(0, _), (2, _), (3, _), (4, _), (5, _), (6, _), (11, _)] ⟨rfl, rfl, rfl, rfl, rfl, rfl, rfl, trivial⟩ Tryd.func4 rfl ?_ ?_
    · refine RW.pureS rfl rfl rfl rfl (OpP.move rfl) ?_
      refine RW.pureS rfl rfl rfl rfl (OpP.neqInt rfl rfl) ?_
      refine RW.pureS rfl rfl rfl rfl (OpP.move rfl) ?_
      refine RW.know (d := 23) (b' := false) rfl (decide_eq_false (by simp)) ?_
      refine RW.pureS rfl rfl rfl rfl (OpP.move rfl) ?_
      refine RW.pureS rfl rfl rfl rfl (OpP.neqInt rfl rfl) ?_
      refine RW.pureS rfl rfl rfl rfl (OpP.pickF rfl rfl) ?_
      refine RW.pureS rfl rfl rfl rfl (OpP.move rfl) ?_
      refine RW.know (d := 27) (b' := false) rfl (decide_eq_false (by simp)) ?_
      refine RW.pureS rfl rfl rfl rfl (OpP.move rfl) ?_
      refine RW.opS rfl rfl rfl rfl (OpX.call (vs := [_]) Tryd.func14 rfl H.nm14 rfl (CallsH.toX (put_calls hg2 hwM (by omega) hfm))) ?_
      rintro _ h3 ⟨rfl, he3⟩
      refine RW.pureS rfl rfl rfl rfl (OpP.move rfl) ?_
      refine RW.pureS rfl rfl rfl rfl (OpP.neqStr rfl rfl) ?_
      refine RW.pureS rfl rfl rfl rfl (OpP.pickF rfl rfl) ?_
      refine RW.done rfl ?_
      exact ⟨(), he3, at_bool rfl (by simp [hpm]), rfl, rfl, rfl, rfl, rfl, rfl, rfl, trivial⟩
    · rintro _ h3 he3
      have hg3 := hg2.ext0 he3
      have he13 := he1.trans (he2.trans he3)
      have hsl3 := hsl.mv (Mv.ext0 he13)
      have hsM3 := hsM.mv (Mv.ext0 he3)
      refine G.cond rfl rfl (fun hc => absurd hc (by simp)) (fun _ => ?_)
      refine G.skip rfl ?_
      refine G.seq rfl ?_
      refine G.reg Tryd.func4 rfl ?_
      refine RW.pureS rfl rfl rfl rfl (OpP.assign rfl) ?_
      refine RW.done rfl ?_
      refine G.sub (ρ' := [(0, _), (2, _), (3, _), (4, _), (5, _), (6, _), (7, _), (11, _), (32, _)]) ⟨rfl, rfl, rfl, rfl, rfl, rfl, rfl, rfl, rfl, trivial⟩ ?_
      refine G.seq rfl ?_
      refine G.seq rfl ?_
      refine G.reg Tryd.func4 rfl ?_
      refine RW.pureS rfl rfl rfl rfl (OpP.assign rfl) ?_
      refine RW.done rfl ?_
      refine G.sub (ρ' := [(0, _), (2, _), (3, _), (4, _), (5, _), (6, _), (7, _), (8, _), (11, _), (32, _)]) ⟨rfl, rfl, rfl, rfl, rfl, rfl, rfl, rfl, rfl, rfl, trivial⟩ ?_
      refine G.block rfl rfl ?_
      refine G.loop (σ := Nat × Nat) (fun q => [(0, .slice oa n c), (3, .string (bs (putL l))), (4, .slice oa1 n1 c1), (7, .int .i64 q.2), (8, .int .i64 q.1)]) (fun q h' => Ext0 h3 h' ∧ q.1 ≤ n ∧ q.2 = ((l.take q.1).filterMap normS).length) (fun q => n - q.1) ((0, 0)) rfl ⟨rfl, rfl, rfl, rfl, rfl, trivial⟩ ⟨Ext.refl _ _, Nat.zero_le _, rfl⟩ ?_
      rintro ⟨i, many⟩ h4 ⟨he4, hi, hmany⟩ ih
      try dsimp only
      dsimp only at hi hmany
      refine G.seq rfl ?_
      refine G.seq rfl ?_
      refine G.reg Tryd.func4 rfl ?_
      refine RW.pureS rfl rfl rfl rfl (OpP.move rfl) ?_
      refine RW.pureS rfl rfl rfl rfl (OpP.move rfl) ?_
      refine RW.pureS rfl rfl rfl rfl (OpP.lenSlice Tryd.underlying22 rfl) ?_
      refine RW.pureS rfl rfl rfl rfl (OpP.lss rfl rfl) ?_
      refine RW.done rfl ?_
      refine G.sub (ρ' := [(0, _), (3, _), (4, _), (7, _), (8, _), (36, _)]) ⟨rfl, rfl, rfl, rfl, rfl, rfl, trivial⟩ ?_
      refine G.ite rfl rfl (fun hlt => ?_) (fun hlt => ?_)
      · have hlt' : i < n := by omega
        have hsl4 := hsl3.mv (Mv.ext0 he4)
        obtain ⟨b, o, x, ha, _, hx, hrow⟩ := hsl4.recd hlt'
        refine G.skip rfl ?_
        refine G.seq rfl ?_
        refine G.block rfl rfl ?_
        refine G.seq rfl ?_
        refine G.reg Tryd.func4 rfl ?_
        refine RW.pureS rfl rfl rfl rfl (OpP.move rfl) ?_
        refine RW.pureS rfl rfl rfl rfl (OpP.move rfl) ?_
        refine RW.pureS rfl rfl rfl rfl (OpP.indexSlice Tryd.underlying22 H.sz28 rfl rfl i rfl ha hlt') ?_
        refine RW.pureS rfl rfl rfl rfl (OpP.loadRowN H.ag28 H.sz28 rfl hrow (by first | rfl | simp)) ?_
        refine RW.opS rfl rfl rfl rfl (OpX.allocN H.zr28) ?_
        rintro _ h5 ⟨rfl, hk5, he5, hs5⟩
        refine RW.op0 rfl rfl rfl (OpX.storeBlk H.sz28 rfl rfl hk5 rfl (by first | decide | simp | (simp; omega)) (encS_one x)) ?_
        rintro _ h6 ⟨rfl, hk6, hx6, hs6⟩
        refine RW.done rfl ?_
        refine G.sub (ρ' := [(0, _), (3, _), (4, _), (7, _), (8, _), (9, _), (36, _)]) ⟨rfl, rfl, rfl, rfl, rfl, rfl, rfl, trivial⟩ ?_
        refine G.seq rfl ?_
        refine G.seq rfl ?_
        have he6 : Ext0 h4 h6 := Ext0.only he5 hx6 (Nat.le_refl _)
        have hk6' : Blk h6 h4.size 28 [.int .i64 x.kind, .string (bs x.text), .int .i64 x.rows, .int .i64 x.cols] := hk6
        have fin : ∀ (many' : Nat) (h' : Heap) (ρ' : Env), Sub [(0, .slice oa n c), (3, .string (bs (putL l))), (4, .slice oa1 n1 c1), (7, .int .i64 many'), (8, .int .i64 i)] ρ' → Ext0 h4 h' → many' = ((l.take (i + 1)).filterMap normS).length → G Tryd.prog 4 Tryd.f4 [.code [1, 1, 0, 0, 1, 0, 1, 1, 1, 1, 1, 1], .loop [0, 0, 1, 0, 1, 1, 1, 1, 1, 1], .blk 0, .code [1, 1, 1, 1, 1, 1, 1]] ρ' h' (Ret fun r h' => r = .bool true ∧ Ext0 h h') := by
          rintro many' hh ρ' hsub hee hm'
          refine G.sub (ρ' := [(0, .slice oa n c), (3, .string (bs (putL l))), (4, .slice oa1 n1 c1), (7, .int .i64 many'), (8, .int .i64 i)]) hsub ?_
          refine G.reg Tryd.func4 rfl ?_
          refine RW.pureS rfl rfl rfl rfl (OpP.move rfl) ?_
          refine RW.pureS rfl rfl rfl rfl (OpP.add64 rfl rfl ⟨by omega, by omega⟩) ?_
          refine RW.pureS rfl rfl rfl rfl (OpP.assign rfl) ?_
          refine RW.done rfl ?_
          refine G.sub (ρ' := [(0, _), (3, _), (4, _), (7, _), (8, _)]) ⟨rfl, rfl, rfl, rfl, rfl, trivial⟩ ?_
          exact ih (i + 1, many') _ _ ⟨rfl, rfl, rfl, rfl, rfl, trivial⟩ ⟨he4.trans hee, by show i + 1 ≤ n; omega, hm'⟩ (by show n - (i + 1) < n - i; omega)
        refine G.regTo1 [(50, .bool (decide (x.kind < 1 ∨ 3 < x.kind)))] [(0, _), (3, _), (4, _), (7, _), (8, _), (9, _), (36, _)] ⟨rfl, rfl, rfl, rfl, rfl, rfl, rfl, trivial⟩ Tryd.func4 rfl ?_ ?_
        · refine RW.pureS rfl rfl rfl rfl (OpP.fieldAddr (off := 0) Tryd.underlying28 rfl rfl H.sz3 rfl) ?_
          refine RW.pureS rfl rfl rfl rfl (OpP.load H.ag3 rfl (hk6'.cell (i := 0) rfl)) ?_
          refine RW.pureS rfl rfl rfl rfl (OpP.lss rfl rfl) ?_
          refine RW.pureS rfl rfl rfl rfl (OpP.move rfl) ?_
          refine RW.split (d := 46) rfl (fun hg1 => ?_) (fun hg1 => ?_)
          · refine RW.skipS rfl rfl rfl rfl ?_
            refine RW.skipS rfl rfl rfl rfl ?_
            refine RW.skipS rfl rfl rfl rfl ?_
            refine RW.pureS rfl rfl rfl rfl (OpP.pickT rfl rfl) ?_
            refine RW.done rfl ?_
            exact ⟨rfl, at_bool rfl (by have := of_decide_eq_true hg1; simp; omega), rfl, rfl, rfl, rfl, rfl, rfl, rfl, trivial⟩
          · refine RW.pureS rfl rfl rfl rfl (OpP.fieldAddr (off := 0) Tryd.underlying28 rfl rfl H.sz3 rfl) ?_
            refine RW.pureS rfl rfl rfl rfl (OpP.load H.ag3 rfl (hk6'.cell (i := 0) rfl)) ?_
            refine RW.pureS rfl rfl rfl rfl (OpP.gtr rfl rfl) ?_
            refine RW.pureS rfl rfl rfl rfl (OpP.pickF rfl rfl) ?_
            refine RW.done rfl ?_
            exact ⟨rfl, at_bool rfl (by have := of_decide_eq_false hg1; simp; omega), rfl, rfl, rfl, rfl, rfl, rfl, rfl, trivial⟩
        · refine G.ite rfl rfl (fun hnone => ?_) (fun hnone => ?_)
          · have hnn : normS x = none := by unfold normS; rw [if_neg (by omega), if_neg (by omega), if_neg (by omega)]
            refine G.exit rfl rfl ?_
            exact fin many _ _ ⟨rfl, rfl, rfl, rfl, rfl, trivial⟩ he6 (by rw [norm_skip hx hnn]; exact hmany)
          · have hnl := hsM.le
            have hcp := hsM.cap
            unfold maxLen at hcp
            refine G.skip rfl ?_
            refine G.seq rfl ?_
            refine G.seq rfl ?_
            refine G.reg Tryd.func4 rfl ?_
            refine RW.pureS rfl rfl rfl rfl (OpP.fieldAddr (off := 0) Tryd.underlying28 rfl rfl H.sz3 rfl) ?_
            refine RW.pureS rfl rfl rfl rfl (OpP.load H.ag3 rfl (hk6'.cell (i := 0) rfl)) ?_
            refine RW.pureS rfl rfl rfl rfl (OpP.neqInt rfl rfl) ?_
            refine RW.done rfl ?_
            refine G.sub (ρ' := [(0, _), (3, _), (4, _), (7, _), (8, _), (9, _), (36, _), (50, _), (53, _)]) ⟨rfl, rfl, rfl, rfl, rfl, rfl, rfl, rfl, rfl, trivial⟩ ?_
            refine G.ite rfl rfl (fun hk1 => ?_) (fun hk1 => ?_)
            · refine G.reg Tryd.func4 rfl ?_
              refine RW.pureS rfl rfl rfl rfl (OpP.fieldAddr (off := 1) Tryd.underlying28 rfl rfl H.sz9 rfl) ?_
              refine RW.op0 rfl rfl rfl (OpX.storeOne H.sz9 rfl rfl hk6' (by first | decide | simp | (simp; omega)) rfl) ?_
              rintro _ h7 ⟨rfl, hk7, hx7, hs7⟩
              refine RW.done rfl ?_
              refine G.sub (ρ' := [(0, _), (3, _), (4, _), (7, _), (8, _), (9, _), (36, _), (50, _), (53, _)]) ⟨rfl, rfl, rfl, rfl, rfl, rfl, rfl, rfl, rfl, trivial⟩ ?_
              refine G.seq rfl ?_
              refine G.seq rfl ?_
              refine G.reg Tryd.func4 rfl ?_
              refine RW.pureS rfl rfl rfl rfl (OpP.fieldAddr (off := 0) Tryd.underlying28 rfl rfl H.sz3 rfl) ?_
              refine RW.pureS rfl rfl rfl rfl (OpP.load H.ag3 rfl (hk7.cell (i := 0) rfl)) ?_
              refine RW.pureS rfl rfl rfl rfl (OpP.neqInt rfl rfl) ?_
              refine RW.done rfl ?_
              refine G.sub (ρ' := [(0, _), (3, _), (4, _), (7, _), (8, _), (9, _), (36, _), (50, _), (53, _), (57, _)]) ⟨rfl, rfl, rfl, rfl, rfl, rfl, rfl, rfl, rfl, rfl, trivial⟩ ?_
              have he7 : Ext0 h4 h7 := Ext0.only he6 hx7 (Nat.le_refl _)
              refine G.ite rfl rfl (fun hk3 => ?_) (fun hk3 => ?_)
              · have hy : normS x = some ⟨2, [], 0, 0⟩ := by unfold normS; rw [if_neg (by omega), if_pos (by omega)]
                refine G.reg Tryd.func4 rfl ?_
                refine RW.pureS rfl rfl rfl rfl (OpP.fieldAddr (off := 2) Tryd.underlying28 rfl rfl H.sz3 rfl) ?_
                refine RW.op0 rfl rfl rfl (OpX.storeOne H.sz3 rfl rfl hk7 (by first | decide | simp | (simp; omega)) rfl) ?_
                rintro _ h8 ⟨rfl, hk8, hx8, hs8⟩
                refine RW.pureS rfl rfl rfl rfl (OpP.fieldAddr (off := 3) Tryd.underlying28 rfl rfl H.sz3 rfl) ?_
                refine RW.op0 rfl rfl rfl (OpX.storeOne H.sz3 rfl rfl hk8 (by first | decide | simp | (simp; omega)) rfl) ?_
                rintro _ h9 ⟨rfl, hk9, hx9, hs9⟩
                refine RW.done rfl ?_
                refine G.sub (ρ' := [(0, _), (3, _), (4, _), (7, _), (8, _), (9, _), (36, _), (50, _), (53, _), (57, _)]) ⟨rfl, rfl, rfl, rfl, rfl, rfl, rfl, rfl, rfl, rfl, trivial⟩ ?_
                refine G.seq rfl ?_
                refine G.seq rfl ?_
                have he9 : Ext0 h4 h9 := Ext0.only (Ext0.only he7 hx8 (Nat.le_refl _)) hx9 (Nat.le_refl _)
                have hk9 : Blk h9 h4.size 28 (encS ⟨2, [], 0, 0⟩) := by rw [show (2 : Int) = x.kind by omega]; exact hk9
                have hM2 : M[many]? = some ⟨2, [], 0, 0⟩ := by rw [← hM, hmany]; exact (norm_at hx hy).1
                have hmany' : many + 1 = ((l.take (i + 1)).filterMap normS).length := by rw [(norm_at hx hy).2, hmany]
                have hmn : many < n1 := by rw [← hn1]; exact (List.getElem?_eq_some_iff.1 hM2).1
                obtain ⟨bm, om, ym, hma, _, hym, hrowM⟩ := (hsM3.mv (Mv.ext0 (he4.trans he9))).recd (i := many) hmn
                obtain rfl : ym = ⟨2, [], 0, 0⟩ := by rw [hM2] at hym; exact (Option.some.inj hym).symm
                refine G.drawQTo1 [(71, .bool false)] [(0, _), (3, _), (4, _), (7, _), (8, _), (9, _), (36, _), (50, _), (53, _), (57, _)] ⟨rfl, rfl, rfl, rfl, rfl, rfl, rfl, rfl, rfl, rfl, trivial⟩ Tryd.func4 H.mixed rfl (by kernel_rfl) ?_ ?_
                · refine RQ.pureS rfl rfl rfl rfl (OpP.move rfl) ?_
                  refine RQ.pureS rfl rfl rfl rfl (OpP.move rfl) ?_
                  refine RQ.pureS rfl rfl rfl rfl (OpP.lenSlice Tryd.underlying22 rfl) ?_
                  refine RQ.pureS rfl rfl rfl rfl (OpP.geq rfl rfl) ?_
                  refine RQ.pureS rfl rfl rfl rfl (OpP.move rfl) ?_
                  refine RQ.know (d := 64) (b' := false) rfl (decide_eq_false (by simp; omega)) ?_
                  refine RQ.pureS rfl rfl rfl rfl (OpP.move rfl) ?_
                  refine RQ.pureS rfl rfl rfl rfl (OpP.move rfl) ?_
                  refine RQ.pureS rfl rfl rfl rfl (OpP.indexSlice Tryd.underlying22 H.sz28 rfl rfl many rfl hma (by omega)) ?_
                  refine RQ.pureS rfl rfl rfl rfl (OpP.loadRowN H.ag28 H.sz28 rfl hrowM (by first | rfl | simp)) ?_
                  refine RQ.pureS rfl rfl rfl rfl (OpP.loadRowN H.ag28 H.sz28 rfl hk9.row (by first | rfl | simp)) ?_
                  refine RQ.pureS rfl rfl rfl rfl (OpP.neqAgg fieldsP stoodP guardP rfl rfl (eqP _ _)) ?_
                  refine RQ.pureS rfl rfl rfl rfl (OpP.pickF rfl rfl) ?_
                  refine RQ.done rfl ?_
                  exact ⟨rfl, at_bool rfl (by simp), rfl, rfl, rfl, rfl, rfl, rfl, rfl, rfl, rfl, rfl, trivial⟩
                · refine G.cond rfl rfl (fun hc => absurd hc (by simp)) (fun _ => ?_)
                  refine G.skip rfl ?_
                  refine G.reg Tryd.func4 rfl ?_
                  refine RW.pureS rfl rfl rfl rfl (OpP.move rfl) ?_
                  refine RW.pureS rfl rfl rfl rfl (OpP.add64 rfl rfl ⟨by omega, by omega⟩) ?_
                  refine RW.pureS rfl rfl rfl rfl (OpP.assign rfl) ?_
                  refine RW.done rfl ?_
                  refine G.sub (ρ' := [(0, _), (3, _), (4, _), (7, _), (8, _), (9, _), (36, _), (50, _), (53, _), (57, _), (71, _)]) ⟨rfl, rfl, rfl, rfl, rfl, rfl, rfl, rfl, rfl, rfl, rfl, trivial⟩ ?_
                  refine G.blkEnd ?_
                  exact fin (many + 1) _ _ ⟨rfl, rfl, rfl, rfl, rfl, trivial⟩ he9 hmany'
              · have hy : normS x = some ⟨3, [], x.rows, x.cols⟩ := by unfold normS; rw [if_neg (by omega), if_neg (by omega), if_pos (by omega)]
                have he9 := he7
                have hk9 : Blk h7 h4.size 28 (encS ⟨3, [], x.rows, x.cols⟩) := by rw [show (3 : Int) = x.kind by omega]; exact hk7
                have hM2 : M[many]? = some ⟨3, [], x.rows, x.cols⟩ := by rw [← hM, hmany]; exact (norm_at hx hy).1
                have hmany' : many + 1 = ((l.take (i + 1)).filterMap normS).length := by rw [(norm_at hx hy).2, hmany]
                have hmn : many < n1 := by rw [← hn1]; exact (List.getElem?_eq_some_iff.1 hM2).1
                obtain ⟨bm, om, ym, hma, _, hym, hrowM⟩ := (hsM3.mv (Mv.ext0 (he4.trans he9))).recd (i := many) hmn
                obtain rfl : ym = ⟨3, [], x.rows, x.cols⟩ := by rw [hM2] at hym; exact (Option.some.inj hym).symm
                refine G.skip rfl ?_
                refine G.seq rfl ?_
                refine G.seq rfl ?_
                refine G.drawQTo1 [(71, .bool false)] [(0, _), (3, _), (4, _), (7, _), (8, _), (9, _), (36, _), (50, _), (53, _), (57, _)] ⟨rfl, rfl, rfl, rfl, rfl, rfl, rfl, rfl, rfl, rfl, trivial⟩ Tryd.func4 H.mixed rfl (by kernel_rfl) ?_ ?_
                · refine RQ.pureS rfl rfl rfl rfl (OpP.move rfl) ?_
                  refine RQ.pureS rfl rfl rfl rfl (OpP.move rfl) ?_
                  refine RQ.pureS rfl rfl rfl rfl (OpP.lenSlice Tryd.underlying22 rfl) ?_
                  refine RQ.pureS rfl rfl rfl rfl (OpP.geq rfl rfl) ?_
                  refine RQ.pureS rfl rfl rfl rfl (OpP.move rfl) ?_
                  refine RQ.know (d := 64) (b' := false) rfl (decide_eq_false (by simp; omega)) ?_
                  refine RQ.pureS rfl rfl rfl rfl (OpP.move rfl) ?_
                  refine RQ.pureS rfl rfl rfl rfl (OpP.move rfl) ?_
                  refine RQ.pureS rfl rfl rfl rfl (OpP.indexSlice Tryd.underlying22 H.sz28 rfl rfl many rfl hma (by omega)) ?_
                  refine RQ.pureS rfl rfl rfl rfl (OpP.loadRowN H.ag28 H.sz28 rfl hrowM (by first | rfl | simp)) ?_
                  refine RQ.pureS rfl rfl rfl rfl (OpP.loadRowN H.ag28 H.sz28 rfl hk9.row (by first | rfl | simp)) ?_
                  refine RQ.pureS rfl rfl rfl rfl (OpP.neqAgg fieldsP stoodP guardP rfl rfl (eqP _ _)) ?_
                  refine RQ.pureS rfl rfl rfl rfl (OpP.pickF rfl rfl) ?_
                  refine RQ.done rfl ?_
                  exact ⟨rfl, at_bool rfl (by simp), rfl, rfl, rfl, rfl, rfl, rfl, rfl, rfl, rfl, rfl, trivial⟩
                · refine G.cond rfl rfl (fun hc => absurd hc (by simp)) (fun _ => ?_)
                  refine G.skip rfl ?_
                  refine G.reg Tryd.func4 rfl ?_
                  refine RW.pureS rfl rfl rfl rfl (OpP.move rfl) ?_
                  refine RW.pureS rfl rfl rfl rfl (OpP.add64 rfl rfl ⟨by omega, by omega⟩) ?_
                  refine RW.pureS rfl rfl rfl rfl (OpP.assign rfl) ?_
                  refine RW.done rfl ?_
                  refine G.sub (ρ' := [(0, _), (3, _), (4, _), (7, _), (8, _), (9, _), (36, _), (50, _), (53, _), (57, _), (71, _)]) ⟨rfl, rfl, rfl, rfl, rfl, rfl, rfl, rfl, rfl, rfl, rfl, trivial⟩ ?_
                  refine G.blkEnd ?_
                  exact fin (many + 1) _ _ ⟨rfl, rfl, rfl, rfl, rfl, trivial⟩ he9 hmany'
            · have hy : normS x = some ⟨1, x.text, 0, 0⟩ := by unfold normS; rw [if_pos (by omega)]
              refine G.skip rfl ?_
              refine G.seq rfl ?_
              refine G.seq rfl ?_
              refine G.reg Tryd.func4 rfl ?_
              refine RW.pureS rfl rfl rfl rfl (OpP.fieldAddr (off := 0) Tryd.underlying28 rfl rfl H.sz3 rfl) ?_
              refine RW.pureS rfl rfl rfl rfl (OpP.load H.ag3 rfl (hk6'.cell (i := 0) rfl)) ?_
              refine RW.pureS rfl rfl rfl rfl (OpP.neqInt rfl rfl) ?_
              refine RW.done rfl ?_
              refine G.sub (ρ' := [(0, _), (3, _), (4, _), (7, _), (8, _), (9, _), (36, _), (50, _), (53, _), (57, _)]) ⟨rfl, rfl, rfl, rfl, rfl, rfl, rfl, rfl, rfl, rfl, trivial⟩ ?_
              refine G.cond rfl rfl (fun _ => ?_) (fun hc => absurd hc (by simp; omega))
              refine G.reg Tryd.func4 rfl ?_
              refine RW.pureS rfl rfl rfl rfl (OpP.fieldAddr (off := 2) Tryd.underlying28 rfl rfl H.sz3 rfl) ?_
              refine RW.op0 rfl rfl rfl (OpX.storeOne H.sz3 rfl rfl hk6' (by first | decide | simp | (simp; omega)) rfl) ?_
              rintro _ h8 ⟨rfl, hk8, hx8, hs8⟩
              refine RW.pureS rfl rfl rfl rfl (OpP.fieldAddr (off := 3) Tryd.underlying28 rfl rfl H.sz3 rfl) ?_
              refine RW.op0 rfl rfl rfl (OpX.storeOne H.sz3 rfl rfl hk8 (by first | decide | simp | (simp; omega)) rfl) ?_
              rintro _ h9 ⟨rfl, hk9, hx9, hs9⟩
              refine RW.done rfl ?_
              refine G.sub (ρ' := [(0, _), (3, _), (4, _), (7, _), (8, _), (9, _), (36, _), (50, _), (53, _), (57, _)]) ⟨rfl, rfl, rfl, rfl, rfl, rfl, rfl, rfl, rfl, rfl, trivial⟩ ?_
              refine G.seq rfl ?_
              refine G.seq rfl ?_
              have he9 : Ext0 h4 h9 := Ext0.only (Ext0.only he6 hx8 (Nat.le_refl _)) hx9 (Nat.le_refl _)
              have hk9 : Blk h9 h4.size 28 (encS ⟨1, x.text, 0, 0⟩) := by rw [show (1 : Int) = x.kind by omega]; exact hk9
              have hM2 : M[many]? = some ⟨1, x.text, 0, 0⟩ := by rw [← hM, hmany]; exact (norm_at hx hy).1
              have hmany' : many + 1 = ((l.take (i + 1)).filterMap normS).length := by rw [(norm_at hx hy).2, hmany]
              have hmn : many < n1 := by rw [← hn1]; exact (List.getElem?_eq_some_iff.1 hM2).1
              obtain ⟨bm, om, ym, hma, _, hym, hrowM⟩ := (hsM3.mv (Mv.ext0 (he4.trans he9))).recd (i := many) hmn
              obtain rfl : ym = ⟨1, x.text, 0, 0⟩ := by rw [hM2] at hym; exact (Option.some.inj hym).symm
              refine G.drawQTo1 [(71, .bool false)] [(0, _), (3, _), (4, _), (7, _), (8, _), (9, _), (36, _), (50, _), (53, _), (57, _)] ⟨rfl, rfl, rfl, rfl, rfl, rfl, rfl, rfl, rfl, rfl, trivial⟩ Tryd.func4 H.mixed rfl (by kernel_rfl) ?_ ?_
              · refine RQ.pureS rfl rfl rfl rfl (OpP.move rfl) ?_
                refine RQ.pureS rfl rfl rfl rfl (OpP.move rfl) ?_
                refine RQ.pureS rfl rfl rfl rfl (OpP.lenSlice Tryd.underlying22 rfl) ?_
                refine RQ.pureS rfl rfl rfl rfl (OpP.geq rfl rfl) ?_
                refine RQ.pureS rfl rfl rfl rfl (OpP.move rfl) ?_
                refine RQ.know (d := 64) (b' := false) rfl (decide_eq_false (by simp; omega)) ?_
                refine RQ.pureS rfl rfl rfl rfl (OpP.move rfl) ?_
                refine RQ.pureS rfl rfl rfl rfl (OpP.move rfl) ?_
                refine RQ.pureS rfl rfl rfl rfl (OpP.indexSlice Tryd.underlying22 H.sz28 rfl rfl many rfl hma (by omega)) ?_
                refine RQ.pureS rfl rfl rfl rfl (OpP.loadRowN H.ag28 H.sz28 rfl hrowM (by first | rfl | simp)) ?_
                refine RQ.pureS rfl rfl rfl rfl (OpP.loadRowN H.ag28 H.sz28 rfl hk9.row (by first | rfl | simp)) ?_
                refine RQ.pureS rfl rfl rfl rfl (OpP.neqAgg fieldsP stoodP guardP rfl rfl (eqP _ _)) ?_
                refine RQ.pureS rfl rfl rfl rfl (OpP.pickF rfl rfl) ?_
                refine RQ.done rfl ?_
                exact ⟨rfl, at_bool rfl (by simp), rfl, rfl, rfl, rfl, rfl, rfl, rfl, rfl, rfl, rfl, trivial⟩
              · refine G.cond rfl rfl (fun hc => absurd hc (by simp)) (fun _ => ?_)
                refine G.skip rfl ?_
                refine G.reg Tryd.func4 rfl ?_
                refine RW.pureS rfl rfl rfl rfl (OpP.move rfl) ?_
                refine RW.pureS rfl rfl rfl rfl (OpP.add64 rfl rfl ⟨by omega, by omega⟩) ?_
                refine RW.pureS rfl rfl rfl rfl (OpP.assign rfl) ?_
                refine RW.done rfl ?_
                refine G.sub (ρ' := [(0, _), (3, _), (4, _), (7, _), (8, _), (9, _), (36, _), (50, _), (53, _), (57, _), (71, _)]) ⟨rfl, rfl, rfl, rfl, rfl, rfl, rfl, rfl, rfl, rfl, rfl, trivial⟩ ?_
                refine G.blkEnd ?_
                exact fin (many + 1) _ _ ⟨rfl, rfl, rfl, rfl, rfl, trivial⟩ he9 hmany'
      · have hin : i = n := by omega
        subst hin
        rw [List.take_of_length_le (by omega), hM, hn1] at hmany
        subst hmany
        refine G.exit rfl rfl ?_
        refine G.seq rfl ?_
        refine G.regToX (fun (_u : Unit) (h' : Heap) => Ext0 h4 h') (fun (_u : Unit) => [(2, .bool true)]) [(0, _), (3, _), (4, _), (7, _), (8, _), (36, _)] ⟨rfl, rfl, rfl, rfl, rfl, rfl, trivial⟩ Tryd.func4 rfl ?_ ?_
        · refine RW.pureS rfl rfl rfl rfl (OpP.move rfl) ?_
          refine RW.pureS rfl rfl rfl rfl (OpP.move rfl) ?_
          refine RW.pureS rfl rfl rfl rfl (OpP.lenSlice Tryd.underlying22 rfl) ?_
          refine RW.pureS rfl rfl rfl rfl (OpP.eqlInt rfl rfl) ?_
          refine RW.pureS rfl rfl rfl rfl (OpP.move rfl) ?_
          refine RW.know (d := 78) (b' := true) rfl (decide_eq_true (rfl)) ?_
          refine RW.opS rfl rfl rfl rfl (OpX.call (vs := []) Tryd.func11 rfl H.nm11 rfl (CallsH.toX (said_calls (hg3.ext0 he4)))) ?_
          rintro _ h5 ⟨rfl, he5⟩
          refine RW.pureS rfl rfl rfl rfl (OpP.pickT rfl rfl) ?_
          refine RW.pureS rfl rfl rfl rfl (OpP.assign rfl) ?_
          refine RW.done rfl ?_
          exact ⟨(), he5, rfl, rfl, rfl, rfl, rfl, rfl, rfl, trivial⟩
        · rintro _ h5 he5
          refine G.ret Tryd.func4 rfl rfl ?_
          exact ⟨_, rfl, rfl, he13.trans (he4.trans he5)⟩

end Go.Proofs.YtmbikkapabljfaaDoor
