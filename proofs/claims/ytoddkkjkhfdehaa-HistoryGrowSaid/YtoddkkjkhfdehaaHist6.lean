/- limnerlaw20.HistoryTell. -/
import Derived.Test.YtoddkkjkhfdehaaHist5
namespace Go.Proofs.Ytoddkkjkhfdehaa
open Go Go.Lw

theorem foundV_eq (f : Option (Int × Int)) : ∃ i a b, foundV f = .tuple #[.int .i64 i, .int .i64 a, .bool b] := by
  cases f with
  | none => exact ⟨_, _, _, rfl⟩
  | some p => exact ⟨_, _, _, rfl⟩

theorem find_as {h : Heap} {O : Nat → Prop} {v : Value} {l : List ByteArray} {t : ByteArray} (upto : Int) (hu : -9223372036854775808 ≤ upto ∧ upto ≤ 9223372036854775807) (hv : SlR .str h O v l) (hl : l.length ≤ 1000000) (hls : ∀ x ∈ l, x.size ≤ 1000000)
    {x : Value} (e : foundV (findH l t upto) = x) : CallsH Try.prog 10 #[v, .string t, .int .i64 upto] h (Ret fun r h' => r = x ∧ h' = h) :=
  (find_calls upto hu hv hl hls).ret fun _ _ ⟨ho, he⟩ => ⟨by rw [ho, e], he⟩

theorem refFind_as {h : Heap} {O : Nat → Prop} {v : Value} {l : List ByteArray} {t : ByteArray} (upto : Int) (hu : -9223372036854775808 ≤ upto ∧ upto ≤ 9223372036854775807) (hv : SlR .str h O v l) (hl : l.length ≤ 1000000) (hls : ∀ x ∈ l, x.size ≤ 1000000) (ht : t.size ≤ 1000000)
    {x : Value} (e : foundV (findH l t upto) = x) : CallsH Try.prog 11 #[v, .string t, .int .i64 upto] h (Ret fun r h' => r = x ∧ h' = h) :=
  (refFind_calls upto hu hv hl hls ht).ret fun _ _ ⟨ho, he⟩ => ⟨by rw [ho, e], he⟩

theorem addH_le {l : List ByteArray} {s : ByteArray} {n m : Nat} (hl : l.length ≤ n) (hs : ∀ x ∈ l, x.size ≤ m) (hss : s.size ≤ m) : (addH l s).length ≤ n + 1 ∧ ∀ x ∈ addH l s, x.size ≤ m := by
  unfold addH
  split
  · exact ⟨by omega, hs⟩
  · refine ⟨by simp; omega, fun x hx => ?_⟩
    have := List.mem_of_mem_drop hx
    simp at this
    rcases this with h | rfl
    · exact hs x h
    · exact hss

theorem histTell_calls {h : Heap} {v : Value} {l : List ByteArray} {s : ByteArray} (f : Int) (hf : -9223372036854775808 ≤ f ∧ f ≤ 9223372036854775807) (hv : SlR .str h nobody v l) :
    CallsH Try.prog 3 #[v, .string s, .int .i64 f] h (Ret fun r h' => r = .bool true ∧ Ext0 h h') := by
  obtain ⟨oa, n, c, rfl, hsl⟩ := hv.open
  have hn := hsl.len
  have hle := hsl.le
  have hc := hsl.cap
  unfold maxLen at hc
  refine CallsH.of Try.func3 rfl rfl ?_
  refine G.seq rfl ?_
  refine G.reg Try.func3 rfl ?_
  refine RW.pureS rfl rfl rfl rfl (OpP.assign rfl) ?_
  refine RW.done rfl ?_
  refine G.sub (ρ' := [(0, _), (1, _), (2, _), (6, _)]) ⟨rfl, rfl, rfl, rfl, trivial⟩ ?_
  refine G.seq rfl ?_
  refine G.seq rfl ?_
  refine G.regToX (fun (b : Bool) (h' : Heap) => h' = h ∧ b = (great l 120 || decide (500 < s.size))) (fun (b : Bool) => [(24, .bool b)]) [(0, _), (1, _), (2, _), (6, _)] ⟨rfl, rfl, rfl, rfl, trivial⟩ Try.func3 rfl ?_ ?_
  · refine RW.pureS rfl rfl rfl rfl (OpP.move rfl) ?_
    refine RW.opS rfl rfl rfl rfl (OpX.call (vs := [_, _]) Try.func5 rfl H.nm5 rfl (CallsH.toX (great_calls 120 hv))) ?_
    rintro _ _ ⟨rfl, rfl⟩
    refine RW.pureS rfl rfl rfl rfl (OpP.move rfl) ?_
    refine RW.split (d := 20) rfl (fun hg => ?_) (fun hg => ?_)
    · refine RW.skipS rfl rfl rfl rfl ?_
      refine RW.skipS rfl rfl rfl rfl ?_
      refine RW.skipS rfl rfl rfl rfl ?_
      refine RW.pureS rfl rfl rfl rfl (OpP.pickT rfl rfl) ?_
      refine RW.done rfl ?_
      exact ⟨_, ⟨rfl, rfl⟩, at_bool rfl (by simp [hg]), rfl, rfl, rfl, rfl, trivial⟩
    · refine RW.pureS rfl rfl rfl rfl (OpP.move rfl) ?_
      refine RW.pureS rfl rfl rfl rfl (OpP.lenString Try.underlying9 rfl) ?_
      refine RW.pureS rfl rfl rfl rfl (OpP.gtr rfl rfl) ?_
      refine RW.pureS rfl rfl rfl rfl (OpP.pickF rfl rfl) ?_
      refine RW.done rfl ?_
      exact ⟨_, ⟨rfl, rfl⟩, at_bool rfl (by simp [hg]; omega), rfl, rfl, rfl, rfl, trivial⟩
  · rintro b h0 ⟨rfl, hb⟩
    refine G.cond rfl rfl (fun hcond => ?_) (fun hcond => ?_)
    · refine G.seq rfl ?_
      refine G.reg Try.func3 rfl ?_
      refine RW.opS rfl rfl rfl rfl (OpX.call (vs := []) Try.func6 rfl H.nm6 rfl (CallsH.toX (entered_calls _))) ?_
      rintro _ h1 ⟨rfl, he⟩
      refine RW.pureS rfl rfl rfl rfl (OpP.assign rfl) ?_
      refine RW.done rfl ?_
      refine G.sub (ρ' := [(0, _), (1, _), (2, _), (6, _), (24, _)]) ⟨rfl, rfl, rfl, rfl, rfl, trivial⟩ ?_
      refine G.ret Try.func3 rfl rfl ?_
      exact ⟨_, rfl, rfl, he⟩
    · rw [hcond] at hb
      have hb' := hb.symm
      rw [Bool.or_eq_false_iff] at hb'
      obtain ⟨hgr, hs5⟩ := hb'
      have hs5 : s.size ≤ 500 := by simpa using hs5
      unfold great at hgr
      rw [Bool.or_eq_false_iff] at hgr
      have hn120 : n ≤ 120 := by have := hgr.2; simp at this; omega
      have hsz : ∀ x ∈ l, x.size ≤ 500 := by
        intro x hx
        have := List.any_eq_false.1 hgr.1 x hx
        simpa using this
      have hsz' : ∀ x ∈ l, x.size ≤ 1000000 := fun x hx => by have := hsz x hx; omega
      clear hgr hb hcond
      have hrow := hsl.row
      refine G.skip rfl ?_
      refine G.seq rfl ?_
      refine G.reg Try.func3 rfl ?_
      refine RW.pureS rfl rfl rfl rfl (OpP.move rfl) ?_
      refine RW.opS rfl rfl rfl rfl (OpX.append Try.underlying22 H.el9 rfl rfl (OwnH.nil h0 h0.size 9 1) (by simp [hn]) hrow (one_str l) (by simp only [maxLen]; omega) (by omega) (Nat.le_refl _)) ?_
      rintro v1 h1 ⟨ho1, he1, -, -⟩
      refine RW.pureS rfl rfl rfl rfl (OpP.assign rfl) ?_
      refine RW.done rfl ?_
      refine G.sub (ρ' := [(0, _), (1, _), (2, _), (6, _), (7, _), (24, _)]) ⟨rfl, rfl, rfl, rfl, rfl, rfl, trivial⟩ ?_
      refine G.seq rfl ?_
      refine G.reg Try.func3 rfl ?_
      refine RW.pureS rfl rfl rfl rfl (OpP.move rfl) ?_
      refine RW.pureS rfl rfl rfl rfl (OpP.move rfl) ?_
      have he1 := ext_but_none he1
      rw [Nat.zero_add, List.nil_append] at ho1
      obtain ⟨oa1, c1, rfl, hw1⟩ := ho1.open
      have hv1 : SlR .str h1 nobody (.slice oa1 n c1) l := hw1.own.shut (fun _ _ k => k)
      obtain ⟨_, _, _, hv1e, hsl1⟩ := hv1.open
      cases hv1e
      refine RW.opS rfl rfl rfl rfl (OpX.call (vs := [_, _]) Try.func7 rfl H.nm7 rfl (CallsH.toX (histAdd_calls (s := s) hv1 (by omega)))) ?_
      rintro v2 h2 ⟨hfr, he2⟩
      refine RW.pureS rfl rfl rfl rfl (OpP.assign rfl) ?_
      refine RW.done rfl ?_
      refine G.sub (ρ' := [(0, _), (1, _), (2, _), (6, _), (7, _), (8, _), (24, _)]) ⟨rfl, rfl, rfl, rfl, rfl, rfl, rfl, trivial⟩ ?_
      refine G.seq rfl ?_
      refine G.seq rfl ?_
      refine G.reg Try.func3 rfl ?_
      refine RW.pureS rfl rfl rfl rfl (OpP.move rfl) ?_
      refine RW.pureS rfl rfl rfl rfl (OpP.move rfl) ?_
      refine RW.pureS rfl rfl rfl rfl (OpP.move rfl) ?_
      have hv2 := hfr.read
      obtain ⟨oa2, n2, c2, rfl, hw2⟩ := hfr
      have hn2 := hw2.sl.len
      have hle2 := hw2.sl.le
      have hc2 := hw2.sl.cap
      unfold maxLen at hc2
      have hv' := hsl.shut.ext0 (he1.trans he2)
      refine RW.opS rfl rfl rfl rfl (OpX.call (vs := [_, _]) Try.func9 rfl H.nm9 rfl (CallsH.toX (refAdd_calls (s := s) hv' (by omega)))) ?_
      rintro v3 h3 ⟨hv3, he3⟩
      refine RW.opS rfl rfl rfl rfl (OpX.call (vs := [_, _]) Try.func8 rfl H.nm8 rfl (CallsH.toX (texts_true (hv2.ext0 he3) hv3 rfl))) ?_
      rintro _ _ ⟨rfl, rfl⟩
      refine RW.pureS rfl rfl rfl rfl (OpP.notB rfl) ?_
      refine RW.done rfl ?_
      refine G.sub (ρ' := [(0, _), (1, _), (2, _), (6, _), (7, _), (8, _), (24, _), (36, _)]) ⟨rfl, rfl, rfl, rfl, rfl, rfl, rfl, rfl, trivial⟩ ?_
      refine G.cond rfl rfl (fun hc => absurd hc (by decide)) (fun _ => ?_)
      refine G.skip rfl ?_
      refine G.seq rfl ?_
      refine G.seq rfl ?_
      refine G.reg Try.func3 rfl ?_
      refine RW.pureS rfl rfl rfl rfl (OpP.assign rfl) ?_
      refine RW.done rfl ?_
      refine G.sub (ρ' := [(0, _), (1, _), (2, _), (6, _), (7, _), (8, _), (9, _), (24, _), (36, _)]) ⟨rfl, rfl, rfl, rfl, rfl, rfl, rfl, rfl, rfl, trivial⟩ ?_
      refine G.block rfl rfl ?_
      refine G.loop (σ := Nat × List ByteArray) (fun q => [(0, .slice oa n c), (1, .string s), (2, .int .i64 f), (7, .slice oa1 n c1), (8, .slice oa2 n2 c2), (9, .int .i64 q.1)]) (fun q h' => Ext0 h1 h' ∧ q.1 ≤ n2 ∧ Wr Value.string (fun _ => rfl) h' h1.size oa2 n2 c2 q.2) (fun q => n2 - q.1) ((0, addH l s)) rfl ⟨rfl, rfl, rfl, rfl, rfl, rfl, trivial⟩ ⟨he2.trans he3, Nat.zero_le _, hw2.ext0 he3⟩ ?_
      rintro ⟨k, xs⟩ h4 ⟨he4, hk, hw4⟩ ih
      dsimp only at hk hw4
      refine G.seq rfl ?_
      refine G.seq rfl ?_
      refine G.reg Try.func3 rfl ?_
      refine RW.pureS rfl rfl rfl rfl (OpP.move rfl) ?_
      refine RW.pureS rfl rfl rfl rfl (OpP.move rfl) ?_
      refine RW.pureS rfl rfl rfl rfl (OpP.lenSlice Try.underlying22 rfl) ?_
      refine RW.pureS rfl rfl rfl rfl (OpP.lss rfl rfl) ?_
      refine RW.done rfl ?_
      refine G.sub (ρ' := [(0, _), (1, _), (2, _), (7, _), (8, _), (9, _), (40, _)]) ⟨rfl, rfl, rfl, rfl, rfl, rfl, rfl, trivial⟩ ?_
      refine G.ite rfl rfl (fun hlt => ?_) (fun hlt => ?_)
      · have hlt' : k < n2 := by omega
        obtain ⟨b, o, x, ha, hb, hx, hcell⟩ := hw4.sl.at hlt'
        refine G.skip rfl ?_
        refine G.seq rfl ?_
        refine G.block rfl rfl ?_
        refine G.reg Try.func3 rfl ?_
        refine RW.pureS rfl rfl rfl rfl (OpP.move rfl) ?_
        refine RW.pureS rfl rfl rfl rfl (OpP.move rfl) ?_
        refine RW.pureS rfl rfl rfl rfl (OpP.indexSlice Try.underlying22 H.sz9 rfl rfl k rfl ha hlt') ?_
        refine RW.op0 rfl rfl rfl (OpX.store H.sz9 rfl rfl rfl hcell (hw4.nf b o k ha hlt')) ?_
        rintro _ _ ⟨rfl, rfl⟩
        refine RW.done rfl ?_
        refine G.sub (ρ' := [(0, _), (1, _), (2, _), (7, _), (8, _), (9, _), (40, _)]) ⟨rfl, rfl, rfl, rfl, rfl, rfl, rfl, trivial⟩ ?_
        refine G.blkEnd ?_
        refine G.reg Try.func3 rfl ?_
        refine RW.pureS rfl rfl rfl rfl (OpP.move rfl) ?_
        refine RW.pureS rfl rfl rfl rfl (OpP.add64 rfl rfl ⟨by omega, by omega⟩) ?_
        refine RW.pureS rfl rfl rfl rfl (OpP.assign rfl) ?_
        refine RW.done rfl ?_
        refine G.sub (ρ' := [(0, _), (1, _), (2, _), (7, _), (8, _), (9, _), (40, _)]) ⟨rfl, rfl, rfl, rfl, rfl, rfl, rfl, trivial⟩ ?_
        exact ih (k + 1, _) _ _ ⟨rfl, rfl, rfl, rfl, rfl, rfl, trivial⟩ ⟨he4.set (by show h1.size ≤ b; omega) _, by show k + 1 ≤ n2; omega, hw4.set ha hlt' _⟩ (by show n2 - (k + 1) < n2 - k; omega)
      · have hR1 := hsl1.shut.ext0 he4
        have hR0 := hsl.shut.ext0 (he1.trans he4)
        refine G.exit rfl rfl ?_
        refine G.seq rfl ?_
        refine G.seq rfl ?_
        refine G.reg Try.func3 rfl ?_
        refine RW.pureS rfl rfl rfl rfl (OpP.assign rfl) ?_
        refine RW.done rfl ?_
        refine G.sub (ρ' := [(0, _), (1, _), (2, _), (7, _), (8, _), (9, _), (10, _), (40, _)]) ⟨rfl, rfl, rfl, rfl, rfl, rfl, rfl, rfl, trivial⟩ ?_
        refine G.block rfl rfl ?_
        refine G.loop (σ := Int) (fun k => [(0, .slice oa n c), (1, .string s), (2, .int .i64 f), (7, .slice oa1 n c1), (10, .int .i64 k)]) (fun k h' => h' = h4 ∧ -1 ≤ k ∧ k ≤ (n : Int) + 2) (fun k => ((n : Int) + 2 - k).toNat) (-1) rfl ⟨rfl, rfl, rfl, rfl, rfl, trivial⟩ ⟨rfl, by omega, by omega⟩ ?_
        rintro k h5 ⟨rfl, hk1, hk2⟩ ih
        refine G.seq rfl ?_
        refine G.seq rfl ?_
        refine G.reg Try.func3 rfl ?_
        refine RW.pureS rfl rfl rfl rfl (OpP.move rfl) ?_
        refine RW.pureS rfl rfl rfl rfl (OpP.move rfl) ?_
        refine RW.pureS rfl rfl rfl rfl (OpP.lenSlice Try.underlying22 rfl) ?_
        refine RW.pureS rfl rfl rfl rfl (OpP.add64 rfl rfl ⟨by omega, by omega⟩) ?_
        refine RW.pureS rfl rfl rfl rfl (OpP.leq rfl rfl) ?_
        refine RW.done rfl ?_
        refine G.sub (ρ' := [(0, _), (1, _), (2, _), (7, _), (10, _), (50, _)]) ⟨rfl, rfl, rfl, rfl, rfl, rfl, trivial⟩ ?_
        refine G.ite rfl rfl (fun hkn => ?_) (fun hkn => ?_)
        · refine G.skip rfl ?_
          refine G.seq rfl ?_
          refine G.block rfl rfl ?_
          refine G.seq rfl ?_
          refine G.reg Try.func3 rfl ?_
          refine RW.pureS rfl rfl rfl rfl (OpP.move rfl) ?_
          refine RW.pureS rfl rfl rfl rfl (OpP.assign rfl) ?_
          refine RW.done rfl ?_
          refine G.sub (ρ' := [(0, _), (1, _), (2, _), (7, _), (10, _), (11, _), (50, _)]) ⟨rfl, rfl, rfl, rfl, rfl, rfl, rfl, trivial⟩ ?_
          refine G.seq rfl ?_
          refine G.seq rfl ?_
          refine G.reg Try.func3 rfl ?_
          refine RW.pureS rfl rfl rfl rfl (OpP.move rfl) ?_
          refine RW.pureS rfl rfl rfl rfl (OpP.move rfl) ?_
          refine RW.pureS rfl rfl rfl rfl (OpP.lenSlice Try.underlying22 rfl) ?_
          refine RW.pureS rfl rfl rfl rfl (OpP.add64 rfl rfl ⟨by omega, by omega⟩) ?_
          refine RW.pureS rfl rfl rfl rfl (OpP.eqlInt rfl rfl) ?_
          refine RW.done rfl ?_
          refine G.sub (ρ' := [(0, _), (1, _), (2, _), (7, _), (10, _), (11, _), (50, _), (58, _)]) ⟨rfl, rfl, rfl, rfl, rfl, rfl, rfl, rfl, trivial⟩ ?_
          have fin : ∀ (u : Int) (h' : Heap) (ρ' : Env), Sub [(0, .slice oa n c), (1, .string s), (2, .int .i64 f), (7, .slice oa1 n c1), (10, .int .i64 k), (11, .int .i64 u)] ρ' → h5 = h' → -9223372036854775808 ≤ u ∧ u ≤ 9223372036854775807 → G Try.prog 3 Try.f3 [.code [1, 1, 0, 0, 1, 0, 0, 1, 0, 1, 1, 1, 1, 1, 1], .blk 3, .code [1, 1, 0, 0, 1, 0, 1, 1, 1, 1, 1, 1], .loop [0, 0, 1, 0, 1, 1, 1, 1, 1, 1], .blk 2, .code [1, 1, 1, 1, 1, 1, 1]] ρ' h' (Ret fun r h' => r = .bool true ∧ Ext0 h0 h') := by
            rintro u hh ρ' hsub rfl hu
            refine G.sub (ρ' := [(0, .slice oa n c), (1, .string s), (2, .int .i64 f), (7, .slice oa1 n c1), (10, .int .i64 k), (11, .int .i64 u)]) hsub ?_
            obtain ⟨i, a, b, hfv⟩ := foundV_eq (findH l s u)
            refine G.seq rfl ?_
            refine G.reg Try.func3 rfl ?_
            refine RW.pureS rfl rfl rfl rfl (OpP.move rfl) ?_
            refine RW.pureS rfl rfl rfl rfl (OpP.move rfl) ?_
            refine RW.pureS rfl rfl rfl rfl (OpP.move rfl) ?_
            refine RW.opS rfl rfl rfl rfl (OpX.call (vs := [_, _, _]) Try.func10 rfl H.nm10 rfl (CallsH.toX (find_as (t := s) u hu hR1 (by omega) hsz' hfv))) ?_
            rintro _ _ ⟨rfl, rfl⟩
            refine RW.pureS rfl rfl rfl rfl (OpP.move rfl) ?_
            refine RW.pureS rfl rfl rfl rfl (OpP.extract rfl rfl) ?_
            refine RW.pureS rfl rfl rfl rfl (OpP.extract rfl rfl) ?_
            refine RW.pureS rfl rfl rfl rfl (OpP.extract rfl rfl) ?_
            refine RW.pureS rfl rfl rfl rfl (OpP.assign rfl) ?_
            refine RW.pureS rfl rfl rfl rfl (OpP.assign rfl) ?_
            refine RW.pureS rfl rfl rfl rfl (OpP.assign rfl) ?_
            refine RW.done rfl ?_
            refine G.sub (ρ' := [(0, _), (1, _), (2, _), (7, _), (10, _), (11, _), (12, _), (13, _), (14, _)]) ⟨rfl, rfl, rfl, rfl, rfl, rfl, rfl, rfl, rfl, trivial⟩ ?_
            refine G.seq rfl ?_
            refine G.reg Try.func3 rfl ?_
            refine RW.pureS rfl rfl rfl rfl (OpP.move rfl) ?_
            refine RW.pureS rfl rfl rfl rfl (OpP.move rfl) ?_
            refine RW.pureS rfl rfl rfl rfl (OpP.move rfl) ?_
            refine RW.opS rfl rfl rfl rfl (OpX.call (vs := [_, _, _]) Try.func11 rfl H.nm11 rfl (CallsH.toX (refFind_as (t := s) u hu hR0 (by omega) hsz' (by omega) hfv))) ?_
            rintro _ _ ⟨rfl, rfl⟩
            refine RW.pureS rfl rfl rfl rfl (OpP.move rfl) ?_
            refine RW.pureS rfl rfl rfl rfl (OpP.extract rfl rfl) ?_
            refine RW.pureS rfl rfl rfl rfl (OpP.extract rfl rfl) ?_
            refine RW.pureS rfl rfl rfl rfl (OpP.extract rfl rfl) ?_
            refine RW.pureS rfl rfl rfl rfl (OpP.assign rfl) ?_
            refine RW.pureS rfl rfl rfl rfl (OpP.assign rfl) ?_
            refine RW.pureS rfl rfl rfl rfl (OpP.assign rfl) ?_
            refine RW.done rfl ?_
            refine G.sub (ρ' := [(0, _), (1, _), (2, _), (7, _), (10, _), (11, _), (12, _), (13, _), (14, _), (15, _), (16, _), (17, _)]) ⟨rfl, rfl, rfl, rfl, rfl, rfl, rfl, rfl, rfl, rfl, rfl, rfl, trivial⟩ ?_
            refine G.seq rfl ?_
            refine G.regTo1 [(88, .bool false)] [(0, _), (1, _), (2, _), (7, _), (10, _), (11, _), (12, _), (13, _), (14, _), (15, _), (16, _), (17, _)] ⟨rfl, rfl, rfl, rfl, rfl, rfl, rfl, rfl, rfl, rfl, rfl, rfl, trivial⟩ Try.func3 rfl ?_ ?_
            · refine RW.pureS rfl rfl rfl rfl (OpP.move rfl) ?_
              refine RW.pureS rfl rfl rfl rfl (OpP.move rfl) ?_
              refine RW.pureS rfl rfl rfl rfl (OpP.neqInt rfl rfl) ?_
              refine RW.pureS rfl rfl rfl rfl (OpP.move rfl) ?_
              refine RW.know (d := 79) (b' := false) rfl (decide_eq_false (fun k => k rfl)) ?_
              refine RW.pureS rfl rfl rfl rfl (OpP.move rfl) ?_
              refine RW.pureS rfl rfl rfl rfl (OpP.move rfl) ?_
              refine RW.pureS rfl rfl rfl rfl (OpP.neqInt rfl rfl) ?_
              refine RW.pureS rfl rfl rfl rfl (OpP.pickF rfl rfl) ?_
              refine RW.pureS rfl rfl rfl rfl (OpP.move rfl) ?_
              refine RW.know (d := 84) (b' := false) rfl (decide_eq_false (fun k => k rfl)) ?_
              refine RW.pureS rfl rfl rfl rfl (OpP.move rfl) ?_
              refine RW.pureS rfl rfl rfl rfl (OpP.move rfl) ?_
              refine RW.pureS rfl rfl rfl rfl (OpP.neqBool Try.underlying4 rfl rfl) ?_
              refine RW.pureS rfl rfl rfl rfl (OpP.pickF rfl rfl) ?_
              refine RW.done rfl ?_
              exact ⟨rfl, at_bool rfl (by simp), rfl, rfl, rfl, rfl, rfl, rfl, rfl, rfl, rfl, rfl, rfl, rfl, trivial⟩
            · refine G.cond rfl rfl (fun hc => absurd hc Bool.false_ne_true) (fun _ => ?_)
              refine G.skip rfl ?_
              refine G.blkEnd ?_
              refine G.reg Try.func3 rfl ?_
              refine RW.pureS rfl rfl rfl rfl (OpP.move rfl) ?_
              refine RW.pureS rfl rfl rfl rfl (OpP.add64 rfl rfl ⟨by omega, by omega⟩) ?_
              refine RW.pureS rfl rfl rfl rfl (OpP.assign rfl) ?_
              refine RW.done rfl ?_
              refine G.sub (ρ' := [(0, _), (1, _), (2, _), (7, _), (10, _), (11, _), (12, _), (13, _), (14, _), (15, _), (16, _), (17, _), (88, _)]) ⟨rfl, rfl, rfl, rfl, rfl, rfl, rfl, rfl, rfl, rfl, rfl, rfl, rfl, trivial⟩ ?_
              exact ih (k + 1) _ _ ⟨rfl, rfl, rfl, rfl, rfl, trivial⟩ ⟨rfl, by omega, by omega⟩ (by omega)
          refine G.ite rfl rfl (fun hlast => ?_) (fun hlast => ?_)
          · refine G.reg Try.func3 rfl ?_
            refine RW.pureS rfl rfl rfl rfl (OpP.move rfl) ?_
            refine RW.pureS rfl rfl rfl rfl (OpP.assign rfl) ?_
            refine RW.done rfl ?_
            refine G.sub (ρ' := [(0, _), (1, _), (2, _), (7, _), (10, _), (11, _), (50, _), (58, _)]) ⟨rfl, rfl, rfl, rfl, rfl, rfl, rfl, rfl, trivial⟩ ?_
            exact fin _ _ _ ⟨rfl, rfl, rfl, rfl, rfl, rfl, trivial⟩ rfl hf
          · refine G.skip rfl ?_
            exact fin _ _ _ ⟨rfl, rfl, rfl, rfl, rfl, rfl, trivial⟩ rfl ⟨by omega, by omega⟩
        · refine G.exit rfl rfl ?_
          refine G.seq rfl ?_
          refine G.regToX (fun (_u : Unit) (h' : Heap) => Ext0 h5 h') (fun (_u : Unit) => [(6, .bool true)]) [(0, _), (1, _), (2, _), (7, _), (10, _), (50, _)] ⟨rfl, rfl, rfl, rfl, rfl, rfl, trivial⟩ Try.func3 rfl ?_ ?_
          · refine RW.pureS rfl rfl rfl rfl (OpP.move rfl) ?_
            refine RW.pureS rfl rfl rfl rfl (OpP.move rfl) ?_
            refine RW.opS rfl rfl rfl rfl (OpX.call (vs := [_, _]) Try.func8 rfl H.nm8 rfl (CallsH.toX (texts_true hR1 hR0 rfl))) ?_
            rintro _ _ ⟨rfl, rfl⟩
            refine RW.pureS rfl rfl rfl rfl (OpP.move rfl) ?_
            refine RW.opS rfl rfl rfl rfl (OpX.call (vs := []) Try.func6 rfl H.nm6 rfl (CallsH.toX (entered_calls _))) ?_
            rintro _ h6 ⟨rfl, he6⟩
            refine RW.pureS rfl rfl rfl rfl (OpP.pickT rfl rfl) ?_
            refine RW.pureS rfl rfl rfl rfl (OpP.assign rfl) ?_
            refine RW.done rfl ?_
            exact ⟨(), he6, rfl, rfl, rfl, rfl, rfl, rfl, rfl, trivial⟩
          · rintro _ h6 he6
            refine G.ret Try.func3 rfl rfl ?_
            exact ⟨_, rfl, rfl, he1.trans (he4.trans he6)⟩

end Go.Proofs.Ytoddkkjkhfdehaa
