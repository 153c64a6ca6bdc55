/- limner/kills.Add and Turn: what they answer; the answer is new memory. -/
import Derived.Test.YtdiaedohhnbonaaKills1
namespace Go.Proofs.Ytdiaedohhnbonaa
open Go Go.Lw

def noText : ByteArray := ⟨#[]⟩

/-- P19.1, as the program does it. -/
def add (l : List ByteArray) (s : ByteArray) (way : Int) : List ByteArray :=
  if s = noText then l
  else match l with
    | x :: r => if 0 < way then ((x ++ s) :: r).take 10 else if way < 0 then ((s ++ x) :: r).take 10 else (s :: l).take 10
    | [] => [s]

def turn : List ByteArray → List ByteArray
  | [] => []
  | x :: r => r ++ [x]

theorem one_str (l : List ByteArray) : ∀ u ∈ l.map Value.string, u.oneCell' = true := by
  intro u hu; obtain ⟨s, _, rfl⟩ := List.mem_map.1 hu; rfl

theorem add_calls {h : Heap} {O : Nat → Prop} {v : Value} {l : List ByteArray} {s : ByteArray} (way : Int) (hv : SlR .str h O v l) (hl : l.length ≤ 1000000) (hs : s.size ≤ 1000000) (hls : ∀ x ∈ l, x.size ≤ 1000000) :
    CallsH Try.prog 6 #[v, .string s, .int .i64 way] h (Ret fun r h' => OwnH h' h.size 9 1 r (add l s way).length ((add l s way).map .string) ∧ Ext0 h h') := by
  obtain ⟨oa, n, c, rfl, hsl⟩ := hv.open
  have hn := hsl.len
  have hrow := hsl.row
  refine CallsH.of Try.func6 rfl rfl ?_
  refine G.seq rfl ?_
  refine G.reg Try.func6 rfl ?_
  refine RW.pureS rfl rfl rfl rfl (OpP.assign rfl) ?_
  refine RW.done rfl ?_
  refine G.sub (ρ' := [(0, _), (1, _), (2, _), (6, _)]) ⟨rfl, rfl, rfl, rfl, trivial⟩ ?_
  refine G.seq rfl ?_
  refine G.reg Try.func6 rfl ?_
  refine RW.pureS rfl rfl rfl rfl (OpP.move rfl) ?_
  refine RW.opS rfl rfl rfl rfl (OpX.append Try.underlying22 H.el9 rfl rfl (OwnH.nil h h.size 9 1) (by simp [hn]) hrow (one_str l) (by simp only [maxLen]; omega) (by omega) (Nat.le_refl _)) ?_
  rintro v1 h1 ⟨ho1, he1, -, -⟩
  refine RW.pureS rfl rfl rfl rfl (OpP.assign rfl) ?_
  refine RW.done rfl ?_
  refine G.sub (ρ' := [(0, _), (1, _), (2, _), (6, _), (7, _)]) ⟨rfl, rfl, rfl, rfl, rfl, trivial⟩ ?_
  refine G.seq rfl ?_
  refine G.block rfl rfl ?_
  refine G.seq rfl ?_
  refine G.reg Try.func6 rfl ?_
  refine RW.pureS rfl rfl rfl rfl (OpP.move rfl) ?_
  refine RW.pureS rfl rfl rfl rfl (OpP.eqlStr rfl rfl) ?_
  refine RW.pureS rfl rfl rfl rfl (OpP.assign rfl) ?_
  refine RW.done rfl ?_
  refine G.sub (ρ' := [(0, _), (1, _), (2, _), (6, _), (7, _), (14, _)]) ⟨rfl, rfl, rfl, rfl, rfl, rfl, trivial⟩ ?_
  have he1 := ext_but_none he1
  rw [Nat.zero_add, List.nil_append] at ho1
  obtain ⟨oa1, c1, rfl, hw1⟩ := ho1.open
  have hc1 := hw1.cap
  have hle1 := hw1.le
  unfold maxLen at hc1
  refine G.ite rfl rfl (fun hse => ?_) (fun hse => ?_)
  · refine G.seq rfl ?_
    refine G.reg Try.func6 rfl ?_
    refine RW.pureS rfl rfl rfl rfl (OpP.move rfl) ?_
    refine RW.pureS rfl rfl rfl rfl (OpP.assign rfl) ?_
    refine RW.done rfl ?_
    refine G.sub (ρ' := [(0, _), (1, _), (2, _), (6, _), (7, _), (14, _)]) ⟨rfl, rfl, rfl, rfl, rfl, rfl, trivial⟩ ?_
    refine G.ret Try.func6 rfl rfl ?_
    refine ⟨_, rfl, ?_, he1⟩
    have : add l s way = l := by unfold add; exact if_pos hse
    rw [this, hn]
    exact hw1.own
  · refine G.seq rfl ?_
    have fin : ∀ (oa' : Option Addr) (m c' : Nat) (xs : List ByteArray) (h' : Heap) (ρ' : Env), Sub [(7, .slice oa' m c')] ρ' → Ow h' h.size 9 1 oa' m c' (xs.map .string) → Ext0 h h' → xs.take 10 = add l s way → G Try.prog 6 Try.f6 [.blk 0, .code [1, 1, 1]] ρ' h' (Ret fun r h' => OwnH h' h.size 9 1 r (add l s way).length ((add l s way).map .string) ∧ Ext0 h h') := by
      intro oa' m c' xs h2 ρ' hsub hw he hx
      have hcap := hw.cap
      have hle2 := hw.le
      have hlen := hw.len
      simp at hlen
      unfold maxLen at hcap
      refine G.sub (ρ' := [(7, .slice oa' m c')]) hsub ?_
      refine G.blkEnd ?_
      refine G.seq rfl ?_
      refine G.reg Try.func6 rfl ?_
      refine RW.pureS rfl rfl rfl rfl (OpP.move rfl) ?_
      refine RW.pureS rfl rfl rfl rfl (OpP.move rfl) ?_
      refine RW.pureS rfl rfl rfl rfl (OpP.lenSlice Try.underlying22 rfl) ?_
      refine RW.pureS rfl rfl rfl rfl (OpP.min2 rfl rfl) ?_
      refine RW.pureS rfl rfl rfl rfl (OpP.sliceSliceHi Try.underlying22 H.sz9 rfl rfl (if (10 : Nat) < m then 10 else m) (by split <;> split <;> omega) (by split <;> omega)) ?_
      refine RW.pureS rfl rfl rfl rfl (OpP.assign rfl) ?_
      refine RW.done rfl ?_
      refine G.sub (ρ' := [(6, _), (7, _)]) ⟨rfl, rfl, trivial⟩ ?_
      refine G.ret Try.func6 rfl rfl ?_
      have hm : (if (10 : Nat) < m then 10 else m) = (xs.take 10).length := by rw [List.length_take]; split <;> omega
      have := hw.take (m := (xs.take 10).length) (by rw [List.length_take]; omega) 1
      rw [Nat.mul_one, ← List.map_take] at this
      have htt : xs.take (xs.take 10).length = xs.take 10 := by
        rw [List.length_take]
        rcases Nat.lt_or_ge xs.length 10 with h | h
        · rw [Nat.min_eq_right (by omega), List.take_of_length_le (Nat.le_refl _), List.take_of_length_le (by omega)]
        · rw [Nat.min_eq_left h]
      rw [htt] at this
      refine ⟨_, rfl, ?_, he⟩
      rw [hm, ← hx]
      exact this
    have hs0 : ¬ s = noText := hse
    refine G.regTo1 [(18, .bool (decide (0 < way ∧ 0 < n)))] [(0, _), (1, _), (2, _), (6, _), (7, _), (14, _)] ⟨rfl, rfl, rfl, rfl, rfl, rfl, trivial⟩ Try.func6 rfl ?_ ?_
    · refine RW.pureS rfl rfl rfl rfl (OpP.move rfl) ?_
      refine RW.pureS rfl rfl rfl rfl (OpP.gtr rfl rfl) ?_
      refine RW.pureS rfl rfl rfl rfl (OpP.move rfl) ?_
      refine RW.split (d := 21) rfl (fun hg => ?_) (fun hg => ?_)
      · refine RW.pureS rfl rfl rfl rfl (OpP.move rfl) ?_
        refine RW.pureS rfl rfl rfl rfl (OpP.lenSlice Try.underlying22 rfl) ?_
        refine RW.pureS rfl rfl rfl rfl (OpP.gtr rfl rfl) ?_
        refine RW.pureS rfl rfl rfl rfl (OpP.pickT rfl rfl) ?_
        refine RW.pureS rfl rfl rfl rfl (OpP.assign rfl) ?_
        refine RW.done rfl ?_
        exact ⟨rfl, at_bool rfl (by simp [hg]), rfl, rfl, rfl, rfl, rfl, rfl, trivial⟩
      · refine RW.skipS rfl rfl rfl rfl ?_
        refine RW.skipS rfl rfl rfl rfl ?_
        refine RW.skipS rfl rfl rfl rfl ?_
        refine RW.pureS rfl rfl rfl rfl (OpP.pickF rfl rfl) ?_
        refine RW.pureS rfl rfl rfl rfl (OpP.assign rfl) ?_
        refine RW.done rfl ?_
        exact ⟨rfl, at_bool rfl (by simp [hg]), rfl, rfl, rfl, rfl, rfl, rfl, trivial⟩
    · refine G.ite rfl rfl (fun hway => ?_) (fun hway => ?_)
      · obtain ⟨hw0, hn0⟩ := hway
        obtain ⟨x, r, rfl⟩ : ∃ x r, l = x :: r := by cases l with | nil => simp at hn; omega | cons x r => exact ⟨x, r, rfl⟩
        obtain ⟨g, ha, hg, hlt, hcell, hfz⟩ := hw1.at (i := 0) (x := .string x) rfl
        refine G.reg Try.func6 rfl ?_
        refine RW.pureS rfl rfl rfl rfl (OpP.move rfl) ?_
        refine RW.pureS rfl rfl rfl rfl (OpP.indexSlice Try.underlying22 H.sz9 rfl rfl 0 rfl ha hn0) ?_
        refine RW.pureS rfl rfl rfl rfl (OpP.load H.ag9 rfl hcell) ?_
        refine RW.pureS rfl rfl rfl rfl (OpP.move rfl) ?_
        refine RW.pureS rfl rfl rfl rfl (OpP.addStr rfl rfl (by have := hls x (by simp); omega)) ?_
        refine RW.pureS rfl rfl rfl rfl (OpP.indexSlice Try.underlying22 H.sz9 rfl rfl 0 rfl ha hn0) ?_
        refine RW.op0 rfl rfl rfl (OpX.store H.sz9 rfl rfl rfl hcell hfz) ?_
        rintro _ _ ⟨rfl, rfl⟩
        refine RW.done rfl ?_
        refine G.sub (ρ' := [(0, _), (1, _), (2, _), (6, _), (7, _), (14, _), (18, _)]) ⟨rfl, rfl, rfl, rfl, rfl, rfl, rfl, trivial⟩ ?_
        have hw2 := hw1.set ha hn0 (.string (x ++ s))
        exact fin _ _ _ ((x ++ s) :: r) _ _ ⟨rfl, trivial⟩ hw2 (he1.set hg _) (by unfold add; rw [if_neg hs0]; simp [hw0])
      · refine G.seq rfl ?_
        refine G.regTo1 [(32, .bool (decide (way < 0 ∧ 0 < n)))] [(0, _), (1, _), (2, _), (6, _), (7, _), (14, _), (18, _)] ⟨rfl, rfl, rfl, rfl, rfl, rfl, rfl, trivial⟩ Try.func6 rfl ?_ ?_
        · refine RW.pureS rfl rfl rfl rfl (OpP.move rfl) ?_
          refine RW.pureS rfl rfl rfl rfl (OpP.lss rfl rfl) ?_
          refine RW.pureS rfl rfl rfl rfl (OpP.move rfl) ?_
          refine RW.split (d := 35) rfl (fun hg => ?_) (fun hg => ?_)
          · refine RW.pureS rfl rfl rfl rfl (OpP.move rfl) ?_
            refine RW.pureS rfl rfl rfl rfl (OpP.lenSlice Try.underlying22 rfl) ?_
            refine RW.pureS rfl rfl rfl rfl (OpP.gtr rfl rfl) ?_
            refine RW.pureS rfl rfl rfl rfl (OpP.pickT rfl rfl) ?_
            refine RW.pureS rfl rfl rfl rfl (OpP.assign rfl) ?_
            refine RW.done rfl ?_
            exact ⟨rfl, at_bool rfl (by simp [hg]), rfl, rfl, rfl, rfl, rfl, rfl, rfl, trivial⟩
          · refine RW.skipS rfl rfl rfl rfl ?_
            refine RW.skipS rfl rfl rfl rfl ?_
            refine RW.skipS rfl rfl rfl rfl ?_
            refine RW.pureS rfl rfl rfl rfl (OpP.pickF rfl rfl) ?_
            refine RW.pureS rfl rfl rfl rfl (OpP.assign rfl) ?_
            refine RW.done rfl ?_
            exact ⟨rfl, at_bool rfl (by simp [hg]), rfl, rfl, rfl, rfl, rfl, rfl, rfl, trivial⟩
        · refine G.ite rfl rfl (fun hway2 => ?_) (fun hway2 => ?_)
          · obtain ⟨hw0, hn0⟩ := hway2
            obtain ⟨x, r, rfl⟩ : ∃ x r, l = x :: r := by cases l with | nil => simp at hn; omega | cons x r => exact ⟨x, r, rfl⟩
            obtain ⟨g, ha, hg, hlt, hcell, hfz⟩ := hw1.at (i := 0) (x := .string x) rfl
            refine G.reg Try.func6 rfl ?_
            refine RW.pureS rfl rfl rfl rfl (OpP.move rfl) ?_
            refine RW.pureS rfl rfl rfl rfl (OpP.move rfl) ?_
            refine RW.pureS rfl rfl rfl rfl (OpP.move rfl) ?_
            refine RW.pureS rfl rfl rfl rfl (OpP.indexSlice Try.underlying22 H.sz9 rfl rfl 0 rfl ha hn0) ?_
            refine RW.pureS rfl rfl rfl rfl (OpP.load H.ag9 rfl hcell) ?_
            refine RW.pureS rfl rfl rfl rfl (OpP.addStr rfl rfl (by have := hls x (by simp); omega)) ?_
            refine RW.pureS rfl rfl rfl rfl (OpP.indexSlice Try.underlying22 H.sz9 rfl rfl 0 rfl ha hn0) ?_
            refine RW.op0 rfl rfl rfl (OpX.store H.sz9 rfl rfl rfl hcell hfz) ?_
            rintro _ _ ⟨rfl, rfl⟩
            refine RW.done rfl ?_
            refine G.sub (ρ' := [(0, _), (1, _), (2, _), (6, _), (7, _), (14, _), (18, _), (32, _)]) ⟨rfl, rfl, rfl, rfl, rfl, rfl, rfl, rfl, trivial⟩ ?_
            have hw2 := hw1.set ha hn0 (.string (s ++ x))
            exact fin _ _ _ ((s ++ x) :: r) _ _ ⟨rfl, trivial⟩ hw2 (he1.set hg _) (by unfold add; rw [if_neg hs0]; simp [hw0]; omega)
          · have hmade := OwnH.made h1 [.string s] 9 1 rfl (by decide) h.size he1.size
            have hrow1 : n = 0 ∨ ∃ b o, oa1 = some ⟨b, o, none⟩ ∧ Lw.rowAt (h1.push (.cells [Value.string s].toArray 9)) b o (l.map .string) :=
              hw1.row.imp id fun ⟨b, o, ha, hr⟩ => ⟨b, o, ha, (Ext.push (fun _ => False) _ _).rowAt (fun k => k) hr⟩
            refine G.reg Try.func6 rfl ?_
            refine RW.pureS rfl rfl rfl rfl (OpP.move rfl) ?_
            refine RW.opS rfl rfl rfl rfl (OpX.buildOnes (us := [_]) Try.underlying22 H.el9 rfl rfl (by decide) (by simp [Value.oneCell'])) ?_
            rintro _ _ ⟨rfl, rfl⟩
            refine RW.pureS rfl rfl rfl rfl (OpP.move rfl) ?_
            refine RW.opS rfl rfl rfl rfl (OpX.append Try.underlying22 H.el9 rfl rfl hmade (by simp [hn]) hrow1 (one_str l) (by simp only [maxLen]; omega) (by omega) (by have := he1.size; simp; omega)) ?_
            rintro v2 h2 ⟨ho2, he2, -, -⟩
            refine RW.pureS rfl rfl rfl rfl (OpP.assign rfl) ?_
            refine RW.done rfl ?_
            refine G.sub (ρ' := [(0, _), (1, _), (2, _), (6, _), (7, _), (14, _), (18, _), (32, _)]) ⟨rfl, rfl, rfl, rfl, rfl, rfl, rfl, rfl, trivial⟩ ?_
            obtain ⟨oa2, c2, rfl, hw2⟩ := ho2.open
            have hadd : (s :: l).take 10 = add l s way := by
              unfold add; rw [if_neg hs0]
              cases l with
              | nil => rfl
              | cons x r => simp at hn; simp only; rw [if_neg (by omega), if_neg (by omega)]
            exact fin _ _ _ (s :: l) _ _ ⟨rfl, trivial⟩ hw2 (Ext.own (he1.push _) hmade (Nat.le_refl _) he2) hadd

theorem turn_calls {h : Heap} {O : Nat → Prop} {v : Value} {l : List ByteArray} (hv : SlR .str h O v l) (hl : l.length ≤ 1000000) :
    CallsH Try.prog 7 #[v] h (Ret fun r h' => OwnH h' h.size 9 1 r (turn l).length ((turn l).map .string) ∧ Ext0 h h') := by
  obtain ⟨oa, n, c, rfl, hsl⟩ := hv.open
  have hn := hsl.len
  have hc := hsl.cap
  have hle := hsl.le
  unfold maxLen at hc
  refine CallsH.of Try.func7 rfl rfl ?_
  refine G.seq rfl ?_
  refine G.reg Try.func7 rfl ?_
  refine RW.pureS rfl rfl rfl rfl (OpP.assign rfl) ?_
  refine RW.done rfl ?_
  refine G.sub (ρ' := [(0, _), (2, _)]) ⟨rfl, rfl, trivial⟩ ?_
  refine G.seq rfl ?_
  refine G.seq rfl ?_
  refine G.reg Try.func7 rfl ?_
  refine RW.pureS rfl rfl rfl rfl (OpP.move rfl) ?_
  refine RW.pureS rfl rfl rfl rfl (OpP.lenSlice Try.underlying22 rfl) ?_
  refine RW.pureS rfl rfl rfl rfl (OpP.eqlInt rfl rfl) ?_
  refine RW.done rfl ?_
  refine G.sub (ρ' := [(0, _), (2, _), (5, _)]) ⟨rfl, rfl, rfl, trivial⟩ ?_
  refine G.ite rfl rfl (fun h0 => ?_) (fun h0 => ?_)
  · refine G.seq rfl ?_
    refine G.reg Try.func7 rfl ?_
    refine RW.pureS rfl rfl rfl rfl (OpP.assign rfl) ?_
    refine RW.done rfl ?_
    refine G.sub (ρ' := [(0, _), (2, _), (5, _)]) ⟨rfl, rfl, rfl, trivial⟩ ?_
    refine G.ret Try.func7 rfl rfl ?_
    have : l = [] := List.eq_nil_of_length_eq_zero (by omega)
    subst this
    exact ⟨_, rfl, OwnH.nil _ _ _ _, Ext.refl _ _⟩
  · have hn0 : 0 < n := by omega
    obtain ⟨b, o, x, ha, _, hx, hcell⟩ := hsl.at hn0
    obtain ⟨r, rfl⟩ : ∃ r, l = x :: r := by cases l with | nil => simp at hx | cons y r => simp at hx; subst hx; exact ⟨r, rfl⟩
    simp at hn
    have hrow : n - 1 = 0 ∨ ∃ b o, partAddr oa 1 1 c = some ⟨b, o, none⟩ ∧ Lw.rowAt h b o (r.map .string) := by
      have := (hsl.part (i := 1) (j := n) (by omega) (Nat.le_refl _)).row
      rw [List.take_of_length_le (by simp; omega)] at this
      exact this
    refine G.skip rfl ?_
    refine G.seq rfl ?_
    refine G.drawToX (fun (v' : Value) (h' : Heap) => OwnH h' h.size 9 1 v' (turn (x :: r)).length ((turn (x :: r)).map .string) ∧ Ext0 h h') (fun (v' : Value) => [(2, v')]) [(0, _), (5, _)] ⟨rfl, rfl, trivial⟩ (fun b => Array.size h ≤ b) (fun i => Nat.blt i 9) (sz := 9) (listed := #[false, false, false, false, false, false, false, false, false]) Try.func7 H.mixed rfl rfl rfl ?_ ?_
    · refine RD.takeS 0 (listed' := #[true, false, false, false, false, false, false, false, false]) rfl (by kernel_rfl) (by kernel_rfl) (by kernel_rfl) rfl rfl rfl (fun h' e => OpP.move rfl) rfl ?_
      refine RD.takeS 1 (listed' := #[true, true, false, false, false, false, false, false, false]) rfl (by kernel_rfl) (by kernel_rfl) (by kernel_rfl) rfl rfl rfl (fun h' e => OpP.sliceSliceLo Try.underlying22 H.sz9 rfl rfl 1 rfl hn0) rfl ?_
      refine RD.takeS 3 (listed' := #[true, true, false, true, false, false, false, false, false]) rfl (by kernel_rfl) (by kernel_rfl) (by kernel_rfl) rfl rfl rfl (fun h' e => OpP.move rfl) rfl ?_
      refine RD.takeS 4 (listed' := #[true, true, false, true, true, false, false, false, false]) rfl (by kernel_rfl) (by kernel_rfl) (by kernel_rfl) rfl rfl rfl (fun h' e => OpP.indexSlice Try.underlying22 H.sz9 rfl rfl 0 rfl ha hn0) rfl ?_
      refine RD.takeS 5 (listed' := #[true, true, false, true, true, true, false, false, false]) rfl (by kernel_rfl) (by kernel_rfl) (by kernel_rfl) rfl rfl rfl (fun h' e => OpP.load H.ag9 rfl (e.old hcell)) rfl ?_
      have hl1 : (r.map Value.string).length = (n - 1) * 1 := by simp; omega
      have hn1 : n ≤ 1000000 := by simp at hl; omega
      refine RD.twoS 2 6 (li := #[true, true, true, true, true, true, false, false, false]) (lj := #[true, true, false, true, true, true, true, false, false]) rfl rfl (by kernel_rfl) rfl rfl rfl rfl rfl rfl (OpX.append Try.underlying22 H.el9 rfl rfl (OwnH.nil h h.size 9 1) hl1 hrow (one_str r) (by simp only [maxLen]; omega) (by omega) (Nat.le_refl _)) (OpX.buildOnes (us := [_]) Try.underlying22 H.el9 rfl rfl (by decide) (by simp [Value.oneCell'])) rfl rfl ?_ ?_
      · rintro v1 h1 ⟨ho1, he1, -, -⟩
        refine ⟨fun _ => (ext_but_none he1).of, ?_⟩
        rw [Nat.zero_add, List.nil_append] at ho1
        have he1 := ext_but_none he1
        have ho2 := ho1.ext (Ext.push (fun _ => False) h1 (.cells [Value.string x].toArray 9)) (fun _ _ k => k)
        refine RD.oneS 6 (listed' := #[true, true, true, true, true, true, true, false, false]) rfl (by kernel_rfl) rfl rfl rfl (OpX.buildOnes (us := [_]) Try.underlying22 H.el9 rfl rfl (by decide) (by simp [Value.oneCell'])) rfl ?_
        rintro _ _ ⟨rfl, rfl⟩
        refine ⟨fun _ => by first | exact Ext.push _ _ _ | assumption, ?_⟩
        refine RD.oneS 7 (listed' := #[true, true, true, true, true, true, true, true, false]) rfl (by kernel_rfl) rfl rfl rfl (OpX.append Try.underlying22 H.el9 rfl rfl ho2 rfl (.inr ⟨_, _, rfl, row_made _ _ _⟩) (by simp [Value.oneCell']) (by simp only [maxLen]; omega) (by omega) (by have := he1.size; simp; omega)) rfl ?_
        rintro v2 h2 ⟨ho3, he3, -, -⟩
        refine ⟨fun _ => he3.mono (fun i _ hi => (ho2.lt hi.symm).1), ?_⟩
        refine RD.takeS 8 (listed' := #[true, true, true, true, true, true, true, true, true]) rfl (by kernel_rfl) (by kernel_rfl) (by kernel_rfl) rfl rfl rfl (fun h' e => OpP.assign rfl) rfl ?_
        refine RD.done (by kernel_rfl) ?_
        exact ⟨v2, ⟨by simpa [turn, show n - 1 + 1 = r.length + 1 from by omega] using ho3, Ext.own (he1.push _) ho2 (Nat.le_refl _) he3⟩, rfl, rfl, rfl, trivial⟩
      · rintro _ _ ⟨rfl, rfl⟩
        refine ⟨fun _ => by first | exact Ext.push _ _ _ | assumption, ?_⟩
        refine RD.oneS 2 (listed' := #[true, true, true, true, true, true, true, false, false]) rfl (by kernel_rfl) rfl rfl rfl (OpX.append Try.underlying22 H.el9 rfl rfl (OwnH.nil _ h.size 9 1) hl1 (hrow.imp id fun ⟨b, o, ha, hr⟩ => ⟨b, o, ha, (Ext.push (fun _ => False) _ _).rowAt (fun k => k) hr⟩) (one_str r) (by simp only [maxLen]; omega) (by omega) (by simp)) rfl ?_
        rintro v1 h1 ⟨ho1, he1, -, -⟩
        refine ⟨fun _ => (ext_but_none he1).of, ?_⟩
        rw [Nat.zero_add, List.nil_append] at ho1
        have he1 := ext_but_none he1
        have heh : Ext0 h h1 := (Ext.push _ _ _).trans he1
        refine RD.oneS 7 (listed' := #[true, true, true, true, true, true, true, true, false]) rfl (by kernel_rfl) rfl rfl rfl (OpX.append Try.underlying22 H.el9 rfl rfl ho1 rfl (.inr ⟨_, _, rfl, he1.rowAt (fun k => k) (row_made _ _ _)⟩) (by simp [Value.oneCell']) (by simp only [maxLen]; omega) (by omega) heh.size) rfl ?_
        rintro v2 h2 ⟨ho3, he3, -, -⟩
        refine ⟨fun _ => he3.mono (fun i _ hi => (ho1.lt hi.symm).1), ?_⟩
        refine RD.takeS 8 (listed' := #[true, true, true, true, true, true, true, true, true]) rfl (by kernel_rfl) (by kernel_rfl) (by kernel_rfl) rfl rfl rfl (fun h' e => OpP.assign rfl) rfl ?_
        refine RD.done (by kernel_rfl) ?_
        exact ⟨v2, ⟨by simpa [turn, show n - 1 + 1 = r.length + 1 from by omega] using ho3, Ext.own heh ho1 (Nat.le_refl _) he3⟩, rfl, rfl, rfl, trivial⟩
    · rintro v' h' ⟨ho, he⟩
      refine G.ret Try.func7 rfl rfl ?_
      exact ⟨_, rfl, ho, he⟩

end Go.Proofs.Ytdiaedohhnbonaa
