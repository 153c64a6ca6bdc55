/- Texts in lists: limnerlaw19.Great and Texts; what the later texts share. -/
import Derived.Test.YtoddkkjkhfdehaaHead
namespace Go.Proofs.Ytoddkkjkhfdehaa
open Go Go.Lw

def great (l : List ByteArray) (most : Int) : Bool := l.any (fun s => decide (500 < s.size)) || decide (most < l.length)

theorem great_calls {h : Heap} {O : Nat → Prop} {v : Value} {l : List ByteArray} (most : Int) (hv : SlR .str h O v l) :
    CallsH Try.prog 5 #[v, .int .i64 most] h (Ret fun r h' => r = .bool (great l most) ∧ h' = h) := by
  obtain ⟨oa, n, c, rfl, hs⟩ := hv.open
  have hn := hs.len
  have hc := hs.cap
  have hle := hs.le
  unfold maxLen at hc
  refine CallsH.of Try.func5 rfl rfl ?_
  refine G.seq rfl ?_
  refine G.reg Try.func5 rfl ?_
  refine RW.pureS rfl rfl rfl rfl (OpP.assign rfl) ?_
  refine RW.done rfl ?_
  refine G.sub (ρ' := [(0, _), (1, _), (4, _)]) ⟨rfl, rfl, rfl, trivial⟩ ?_
  refine G.seq rfl ?_
  refine G.seq rfl ?_
  refine G.reg Try.func5 rfl ?_
  refine RW.pureS rfl rfl rfl rfl (OpP.assign rfl) ?_
  refine RW.done rfl ?_
  refine G.sub (ρ' := [(0, _), (1, _), (4, _), (5, _)]) ⟨rfl, rfl, rfl, rfl, trivial⟩ ?_
  refine G.block rfl rfl ?_
  refine G.loop (σ := Nat) (fun k => [(0, .slice oa n c), (1, .int .i64 most), (5, .int .i64 k)]) (fun k h' => h' = h ∧ k ≤ n ∧ (l.take k).any (fun s => decide (500 < s.size)) = false) (fun k => n - k) (0) rfl ⟨rfl, rfl, rfl, trivial⟩ ⟨rfl, Nat.zero_le _, rfl⟩ ?_
  rintro k _ ⟨rfl, hk, hany⟩ ih
  refine G.seq rfl ?_
  refine G.seq rfl ?_
  refine G.reg Try.func5 rfl ?_
  refine RW.pureS rfl rfl rfl rfl (OpP.move rfl) ?_
  refine RW.pureS rfl rfl rfl rfl (OpP.move rfl) ?_
  refine RW.pureS rfl rfl rfl rfl (OpP.lenSlice Try.underlying22 rfl) ?_
  refine RW.pureS rfl rfl rfl rfl (OpP.lss rfl rfl) ?_
  refine RW.done rfl ?_
  refine G.sub (ρ' := [(0, _), (1, _), (5, _), (9, _)]) ⟨rfl, rfl, rfl, rfl, trivial⟩ ?_
  refine G.ite rfl rfl (fun hlt => ?_) (fun hlt => ?_)
  · refine G.skip rfl ?_
    refine G.seq rfl ?_
    refine G.block rfl rfl ?_
    refine G.seq rfl ?_
    refine G.reg Try.func5 rfl ?_
    refine RW.pureS rfl rfl rfl rfl (OpP.move rfl) ?_
    refine RW.pureS rfl rfl rfl rfl (OpP.move rfl) ?_
    have hlt' : k < n := by omega
    obtain ⟨b, o, x, ha, ho, hx, hcell⟩ := hs.at hlt'
    have htake : l.take (k + 1) = l.take k ++ [x] := by rw [List.take_add_one, hx]; rfl
    refine RW.pureS rfl rfl rfl rfl (OpP.indexSlice Try.underlying22 H.sz9 rfl rfl k rfl ha hlt') ?_
    refine RW.pureS rfl rfl rfl rfl (OpP.load H.ag9 rfl hcell) ?_
    refine RW.pureS rfl rfl rfl rfl (OpP.lenString Try.underlying9 rfl) ?_
    refine RW.pureS rfl rfl rfl rfl (OpP.gtr rfl rfl) ?_
    refine RW.done rfl ?_
    refine G.sub (ρ' := [(0, _), (1, _), (5, _), (9, _), (17, _)]) ⟨rfl, rfl, rfl, rfl, rfl, trivial⟩ ?_
    refine G.ite rfl rfl (fun hbig => ?_) (fun hbig => ?_)
    · refine G.seq rfl ?_
      refine G.reg Try.func5 rfl ?_
      refine RW.pureS rfl rfl rfl rfl (OpP.assign rfl) ?_
      refine RW.done rfl ?_
      refine G.sub (ρ' := [(0, _), (1, _), (4, _), (5, _), (9, _), (17, _)]) ⟨rfl, rfl, rfl, rfl, rfl, rfl, trivial⟩ ?_
      refine G.ret Try.func5 rfl rfl ?_
      refine ⟨_, rfl, ?_, rfl⟩
      have : great l most = true := by
        unfold great
        rw [Bool.or_eq_true]
        refine Or.inl (List.any_eq_true.2 ⟨x, List.mem_of_getElem? hx, ?_⟩)
        simp; omega
      rw [this]; rfl
    · refine G.skip rfl ?_
      refine G.blkEnd ?_
      refine G.reg Try.func5 rfl ?_
      refine RW.pureS rfl rfl rfl rfl (OpP.move rfl) ?_
      refine RW.pureS rfl rfl rfl rfl (OpP.add64 rfl rfl ⟨by omega, by omega⟩) ?_
      refine RW.pureS rfl rfl rfl rfl (OpP.assign rfl) ?_
      refine RW.done rfl ?_
      refine G.sub (ρ' := [(0, _), (1, _), (5, _), (9, _), (17, _)]) ⟨rfl, rfl, rfl, rfl, rfl, trivial⟩ ?_
      exact ih (k + 1) _ _ ⟨rfl, rfl, rfl, trivial⟩ ⟨rfl, by omega, by rw [htake, List.any_append, hany]; simp; omega⟩ (by omega)
  · refine G.exit rfl rfl ?_
    refine G.seq rfl ?_
    refine G.reg Try.func5 rfl ?_
    refine RW.pureS rfl rfl rfl rfl (OpP.move rfl) ?_
    refine RW.pureS rfl rfl rfl rfl (OpP.lenSlice Try.underlying22 rfl) ?_
    refine RW.pureS rfl rfl rfl rfl (OpP.move rfl) ?_
    refine RW.pureS rfl rfl rfl rfl (OpP.gtr rfl rfl) ?_
    refine RW.pureS rfl rfl rfl rfl (OpP.assign rfl) ?_
    refine RW.done rfl ?_
    refine G.sub (ρ' := [(0, _), (1, _), (4, _), (5, _), (9, _)]) ⟨rfl, rfl, rfl, rfl, rfl, trivial⟩ ?_
    refine G.ret Try.func5 rfl rfl ?_
    have hkn : k = n := by omega
    subst hkn
    rw [List.take_of_length_le (by omega)] at hany
    exact ⟨_, rfl, by unfold great; rw [hany, hn]; rfl, rfl⟩

theorem texts_calls {h : Heap} {O O' : Nat → Prop} {v v' : Value} {l l' : List ByteArray} (hv : SlR .str h O v l) (hv' : SlR .str h O' v' l') :
    CallsH Try.prog 8 #[v, v'] h (Ret fun r h' => r = .bool (decide (l = l')) ∧ h' = h) := by
  obtain ⟨oa, n, c, rfl, hs⟩ := hv.open
  obtain ⟨oa', n', c', rfl, hs'⟩ := hv'.open
  have hn := hs.len
  have hn' := hs'.len
  have hc := hs.cap
  have hle := hs.le
  unfold maxLen at hc
  refine CallsH.of Try.func8 rfl rfl ?_
  refine G.seq rfl ?_
  refine G.reg Try.func8 rfl ?_
  refine RW.pureS rfl rfl rfl rfl (OpP.assign rfl) ?_
  refine RW.done rfl ?_
  refine G.sub (ρ' := [(0, _), (1, _), (4, _)]) ⟨rfl, rfl, rfl, trivial⟩ ?_
  refine G.seq rfl ?_
  refine G.seq rfl ?_
  refine G.reg Try.func8 rfl ?_
  refine RW.pureS rfl rfl rfl rfl (OpP.move rfl) ?_
  refine RW.pureS rfl rfl rfl rfl (OpP.lenSlice Try.underlying22 rfl) ?_
  refine RW.pureS rfl rfl rfl rfl (OpP.move rfl) ?_
  refine RW.pureS rfl rfl rfl rfl (OpP.lenSlice Try.underlying22 rfl) ?_
  refine RW.pureS rfl rfl rfl rfl (OpP.neqInt rfl rfl) ?_
  refine RW.done rfl ?_
  refine G.sub (ρ' := [(0, _), (1, _), (4, _), (10, _)]) ⟨rfl, rfl, rfl, rfl, trivial⟩ ?_
  refine G.ite rfl rfl (fun hne => ?_) (fun hne => ?_)
  · refine G.seq rfl ?_
    refine G.reg Try.func8 rfl ?_
    refine RW.pureS rfl rfl rfl rfl (OpP.assign rfl) ?_
    refine RW.done rfl ?_
    refine G.sub (ρ' := [(0, _), (1, _), (4, _), (10, _)]) ⟨rfl, rfl, rfl, rfl, trivial⟩ ?_
    refine G.ret Try.func8 rfl rfl ?_
    have : ¬ l = l' := by rintro rfl; omega
    exact ⟨_, rfl, by simp [this]; rfl, rfl⟩
  · have hnn : n = n' := by omega
    subst hnn
    refine G.skip rfl ?_
    refine G.seq rfl ?_
    refine G.seq rfl ?_
    refine G.reg Try.func8 rfl ?_
    refine RW.pureS rfl rfl rfl rfl (OpP.assign rfl) ?_
    refine RW.done rfl ?_
    refine G.sub (ρ' := [(0, _), (1, _), (4, _), (5, _), (10, _)]) ⟨rfl, rfl, rfl, rfl, rfl, trivial⟩ ?_
    refine G.block rfl rfl ?_
    refine G.loop (σ := Nat) (fun k => [(0, .slice oa n c), (1, .slice oa' n c'), (5, .int .i64 k)]) (fun k h' => h' = h ∧ k ≤ n ∧ l.take k = l'.take k) (fun k => n - k) (0) rfl ⟨rfl, rfl, rfl, trivial⟩ ⟨rfl, Nat.zero_le _, rfl⟩ ?_
    rintro k h1 ⟨rfl, hk, heq⟩ ih
    refine G.seq rfl ?_
    refine G.seq rfl ?_
    refine G.reg Try.func8 rfl ?_
    refine RW.pureS rfl rfl rfl rfl (OpP.move rfl) ?_
    refine RW.pureS rfl rfl rfl rfl (OpP.move rfl) ?_
    refine RW.pureS rfl rfl rfl rfl (OpP.lenSlice Try.underlying22 rfl) ?_
    refine RW.pureS rfl rfl rfl rfl (OpP.lss rfl rfl) ?_
    refine RW.done rfl ?_
    refine G.sub (ρ' := [(0, _), (1, _), (5, _), (14, _)]) ⟨rfl, rfl, rfl, rfl, trivial⟩ ?_
    refine G.ite rfl rfl (fun hlt => ?_) (fun hlt => ?_)
    · have hlt' : k < n := by omega
      obtain ⟨b, o, x, ha, ho, hx, hcell⟩ := hs.at hlt'
      obtain ⟨b', o', x', ha', ho', hx', hcell'⟩ := hs'.at hlt'
      refine G.skip rfl ?_
      refine G.seq rfl ?_
      refine G.block rfl rfl ?_
      refine G.seq rfl ?_
      refine G.drawQ Try.func8 H.mixed rfl (by kernel_rfl) ?_
      refine RQ.pureS rfl rfl rfl rfl (OpP.move rfl) ?_
      refine RQ.pureS rfl rfl rfl rfl (OpP.move rfl) ?_
      refine RQ.pureS rfl rfl rfl rfl (OpP.indexSlice Try.underlying22 H.sz9 rfl rfl k rfl ha hlt') ?_
      refine RQ.pureS rfl rfl rfl rfl (OpP.load H.ag9 rfl hcell) ?_
      refine RQ.pureS rfl rfl rfl rfl (OpP.move rfl) ?_
      refine RQ.pureS rfl rfl rfl rfl (OpP.move rfl) ?_
      refine RQ.pureS rfl rfl rfl rfl (OpP.indexSlice Try.underlying22 H.sz9 rfl rfl k rfl ha' hlt') ?_
      refine RQ.pureS rfl rfl rfl rfl (OpP.load H.ag9 rfl hcell') ?_
      refine RQ.pureS rfl rfl rfl rfl (OpP.neqStr rfl rfl) ?_
      refine RQ.done rfl ?_
      refine G.sub (ρ' := [(0, _), (1, _), (5, _), (14, _), (25, _)]) ⟨rfl, rfl, rfl, rfl, rfl, trivial⟩ ?_
      refine G.ite rfl rfl (fun hne' => ?_) (fun hne' => ?_)
      · refine G.seq rfl ?_
        refine G.reg Try.func8 rfl ?_
        refine RW.pureS rfl rfl rfl rfl (OpP.assign rfl) ?_
        refine RW.done rfl ?_
        refine G.sub (ρ' := [(0, _), (1, _), (4, _), (5, _), (14, _), (25, _)]) ⟨rfl, rfl, rfl, rfl, rfl, rfl, trivial⟩ ?_
        refine G.ret Try.func8 rfl rfl ?_
        have : ¬ l = l' := by rintro rfl; rw [hx] at hx'; cases hx'; exact hne' rfl
        exact ⟨_, rfl, by simp [this]; rfl, rfl⟩
      · refine G.skip rfl ?_
        refine G.blkEnd ?_
        refine G.reg Try.func8 rfl ?_
        refine RW.pureS rfl rfl rfl rfl (OpP.move rfl) ?_
        refine RW.pureS rfl rfl rfl rfl (OpP.add64 rfl rfl ⟨by omega, by omega⟩) ?_
        refine RW.pureS rfl rfl rfl rfl (OpP.assign rfl) ?_
        refine RW.done rfl ?_
        refine G.sub (ρ' := [(0, _), (1, _), (5, _), (14, _), (25, _)]) ⟨rfl, rfl, rfl, rfl, rfl, trivial⟩ ?_
        have hxx : x = x' := Classical.not_not.1 hne'
        exact ih (k + 1) _ _ ⟨rfl, rfl, rfl, trivial⟩ ⟨rfl, by omega, by rw [List.take_add_one, List.take_add_one, heq, hx, hx', hxx]⟩ (by omega)
    · refine G.exit rfl rfl ?_
      refine G.seq rfl ?_
      refine G.reg Try.func8 rfl ?_
      refine RW.pureS rfl rfl rfl rfl (OpP.assign rfl) ?_
      refine RW.done rfl ?_
      refine G.sub (ρ' := [(0, _), (1, _), (4, _), (5, _), (14, _)]) ⟨rfl, rfl, rfl, rfl, rfl, trivial⟩ ?_
      refine G.ret Try.func8 rfl rfl ?_
      have hkn : k = n := by omega
      subst hkn
      rw [List.take_of_length_le (by omega), List.take_of_length_le (by omega)] at heq
      exact ⟨_, rfl, by simp [heq]; rfl, rfl⟩

def noText : ByteArray := ⟨#[]⟩
def nobody : Nat → Prop := fun _ => False

theorem one_str (l : List ByteArray) : ∀ u ∈ l.map Value.string, u.oneCell' = true := by
  intro u hu; obtain ⟨s, _, rfl⟩ := List.mem_map.1 hu; rfl

theorem made_read {h : Heap} {us : List ByteArray} {n : Nat} (hl : us.length = n) (hn : n ≤ maxLen) : SlR .str (h.push (.cells (us.map Value.string).toArray 9)) nobody (.slice (some ⟨h.size, 0, none⟩) n n) us :=
  (OwnH.made h (us.map .string) 9 n (by simpa using hl) hn h.size (Nat.le_refl _)).shut (fun _ _ k => k)

theorem texts_true {h : Heap} {O O' : Nat → Prop} {v v' : Value} {l l' : List ByteArray} (hv : SlR .str h O v l) (hv' : SlR .str h O' v' l') (e : l = l') :
    CallsH Try.prog 8 #[v, v'] h (Ret fun r h' => r = .bool true ∧ h' = h) :=
  (texts_calls hv hv').ret fun _ _ ⟨ho, he⟩ => ⟨ho.trans (by simp [e]), he⟩

theorem size_append (x y : ByteArray) : (x ++ y).size = x.size + y.size := ByteArray.size_append

theorem size_pos_of_ne {x : ByteArray} (h : x ≠ noText) : 0 < x.size := by
  rcases Nat.eq_zero_or_pos x.size with h0 | h0
  · exfalso
    apply h
    obtain ⟨d⟩ := x
    have : d.size = 0 := h0
    have hd : d = #[] := Array.eq_empty_of_size_eq_zero this
    subst hd; rfl
  · exact h0

theorem ne_of_size_pos {x : ByteArray} (h : 0 < x.size) : x ≠ noText := by
  rintro rfl; exact absurd h (by decide)

/-- A slice of texts in blocks from 'base' on, that may be written. -/
def FrR (h : Heap) (base : Nat) (v : Value) (xs : List ByteArray) : Prop := ∃ oa n c, v = .slice oa n c ∧ Wr Value.string (fun _ => rfl) h base oa n c xs

theorem FrR.read {h : Heap} {base : Nat} {v : Value} {xs : List ByteArray} (k : FrR h base v xs) : SlR .str h nobody v xs := by
  obtain ⟨oa, n, c, rfl, hw⟩ := k
  refine ⟨oa, n, c, rfl, hw.sl.len, hw.sl.le, hw.sl.cap, fun i x hx => ?_⟩
  obtain ⟨b, o, cs, h1, _, h3, h4⟩ := hw.sl.get i x hx
  exact ⟨b, o, cs, h1, fun k => k, h3, h4⟩

end Go.Proofs.Ytoddkkjkhfdehaa
