/- limnerlaw19.Great and Texts: what they answer. -/
import Derived.Test.YtdiaedohhnbonaaHead
namespace Go.Proofs.Ytdiaedohhnbonaa
open Go Go.Lw

def great (l : List ByteArray) (most : Int) : Bool := l.any (fun s => decide (500 < s.size)) || decide (most < l.length)

theorem great_calls {h : Heap} {O : Nat → Prop} {v : Value} {l : List ByteArray} (most : Int) (hv : SlR .str h O v l) :
    CallsH Try.prog 4 #[v, .int .i64 most] h (Ret fun r h' => r = .bool (great l most) ∧ h' = h) := by
  obtain ⟨oa, n, c, rfl, hs⟩ := hv.open
  have hn := hs.len
  have hc := hs.cap
  have hle := hs.le
  unfold maxLen at hc
  refine CallsH.of Try.func4 rfl rfl ?_
  refine G.seq rfl ?_
  refine G.reg Try.func4 rfl ?_
  refine RW.pureS rfl rfl rfl rfl (OpP.assign rfl) ?_
  refine RW.done rfl ?_
  refine G.sub (ρ' := [(0, _), (1, _), (4, _)]) ⟨rfl, rfl, rfl, trivial⟩ ?_
  refine G.seq rfl ?_
  refine G.seq rfl ?_
  refine G.reg Try.func4 rfl ?_
  refine RW.pureS rfl rfl rfl rfl (OpP.assign rfl) ?_
  refine RW.done rfl ?_
  refine G.sub (ρ' := [(0, _), (1, _), (4, _), (5, _)]) ⟨rfl, rfl, rfl, rfl, trivial⟩ ?_
  refine G.block rfl rfl ?_
  refine G.loop (σ := Nat) (fun k => [(0, .slice oa n c), (1, .int .i64 most), (5, .int .i64 k)]) (fun k h' => h' = h ∧ k ≤ n ∧ (l.take k).any (fun s => decide (500 < s.size)) = false) (fun k => n - k) (0) rfl ⟨rfl, rfl, rfl, trivial⟩ ⟨rfl, Nat.zero_le _, rfl⟩ ?_
  rintro k _ ⟨rfl, hk, hany⟩ ih
  refine G.seq rfl ?_
  refine G.seq rfl ?_
  refine G.reg Try.func4 rfl ?_
  refine RW.pureS rfl rfl rfl rfl (OpP.move rfl) ?_
  refine RW.pureS rfl rfl rfl rfl (OpP.move rfl) ?_
  refine RW.pureS rfl rfl rfl rfl (OpP.lenSlice Try.underlying22 rfl) ?_
  refine RW.pureS rfl rfl rfl rfl (OpP.lss rfl rfl) ?_
  refine RW.done rfl ?_
  refine G.sub (ρ' := [(0, _), (1, _), (5, _), (9, _)]) ⟨rfl, rfl, rfl, rfl, trivial⟩ ?_
  refine G.ite rfl rfl (fun hlt => ?_) (fun hlt => ?_)
  · refine G.skip rfl ?_
    refine G.seq rfl ?_
    refine G.block rfl rfl ?_
    refine G.seq rfl ?_
    refine G.reg Try.func4 rfl ?_
    refine RW.pureS rfl rfl rfl rfl (OpP.move rfl) ?_
    refine RW.pureS rfl rfl rfl rfl (OpP.move rfl) ?_
    have hlt' : k < n := by omega
    obtain ⟨b, o, x, ha, ho, hx, hcell⟩ := hs.at hlt'
    have htake : l.take (k + 1) = l.take k ++ [x] := by rw [List.take_add_one, hx]; rfl
    refine RW.pureS rfl rfl rfl rfl (OpP.indexSlice Try.underlying22 H.sz9 rfl rfl k rfl ha hlt') ?_
    refine RW.pureS rfl rfl rfl rfl (OpP.load H.ag9 rfl hcell) ?_
    refine RW.pureS rfl rfl rfl rfl (OpP.lenString Try.underlying9 rfl) ?_
    refine RW.pureS rfl rfl rfl rfl (OpP.gtr rfl rfl) ?_
    refine RW.done rfl ?_
    refine G.sub (ρ' := [(0, _), (1, _), (5, _), (9, _), (17, _)]) ⟨rfl, rfl, rfl, rfl, rfl, trivial⟩ ?_
    refine G.ite rfl rfl (fun hbig => ?_) (fun hbig => ?_)
    · refine G.seq rfl ?_
      refine G.reg Try.func4 rfl ?_
      refine RW.pureS rfl rfl rfl rfl (OpP.assign rfl) ?_
      refine RW.done rfl ?_
      refine G.sub (ρ' := [(0, _), (1, _), (4, _), (5, _), (9, _), (17, _)]) ⟨rfl, rfl, rfl, rfl, rfl, rfl, trivial⟩ ?_
      refine G.ret Try.func4 rfl rfl ?_
      refine ⟨_, rfl, ?_, rfl⟩
      have : great l most = true := by
        unfold great
        rw [Bool.or_eq_true]
        refine Or.inl (List.any_eq_true.2 ⟨x, List.mem_of_getElem? hx, ?_⟩)
        simp; omega
      rw [this]; rfl
    · refine G.skip rfl ?_
      refine G.blkEnd ?_
      refine G.reg Try.func4 rfl ?_
      refine RW.pureS rfl rfl rfl rfl (OpP.move rfl) ?_
      refine RW.pureS rfl rfl rfl rfl (OpP.add64 rfl rfl ⟨by omega, by omega⟩) ?_
      refine RW.pureS rfl rfl rfl rfl (OpP.assign rfl) ?_
      refine RW.done rfl ?_
      refine G.sub (ρ' := [(0, _), (1, _), (5, _), (9, _), (17, _)]) ⟨rfl, rfl, rfl, rfl, rfl, trivial⟩ ?_
      exact ih (k + 1) _ _ ⟨rfl, rfl, rfl, trivial⟩ ⟨rfl, by omega, by rw [htake, List.any_append, hany]; simp; omega⟩ (by omega)
  · refine G.exit rfl rfl ?_
    refine G.seq rfl ?_
    refine G.reg Try.func4 rfl ?_
    refine RW.pureS rfl rfl rfl rfl (OpP.move rfl) ?_
    refine RW.pureS rfl rfl rfl rfl (OpP.lenSlice Try.underlying22 rfl) ?_
    refine RW.pureS rfl rfl rfl rfl (OpP.move rfl) ?_
    refine RW.pureS rfl rfl rfl rfl (OpP.gtr rfl rfl) ?_
    refine RW.pureS rfl rfl rfl rfl (OpP.assign rfl) ?_
    refine RW.done rfl ?_
    refine G.sub (ρ' := [(0, _), (1, _), (4, _), (5, _), (9, _)]) ⟨rfl, rfl, rfl, rfl, rfl, trivial⟩ ?_
    refine G.ret Try.func4 rfl rfl ?_
    have hkn : k = n := by omega
    subst hkn
    rw [List.take_of_length_le (by omega)] at hany
    exact ⟨_, rfl, by unfold great; rw [hany, hn]; rfl, rfl⟩

theorem texts_calls {h : Heap} {O O' : Nat → Prop} {v v' : Value} {l l' : List ByteArray} (hv : SlR .str h O v l) (hv' : SlR .str h O' v' l') :
    CallsH Try.prog 8 #[v, v'] h (Ret fun r h' => r = .bool (decide (l = l')) ∧ h' = h) := by
  obtain ⟨oa, n, c, rfl, hs⟩ := hv.open
  obtain ⟨oa', n', c', rfl, hs'⟩ := hv'.open
  have hn := hs.len
  have hn' := hs'.len
  have hc := hs.cap
  have hle := hs.le
  unfold maxLen at hc
  refine CallsH.of Try.func8 rfl rfl ?_
  refine G.seq rfl ?_
  refine G.reg Try.func8 rfl ?_
  refine RW.pureS rfl rfl rfl rfl (OpP.assign rfl) ?_
  refine RW.done rfl ?_
  refine G.sub (ρ' := [(0, _), (1, _), (4, _)]) ⟨rfl, rfl, rfl, trivial⟩ ?_
  refine G.seq rfl ?_
  refine G.seq rfl ?_
  refine G.reg Try.func8 rfl ?_
  refine RW.pureS rfl rfl rfl rfl (OpP.move rfl) ?_
  refine RW.pureS rfl rfl rfl rfl (OpP.lenSlice Try.underlying22 rfl) ?_
  refine RW.pureS rfl rfl rfl rfl (OpP.move rfl) ?_
  refine RW.pureS rfl rfl rfl rfl (OpP.lenSlice Try.underlying22 rfl) ?_
  refine RW.pureS rfl rfl rfl rfl (OpP.neqInt rfl rfl) ?_
  refine RW.done rfl ?_
  refine G.sub (ρ' := [(0, _), (1, _), (4, _), (10, _)]) ⟨rfl, rfl, rfl, rfl, trivial⟩ ?_
  refine G.ite rfl rfl (fun hne => ?_) (fun hne => ?_)
  · refine G.seq rfl ?_
    refine G.reg Try.func8 rfl ?_
    refine RW.pureS rfl rfl rfl rfl (OpP.assign rfl) ?_
    refine RW.done rfl ?_
    refine G.sub (ρ' := [(0, _), (1, _), (4, _), (10, _)]) ⟨rfl, rfl, rfl, rfl, trivial⟩ ?_
    refine G.ret Try.func8 rfl rfl ?_
    have : ¬ l = l' := by rintro rfl; omega
    exact ⟨_, rfl, by simp [this]; rfl, rfl⟩
  · have hnn : n = n' := by omega
    subst hnn
    refine G.skip rfl ?_
    refine G.seq rfl ?_
    refine G.seq rfl ?_
    refine G.reg Try.func8 rfl ?_
    refine RW.pureS rfl rfl rfl rfl (OpP.assign rfl) ?_
    refine RW.done rfl ?_
    refine G.sub (ρ' := [(0, _), (1, _), (4, _), (5, _), (10, _)]) ⟨rfl, rfl, rfl, rfl, rfl, trivial⟩ ?_
    refine G.block rfl rfl ?_
    refine G.loop (σ := Nat) (fun k => [(0, .slice oa n c), (1, .slice oa' n c'), (5, .int .i64 k)]) (fun k h' => h' = h ∧ k ≤ n ∧ l.take k = l'.take k) (fun k => n - k) (0) rfl ⟨rfl, rfl, rfl, trivial⟩ ⟨rfl, Nat.zero_le _, rfl⟩ ?_
    rintro k h1 ⟨rfl, hk, heq⟩ ih
    refine G.seq rfl ?_
    refine G.seq rfl ?_
    refine G.reg Try.func8 rfl ?_
    refine RW.pureS rfl rfl rfl rfl (OpP.move rfl) ?_
    refine RW.pureS rfl rfl rfl rfl (OpP.move rfl) ?_
    refine RW.pureS rfl rfl rfl rfl (OpP.lenSlice Try.underlying22 rfl) ?_
    refine RW.pureS rfl rfl rfl rfl (OpP.lss rfl rfl) ?_
    refine RW.done rfl ?_
    refine G.sub (ρ' := [(0, _), (1, _), (5, _), (14, _)]) ⟨rfl, rfl, rfl, rfl, trivial⟩ ?_
    refine G.ite rfl rfl (fun hlt => ?_) (fun hlt => ?_)
    · have hlt' : k < n := by omega
      obtain ⟨b, o, x, ha, ho, hx, hcell⟩ := hs.at hlt'
      obtain ⟨b', o', x', ha', ho', hx', hcell'⟩ := hs'.at hlt'
      refine G.skip rfl ?_
      refine G.seq rfl ?_
      refine G.block rfl rfl ?_
      refine G.seq rfl ?_
      refine G.drawQ Try.func8 H.mixed rfl (by kernel_rfl) ?_
      refine RQ.pureS rfl rfl rfl rfl (OpP.move rfl) ?_
      refine RQ.pureS rfl rfl rfl rfl (OpP.move rfl) ?_
      refine RQ.pureS rfl rfl rfl rfl (OpP.indexSlice Try.underlying22 H.sz9 rfl rfl k rfl ha hlt') ?_
      refine RQ.pureS rfl rfl rfl rfl (OpP.load H.ag9 rfl hcell) ?_
      refine RQ.pureS rfl rfl rfl rfl (OpP.move rfl) ?_
      refine RQ.pureS rfl rfl rfl rfl (OpP.move rfl) ?_
      refine RQ.pureS rfl rfl rfl rfl (OpP.indexSlice Try.underlying22 H.sz9 rfl rfl k rfl ha' hlt') ?_
      refine RQ.pureS rfl rfl rfl rfl (OpP.load H.ag9 rfl hcell') ?_
      refine RQ.pureS rfl rfl rfl rfl (OpP.neqStr rfl rfl) ?_
      refine RQ.done rfl ?_
      refine G.sub (ρ' := [(0, _), (1, _), (5, _), (14, _), (25, _)]) ⟨rfl, rfl, rfl, rfl, rfl, trivial⟩ ?_
      refine G.ite rfl rfl (fun hne' => ?_) (fun hne' => ?_)
      · refine G.seq rfl ?_
        refine G.reg Try.func8 rfl ?_
        refine RW.pureS rfl rfl rfl rfl (OpP.assign rfl) ?_
        refine RW.done rfl ?_
        refine G.sub (ρ' := [(0, _), (1, _), (4, _), (5, _), (14, _), (25, _)]) ⟨rfl, rfl, rfl, rfl, rfl, rfl, trivial⟩ ?_
        refine G.ret Try.func8 rfl rfl ?_
        have : ¬ l = l' := by rintro rfl; rw [hx] at hx'; cases hx'; exact hne' rfl
        exact ⟨_, rfl, by simp [this]; rfl, rfl⟩
      · refine G.skip rfl ?_
        refine G.blkEnd ?_
        refine G.reg Try.func8 rfl ?_
        refine RW.pureS rfl rfl rfl rfl (OpP.move rfl) ?_
        refine RW.pureS rfl rfl rfl rfl (OpP.add64 rfl rfl ⟨by omega, by omega⟩) ?_
        refine RW.pureS rfl rfl rfl rfl (OpP.assign rfl) ?_
        refine RW.done rfl ?_
        refine G.sub (ρ' := [(0, _), (1, _), (5, _), (14, _), (25, _)]) ⟨rfl, rfl, rfl, rfl, rfl, trivial⟩ ?_
        have hxx : x = x' := Classical.not_not.1 hne'
        exact ih (k + 1) _ _ ⟨rfl, rfl, rfl, trivial⟩ ⟨rfl, by omega, by rw [List.take_add_one, List.take_add_one, heq, hx, hx', hxx]⟩ (by omega)
    · refine G.exit rfl rfl ?_
      refine G.seq rfl ?_
      refine G.reg Try.func8 rfl ?_
      refine RW.pureS rfl rfl rfl rfl (OpP.assign rfl) ?_
      refine RW.done rfl ?_
      refine G.sub (ρ' := [(0, _), (1, _), (4, _), (5, _), (14, _)]) ⟨rfl, rfl, rfl, rfl, rfl, trivial⟩ ?_
      refine G.ret Try.func8 rfl rfl ?_
      have hkn : k = n := by omega
      subst hkn
      rw [List.take_of_length_le (by omega), List.take_of_length_le (by omega)] at heq
      exact ⟨_, rfl, by simp [heq]; rfl, rfl⟩

end Go.Proofs.Ytdiaedohhnbonaa
