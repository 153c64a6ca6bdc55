/- limnerref20.Add answers what limner/history.Add does. -/
import Derived.Test.YtoddkkjkhfdehaaHist1
namespace Go.Proofs.Ytoddkkjkhfdehaa
open Go Go.Lw

theorem refAdd_calls {h : Heap} {v : Value} {l : List ByteArray} {s : ByteArray} (hv : SlR .str h nobody v l) (hl : l.length ≤ 1000000) :
    CallsH Try.prog 9 #[v, .string s] h (Ret fun r h' => SlR .str h' nobody r (addH l s) ∧ Ext0 h h') := by
  obtain ⟨oa, n, c, rfl, hsl⟩ := hv.open
  have hn := hsl.len
  have hrow := hsl.row
  have hle := hsl.le
  have hc := hsl.cap
  unfold maxLen at hc
  refine CallsH.of Try.func9 rfl rfl ?_
  refine G.seq rfl ?_
  refine G.reg Try.func9 rfl ?_
  refine RW.pureS rfl rfl rfl rfl (OpP.assign rfl) ?_
  refine RW.done rfl ?_
  refine G.sub (ρ' := [(0, _), (1, _), (4, _)]) ⟨rfl, rfl, rfl, trivial⟩ ?_
  refine G.seq rfl ?_
  refine G.reg Try.func9 rfl ?_
  refine RW.pureS rfl rfl rfl rfl (OpP.move rfl) ?_
  refine RW.opS rfl rfl rfl rfl (OpX.append Try.underlying22 H.el9 rfl rfl (OwnH.nil h h.size 9 1) (by simp [hn]) hrow (one_str l) (by simp only [maxLen]; omega) (by omega) (Nat.le_refl _)) ?_
  rintro v1 h1 ⟨ho1, he1, -, -⟩
  refine RW.pureS rfl rfl rfl rfl (OpP.assign rfl) ?_
  refine RW.done rfl ?_
  refine G.sub (ρ' := [(0, _), (1, _), (4, _), (5, _)]) ⟨rfl, rfl, rfl, rfl, trivial⟩ ?_
  refine G.seq rfl ?_
  refine G.seq rfl ?_
  have he1 := ext_but_none he1
  rw [Nat.zero_add, List.nil_append] at ho1
  obtain ⟨oa1, c1, rfl, hw1⟩ := ho1.open
  have hc1 := hw1.cap
  have hle1 := hw1.le
  unfold maxLen at hc1
  have hsl1 := hsl.mv (Mv.ext0 he1)
  refine G.regTo1 [(24, .bool (decide (s = noText ∨ l.getLast? = some s)))] [(0, _), (1, _), (4, _), (5, _)] ⟨rfl, rfl, rfl, rfl, trivial⟩ Try.func9 rfl ?_ ?_
  · refine RW.pureS rfl rfl rfl rfl (OpP.move rfl) ?_
    refine RW.pureS rfl rfl rfl rfl (OpP.eqlStr rfl rfl) ?_
    refine RW.pureS rfl rfl rfl rfl (OpP.move rfl) ?_
    refine RW.split (d := 10) rfl (fun hg => ?_) (fun hg => ?_)
    · refine RW.skipS rfl rfl rfl rfl ?_
      refine RW.skipS rfl rfl rfl rfl ?_
      refine RW.skipS rfl rfl rfl rfl ?_
      refine RW.skipS rfl rfl rfl rfl ?_
      refine RW.skipS rfl rfl rfl rfl ?_
      refine RW.skipS rfl rfl rfl rfl ?_
      refine RW.skipS rfl rfl rfl rfl ?_
      refine RW.skipS rfl rfl rfl rfl ?_
      refine RW.skipS rfl rfl rfl rfl ?_
      refine RW.skipS rfl rfl rfl rfl ?_
      refine RW.skipS rfl rfl rfl rfl ?_
      refine RW.skipS rfl rfl rfl rfl ?_
      refine RW.skipS rfl rfl rfl rfl ?_
      refine RW.pureS rfl rfl rfl rfl (OpP.pickT rfl rfl) ?_
      refine RW.done rfl ?_
      exact ⟨rfl, at_bool rfl (by simp at hg; simp [hg, noText]), rfl, rfl, rfl, rfl, trivial⟩
    · have hs : ¬ s = noText := by simpa [noText] using hg
      refine RW.pureS rfl rfl rfl rfl (OpP.move rfl) ?_
      refine RW.pureS rfl rfl rfl rfl (OpP.lenSlice Try.underlying22 rfl) ?_
      refine RW.pureS rfl rfl rfl rfl (OpP.gtr rfl rfl) ?_
      refine RW.pureS rfl rfl rfl rfl (OpP.move rfl) ?_
      refine RW.split (d := 14) rfl (fun hn0 => ?_) (fun hn0 => ?_)
      · have hn0 : 0 < n := by simpa using hn0
        obtain ⟨b, o, x, ha, _, hx, hcell⟩ := hsl1.at (i := n - 1) (by omega)
        have hlast : l.getLast? = some x := by rw [List.getLast?_eq_getElem?, hn, hx]
        refine RW.pureS rfl rfl rfl rfl (OpP.move rfl) ?_
        refine RW.pureS rfl rfl rfl rfl (OpP.move rfl) ?_
        refine RW.pureS rfl rfl rfl rfl (OpP.lenSlice Try.underlying22 rfl) ?_
        refine RW.pureS rfl rfl rfl rfl (OpP.sub64 rfl rfl ⟨by omega, by omega⟩) ?_
        refine RW.pureS rfl rfl rfl rfl (OpP.indexSlice Try.underlying22 H.sz9 rfl rfl (n - 1) (by omega) ha (by omega)) ?_
        refine RW.pureS rfl rfl rfl rfl (OpP.load H.ag9 rfl hcell) ?_
        refine RW.pureS rfl rfl rfl rfl (OpP.move rfl) ?_
        refine RW.pureS rfl rfl rfl rfl (OpP.eqlStr rfl rfl) ?_
        refine RW.pureS rfl rfl rfl rfl (OpP.pickT rfl rfl) ?_
        refine RW.pureS rfl rfl rfl rfl (OpP.pickF rfl rfl) ?_
        refine RW.done rfl ?_
        exact ⟨rfl, at_bool rfl (by simp [hs, hlast]), rfl, rfl, rfl, rfl, trivial⟩
      · have hl0 : l = [] := List.eq_nil_of_length_eq_zero (by simp at hn0; omega)
        refine RW.skipS rfl rfl rfl rfl ?_
        refine RW.skipS rfl rfl rfl rfl ?_
        refine RW.skipS rfl rfl rfl rfl ?_
        refine RW.skipS rfl rfl rfl rfl ?_
        refine RW.skipS rfl rfl rfl rfl ?_
        refine RW.skipS rfl rfl rfl rfl ?_
        refine RW.skipS rfl rfl rfl rfl ?_
        refine RW.skipS rfl rfl rfl rfl ?_
        refine RW.pureS rfl rfl rfl rfl (OpP.pickF rfl rfl) ?_
        refine RW.pureS rfl rfl rfl rfl (OpP.pickF rfl rfl) ?_
        refine RW.done rfl ?_
        exact ⟨rfl, at_bool rfl (by simp [hs, hl0]), rfl, rfl, rfl, rfl, trivial⟩
  · refine G.ite rfl rfl (fun hsame => ?_) (fun hsame => ?_)
    · refine G.seq rfl ?_
      refine G.reg Try.func9 rfl ?_
      refine RW.pureS rfl rfl rfl rfl (OpP.move rfl) ?_
      refine RW.pureS rfl rfl rfl rfl (OpP.assign rfl) ?_
      refine RW.done rfl ?_
      refine G.sub (ρ' := [(0, _), (1, _), (4, _), (5, _), (24, _)]) ⟨rfl, rfl, rfl, rfl, rfl, trivial⟩ ?_
      refine G.ret Try.func9 rfl rfl ?_
      have : addH l s = l := if_pos hsame
      rw [this]
      exact ⟨_, rfl, hw1.own.shut (fun _ _ k => k), he1⟩
    · have hadd : addH l s = (l ++ [s]).drop (l.length + 1 - 100) := if_neg hsame
      have hp := Ext.push (fun _ => False) h1 (.cells [Value.string s].toArray 9)
      have ho2 := hw1.own.ext hp (fun _ _ k => k)
      refine G.skip rfl ?_
      refine G.seq rfl ?_
      refine G.reg Try.func9 rfl ?_
      refine RW.pureS rfl rfl rfl rfl (OpP.move rfl) ?_
      refine RW.pureS rfl rfl rfl rfl (OpP.move rfl) ?_
      refine RW.opS rfl rfl rfl rfl (OpX.buildOnes (us := [_]) Try.underlying22 H.el9 rfl rfl (by decide) (by simp [Value.oneCell'])) ?_
      rintro _ _ ⟨rfl, rfl⟩
      refine RW.opS rfl rfl rfl rfl (OpX.append Try.underlying22 H.el9 rfl rfl ho2 rfl (.inr ⟨_, _, rfl, row_made _ _ _⟩) (by simp [Value.oneCell']) (by simp only [maxLen]; omega) (by omega) (by have := he1.size; simp; omega)) ?_
      rintro v2 h2 ⟨ho3, he3, -, -⟩
      have he := Ext.own (he1.push _) ho2 (Nat.le_refl _) he3
      have ho3 : OwnH h2 h.size 9 1 v2 (n + 1) ((l ++ [s]).map Value.string) := by simpa using ho3
      have hr2 : SlR .str h2 nobody v2 (l ++ [s]) := ho3.shut (fun _ _ k => k)
      refine RW.pureS rfl rfl rfl rfl (OpP.assign rfl) ?_
      refine RW.done rfl ?_
      refine G.sub (ρ' := [(0, _), (1, _), (4, _), (5, _), (24, _)]) ⟨rfl, rfl, rfl, rfl, rfl, trivial⟩ ?_
      refine G.seq rfl ?_
      refine G.block rfl rfl ?_
      refine G.loop (σ := Nat × Value) (fun s' => [(5, s'.2)]) (fun s' h' => h' = h2 ∧ s'.1 ≤ n + 1 - 100 ∧ SlR .str h2 nobody s'.2 ((l ++ [s]).drop s'.1)) (fun s' => n + 1 - s'.1) ((0, v2)) rfl ⟨rfl, trivial⟩ ⟨rfl, Nat.zero_le _, hr2⟩ ?_
      rintro ⟨k, vk⟩ h3 ⟨rfl, hk, hvk⟩ ih
      dsimp only at hk hvk
      obtain ⟨ok, nk, ck, rfl, hsk⟩ := hvk.open
      have hnk := hsk.len
      have hck := hsk.cap
      have hlek := hsk.le
      unfold maxLen at hck
      simp at hnk
      refine G.seq rfl ?_
      refine G.seq rfl ?_
      refine G.reg Try.func9 rfl ?_
      refine RW.pureS rfl rfl rfl rfl (OpP.move rfl) ?_
      refine RW.pureS rfl rfl rfl rfl (OpP.lenSlice Try.underlying22 rfl) ?_
      refine RW.pureS rfl rfl rfl rfl (OpP.gtr rfl rfl) ?_
      refine RW.done rfl ?_
      refine G.sub (ρ' := [(5, _), (32, _)]) ⟨rfl, rfl, trivial⟩ ?_
      refine G.ite rfl rfl (fun hbig => ?_) (fun hbig => ?_)
      · refine G.skip rfl ?_
        refine G.block rfl rfl ?_
        refine G.reg Try.func9 rfl ?_
        refine RW.pureS rfl rfl rfl rfl (OpP.move rfl) ?_
        refine RW.pureS rfl rfl rfl rfl (OpP.sliceSliceLo Try.underlying22 H.sz9 rfl rfl 1 rfl (by omega)) ?_
        refine RW.pureS rfl rfl rfl rfl (OpP.assign rfl) ?_
        refine RW.done rfl ?_
        refine G.sub (ρ' := [(5, _), (32, _)]) ⟨rfl, rfl, trivial⟩ ?_
        refine G.blkEnd ?_
        have hpart := (hsk.part (i := 1) (j := nk) (by omega) (Nat.le_refl _)).shut
        rw [List.take_of_length_le (by simp; omega), List.drop_drop] at hpart
        exact ih (k + 1, _) _ _ ⟨rfl, trivial⟩ ⟨rfl, by show k + 1 ≤ n + 1 - 100; omega, hpart⟩ (by show n + 1 - (k + 1) < n + 1 - k; omega)
      · refine G.exit rfl rfl ?_
        refine G.seq rfl ?_
        refine G.reg Try.func9 rfl ?_
        refine RW.pureS rfl rfl rfl rfl (OpP.move rfl) ?_
        refine RW.pureS rfl rfl rfl rfl (OpP.assign rfl) ?_
        refine RW.done rfl ?_
        refine G.sub (ρ' := [(4, _), (5, _), (32, _)]) ⟨rfl, rfl, rfl, trivial⟩ ?_
        refine G.ret Try.func9 rfl rfl ?_
        have hkk : k = l.length + 1 - 100 := by omega
        rw [hadd, ← hkk]
        exact ⟨_, rfl, hvk, he⟩

end Go.Proofs.Ytoddkkjkhfdehaa
