/- limnerref20.Find answers what limner/history.Find does. -/
import Derived.Test.YtoddkkjkhfdehaaHist3
namespace Go.Proofs.Ytoddkkjkhfdehaa
open Go Go.Lw

theorem occ_extract (s t : ByteArray) (k : Nat) : Lib.occAt s.data.toList t.data.toList k = decide (s.extract k (k + t.size) = t) := by
  rw [Bool.eq_iff_iff]
  simp only [Lib.occAt, List.isPrefixOf_iff_prefix, decide_eq_true_eq]
  have hx := Lib.extract_data s k (k + t.size)
  rw [Nat.add_sub_cancel_left] at hx
  constructor
  · intro hp
    have h1 := List.prefix_iff_eq_take.1 hp
    have h2 : (s.extract k (k + t.size)).data.toList = t.data.toList := by
      rw [hx]
      have hlen : t.data.toList.length = t.size := by simp
      rw [hlen] at h1
      exact h1.symm
    have h3 := Array.ext' h2
    cases he : s.extract k (k + t.size)
    rw [he] at h3
    cases t
    simp at h3 ⊢
    exact h3
  · intro he
    rw [he] at hx
    rw [hx]
    exact List.take_prefix _ _

theorem refFind_calls {h : Heap} {O : Nat → Prop} {v : Value} {l : List ByteArray} {t : ByteArray} (upto : Int) (hu : -9223372036854775808 ≤ upto ∧ upto ≤ 9223372036854775807) (hv : SlR .str h O v l) (hl : l.length ≤ 1000000) (hls : ∀ x ∈ l, x.size ≤ 1000000) (ht : t.size ≤ 1000000) :
    CallsH Try.prog 11 #[v, .string t, .int .i64 upto] h (Ret fun r h' => r = foundV (findH l t upto) ∧ h' = h) := by
  obtain ⟨oa, n, c, rfl, hsl⟩ := hv.open
  have hn := hsl.len
  have hf : findH l t upto = if t = noText then none else findDown l t (upToN n upto) := by unfold findH; rw [hn]
  have hK : upToN n upto ≤ n := by unfold upToN; split <;> omega
  refine CallsH.of Try.func11 rfl rfl ?_
  refine G.seq rfl ?_
  refine G.reg Try.func11 rfl ?_
  refine RW.pureS rfl rfl rfl rfl (OpP.assign rfl) ?_
  refine RW.pureS rfl rfl rfl rfl (OpP.assign rfl) ?_
  refine RW.pureS rfl rfl rfl rfl (OpP.assign rfl) ?_
  refine RW.done rfl ?_
  refine G.sub (ρ' := [(0, _), (1, _), (2, _), (6, _), (7, _), (8, _)]) ⟨rfl, rfl, rfl, rfl, rfl, rfl, trivial⟩ ?_
  refine G.seq rfl ?_
  refine G.seq rfl ?_
  refine G.reg Try.func11 rfl ?_
  refine RW.pureS rfl rfl rfl rfl (OpP.move rfl) ?_
  refine RW.pureS rfl rfl rfl rfl (OpP.lenSlice Try.underlying22 rfl) ?_
  refine RW.pureS rfl rfl rfl rfl (OpP.sub64 rfl rfl ⟨by omega, by omega⟩) ?_
  refine RW.pureS rfl rfl rfl rfl (OpP.assign rfl) ?_
  refine RW.done rfl ?_
  refine G.sub (ρ' := [(0, _), (1, _), (2, _), (6, _), (7, _), (8, _), (9, _)]) ⟨rfl, rfl, rfl, rfl, rfl, rfl, rfl, trivial⟩ ?_
  refine G.block rfl rfl ?_
  refine G.loop (σ := Int) (fun i => [(0, .slice oa n c), (1, .string t), (2, .int .i64 upto), (9, .int .i64 i)]) (fun i h' => h' = h ∧ i ≤ (n : Int) - 1 ∧ -1 ≤ i ∧ (if t = noText then none else findDown l t (min (i + 1).toNat (upToN n upto))) = findH l t upto) (fun i => (i + 1).toNat) ((n : Int) - 1) rfl ⟨rfl, rfl, rfl, rfl, trivial⟩ ⟨rfl, by omega, by omega, by rw [hf, Nat.min_eq_right (by omega)]⟩ ?_
  rintro i h1 ⟨rfl, hi, hi1, hfd⟩ ih
  refine G.seq rfl ?_
  refine G.seq rfl ?_
  refine G.reg Try.func11 rfl ?_
  refine RW.pureS rfl rfl rfl rfl (OpP.move rfl) ?_
  refine RW.pureS rfl rfl rfl rfl (OpP.geq rfl rfl) ?_
  refine RW.done rfl ?_
  refine G.sub (ρ' := [(0, _), (1, _), (2, _), (9, _), (15, _)]) ⟨rfl, rfl, rfl, rfl, rfl, trivial⟩ ?_
  refine G.ite rfl rfl (fun h0 => ?_) (fun h0 => ?_)
  · obtain ⟨k, rfl⟩ := Int.eq_ofNat_of_zero_le h0
    have hkn : k < n := by omega
    rw [show ((k : Int) + 1).toNat = k + 1 from by omega] at hfd
    refine G.skip rfl ?_
    refine G.seq rfl ?_
    refine G.block rfl rfl ?_
    refine G.seq rfl ?_
    refine G.seq rfl ?_
    refine G.reg Try.func11 rfl ?_
    refine RW.pureS rfl rfl rfl rfl (OpP.move rfl) ?_
    refine RW.pureS rfl rfl rfl rfl (OpP.move rfl) ?_
    refine RW.pureS rfl rfl rfl rfl (OpP.gtr rfl rfl) ?_
    refine RW.done rfl ?_
    refine G.sub (ρ' := [(0, _), (1, _), (2, _), (9, _), (15, _), (20, _)]) ⟨rfl, rfl, rfl, rfl, rfl, rfl, trivial⟩ ?_
    refine G.ite rfl rfl (fun hup => ?_) (fun hup => ?_)
    · have hkk : min (k + 1) (upToN n upto) = min k (upToN n upto) := by unfold upToN; split <;> omega
      refine G.exit rfl rfl ?_
      refine G.reg Try.func11 rfl ?_
      refine RW.pureS rfl rfl rfl rfl (OpP.move rfl) ?_
      refine RW.pureS rfl rfl rfl rfl (OpP.sub64 rfl rfl ⟨by omega, by omega⟩) ?_
      refine RW.pureS rfl rfl rfl rfl (OpP.assign rfl) ?_
      refine RW.done rfl ?_
      refine G.sub (ρ' := [(0, _), (1, _), (2, _), (9, _), (15, _), (20, _)]) ⟨rfl, rfl, rfl, rfl, rfl, rfl, trivial⟩ ?_
      exact ih ((k : Int) - 1) _ _ ⟨rfl, rfl, rfl, rfl, trivial⟩ ⟨rfl, by omega, by omega, by rw [← hfd, hkk, show ((k : Int) - 1 + 1).toNat = k from by omega]⟩ (by show ((k : Int) - 1 + 1).toNat < ((k : Int) + 1).toNat; omega)
    · have hkk : min (k + 1) (upToN n upto) = k + 1 := by unfold upToN; split <;> omega
      have hkk' : min k (upToN n upto) = k := by unfold upToN; split <;> omega
      obtain ⟨b, o, x, ha, _, hx, hcell⟩ := hsl.at hkn
      have hxs := hls x (List.mem_of_getElem? hx)
      have hg : l.getD k noText = x := by simp [List.getD, hx]
      rw [hkk] at hfd
      have hstep : findDown l t (k + 1) = if 0 ≤ lastAt x t then some ((k : Int), lastAt x t) else findDown l t k := by rw [findDown, hg]
      rw [hstep] at hfd
      refine G.skip rfl ?_
      refine G.seq rfl ?_
      refine G.reg Try.func11 rfl ?_
      refine RW.pureS rfl rfl rfl rfl (OpP.move rfl) ?_
      refine RW.pureS rfl rfl rfl rfl (OpP.move rfl) ?_
      refine RW.pureS rfl rfl rfl rfl (OpP.indexSlice Try.underlying22 H.sz9 rfl rfl k rfl ha hkn) ?_
      refine RW.pureS rfl rfl rfl rfl (OpP.load H.ag9 rfl hcell) ?_
      refine RW.pureS rfl rfl rfl rfl (OpP.lenString Try.underlying9 rfl) ?_
      refine RW.pureS rfl rfl rfl rfl (OpP.move rfl) ?_
      refine RW.pureS rfl rfl rfl rfl (OpP.lenString Try.underlying9 rfl) ?_
      refine RW.pureS rfl rfl rfl rfl (OpP.sub64 rfl rfl ⟨by omega, by omega⟩) ?_
      refine RW.pureS rfl rfl rfl rfl (OpP.assign rfl) ?_
      refine RW.done rfl ?_
      refine G.sub (ρ' := [(0, _), (1, _), (2, _), (9, _), (10, _), (15, _), (20, _)]) ⟨rfl, rfl, rfl, rfl, rfl, rfl, rfl, trivial⟩ ?_
      refine G.block rfl rfl ?_
      refine G.loop (σ := Int) (fun at' => [(0, .slice oa n c), (1, .string t), (2, .int .i64 upto), (9, .int .i64 k), (10, .int .i64 at')]) (fun at' h' => h' = h1 ∧ at' ≤ (x.size : Int) - t.size ∧ -9223372036854775808 ≤ at' ∧ (t.size ≤ x.size → -1 ≤ at') ∧ (t.size ≤ x.size → lastAt x t = Lib.lastOcc x.data.toList t.data.toList (at' + 1).toNat)) (fun at' => (at' + 1).toNat) ((x.size : Int) - t.size) rfl ⟨rfl, rfl, rfl, rfl, rfl, trivial⟩ ⟨rfl, by omega, by omega, by omega, fun hle => by unfold lastAt Lib.lastIndex; rw [if_pos (by simpa using hle)]; congr 1; simp; omega⟩ ?_
      rintro j h2 ⟨rfl, hj, hj0, hj1, hjl⟩ ih2
      refine G.seq rfl ?_
      refine G.seq rfl ?_
      refine G.regTo1 [(34, .bool (decide (0 ≤ j ∧ t ≠ noText)))] [(0, _), (1, _), (2, _), (9, _), (10, _)] ⟨rfl, rfl, rfl, rfl, rfl, trivial⟩ Try.func11 rfl ?_ ?_
      · refine RW.pureS rfl rfl rfl rfl (OpP.move rfl) ?_
        refine RW.pureS rfl rfl rfl rfl (OpP.geq rfl rfl) ?_
        refine RW.pureS rfl rfl rfl rfl (OpP.move rfl) ?_
        refine RW.split (d := 31) rfl (fun hg1 => ?_) (fun hg1 => ?_)
        · refine RW.pureS rfl rfl rfl rfl (OpP.move rfl) ?_
          refine RW.pureS rfl rfl rfl rfl (OpP.neqStr rfl rfl) ?_
          refine RW.pureS rfl rfl rfl rfl (OpP.pickT rfl rfl) ?_
          refine RW.done rfl ?_
          exact ⟨rfl, at_bool rfl (by simp at hg1; simp [hg1, noText]), rfl, rfl, rfl, rfl, rfl, trivial⟩
        · refine RW.skipS rfl rfl rfl rfl ?_
          refine RW.skipS rfl rfl rfl rfl ?_
          refine RW.pureS rfl rfl rfl rfl (OpP.pickF rfl rfl) ?_
          refine RW.done rfl ?_
          exact ⟨rfl, at_bool rfl (by simp at hg1; simp; omega), rfl, rfl, rfl, rfl, rfl, trivial⟩
      · refine G.ite rfl rfl (fun hc => ?_) (fun hc => ?_)
        · obtain ⟨hj2, htn⟩ := hc
          obtain ⟨m, rfl⟩ := Int.eq_ofNat_of_zero_le hj2
          have hle : t.size ≤ x.size := by omega
          have hjl' := hjl hle
          rw [show ((m : Int) + 1).toNat = m + 1 from by omega] at hjl'
          rw [if_neg htn] at hfd
          refine G.skip rfl ?_
          refine G.seq rfl ?_
          refine G.block rfl rfl ?_
          refine G.seq rfl ?_
          refine G.reg Try.func11 rfl ?_
          refine RW.pureS rfl rfl rfl rfl (OpP.move rfl) ?_
          refine RW.pureS rfl rfl rfl rfl (OpP.move rfl) ?_
          refine RW.pureS rfl rfl rfl rfl (OpP.indexSlice Try.underlying22 H.sz9 rfl rfl k rfl ha hkn) ?_
          refine RW.pureS rfl rfl rfl rfl (OpP.load H.ag9 rfl hcell) ?_
          refine RW.pureS rfl rfl rfl rfl (OpP.move rfl) ?_
          refine RW.pureS rfl rfl rfl rfl (OpP.move rfl) ?_
          refine RW.pureS rfl rfl rfl rfl (OpP.move rfl) ?_
          refine RW.pureS rfl rfl rfl rfl (OpP.lenString Try.underlying9 rfl) ?_
          refine RW.pureS rfl rfl rfl rfl (OpP.add64 rfl rfl ⟨by omega, by omega⟩) ?_
          refine RW.pureS rfl rfl rfl rfl (OpP.sliceStr Try.underlying9 rfl rfl m rfl rfl (m + t.size) (by omega) (by omega) (by omega)) ?_
          refine RW.pureS rfl rfl rfl rfl (OpP.move rfl) ?_
          refine RW.pureS rfl rfl rfl rfl (OpP.eqlStr rfl rfl) ?_
          refine RW.done rfl ?_
          refine G.sub (ρ' := [(0, _), (1, _), (2, _), (9, _), (10, _), (34, _), (48, _)]) ⟨rfl, rfl, rfl, rfl, rfl, rfl, rfl, trivial⟩ ?_
          refine G.ite rfl rfl (fun heq => ?_) (fun heq => ?_)
          · rw [Lib.lastOcc_hit _ _ _ (by rw [occ_extract]; simpa using heq)] at hjl'
            rw [if_pos (by omega), hjl'] at hfd
            refine G.seq rfl ?_
            refine G.reg Try.func11 rfl ?_
            refine RW.pureS rfl rfl rfl rfl (OpP.move rfl) ?_
            refine RW.pureS rfl rfl rfl rfl (OpP.move rfl) ?_
            refine RW.pureS rfl rfl rfl rfl (OpP.assign rfl) ?_
            refine RW.pureS rfl rfl rfl rfl (OpP.assign rfl) ?_
            refine RW.pureS rfl rfl rfl rfl (OpP.assign rfl) ?_
            refine RW.done rfl ?_
            refine G.sub (ρ' := [(0, _), (1, _), (2, _), (6, _), (7, _), (8, _), (9, _), (10, _), (34, _), (48, _)]) ⟨rfl, rfl, rfl, rfl, rfl, rfl, rfl, rfl, rfl, rfl, trivial⟩ ?_
            refine G.ret Try.func11 rfl rfl ?_
            exact ⟨_, rfl, by rw [← hfd]; rfl, rfl⟩
          · rw [Lib.lastOcc_miss _ _ _ (by rw [occ_extract]; simpa using heq)] at hjl'
            refine G.skip rfl ?_
            refine G.blkEnd ?_
            refine G.reg Try.func11 rfl ?_
            refine RW.pureS rfl rfl rfl rfl (OpP.move rfl) ?_
            refine RW.pureS rfl rfl rfl rfl (OpP.sub64 rfl rfl ⟨by omega, by omega⟩) ?_
            refine RW.pureS rfl rfl rfl rfl (OpP.assign rfl) ?_
            refine RW.done rfl ?_
            refine G.sub (ρ' := [(0, _), (1, _), (2, _), (9, _), (10, _), (34, _), (48, _)]) ⟨rfl, rfl, rfl, rfl, rfl, rfl, rfl, trivial⟩ ?_
            exact ih2 ((m : Int) - 1) _ _ ⟨rfl, rfl, rfl, rfl, rfl, trivial⟩ ⟨rfl, by omega, by omega, by omega, fun _ => by rw [hjl']; congr 1; omega⟩ (by show ((m : Int) - 1 + 1).toNat < ((m : Int) + 1).toNat; omega)
        · refine G.exit rfl rfl ?_
          refine G.blkEnd ?_
          refine G.reg Try.func11 rfl ?_
          refine RW.pureS rfl rfl rfl rfl (OpP.move rfl) ?_
          refine RW.pureS rfl rfl rfl rfl (OpP.sub64 rfl rfl ⟨by omega, by omega⟩) ?_
          refine RW.pureS rfl rfl rfl rfl (OpP.assign rfl) ?_
          refine RW.done rfl ?_
          refine G.sub (ρ' := [(0, _), (1, _), (2, _), (9, _), (10, _), (34, _)]) ⟨rfl, rfl, rfl, rfl, rfl, rfl, trivial⟩ ?_
          have hnext : (if t = noText then none else findDown l t k) = findH l t upto := by
            rw [← hfd]
            by_cases htn : t = noText
            · rw [if_pos htn, if_pos htn]
            · rw [if_neg htn, if_neg htn]
              have hneg : ¬ 0 ≤ lastAt x t := by
                have hjneg : ¬ 0 ≤ j := fun hj2 => hc ⟨hj2, htn⟩
                by_cases hle : t.size ≤ x.size
                · rw [hjl hle, show (j + 1).toNat = 0 from by omega]
                  show ¬ (0 : Int) ≤ -1
                  decide
                · unfold lastAt Lib.lastIndex
                  rw [if_neg (by simpa using hle)]
                  decide
              rw [if_neg hneg]
          exact ih ((k : Int) - 1) _ _ ⟨rfl, rfl, rfl, rfl, trivial⟩ ⟨rfl, by omega, by omega, by rw [show ((k : Int) - 1 + 1).toNat = k from by omega, hkk']; exact hnext⟩ (by show ((k : Int) - 1 + 1).toNat < ((k : Int) + 1).toNat; omega)
  · refine G.exit rfl rfl ?_
    refine G.seq rfl ?_
    refine G.reg Try.func11 rfl ?_
    refine RW.pureS rfl rfl rfl rfl (OpP.assign rfl) ?_
    refine RW.pureS rfl rfl rfl rfl (OpP.assign rfl) ?_
    refine RW.pureS rfl rfl rfl rfl (OpP.assign rfl) ?_
    refine RW.done rfl ?_
    refine G.sub (ρ' := [(0, _), (1, _), (2, _), (6, _), (7, _), (8, _), (9, _), (15, _)]) ⟨rfl, rfl, rfl, rfl, rfl, rfl, rfl, rfl, trivial⟩ ?_
    refine G.ret Try.func11 rfl rfl ?_
    have : (i + 1).toNat = 0 := by omega
    rw [this, Nat.zero_min] at hfd
    refine ⟨_, rfl, ?_, rfl⟩
    rw [← hfd]
    split <;> rfl

end Go.Proofs.Ytoddkkjkhfdehaa
