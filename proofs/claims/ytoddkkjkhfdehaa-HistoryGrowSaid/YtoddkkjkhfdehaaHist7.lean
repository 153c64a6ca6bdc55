/- limnerlaw20.HistoryGrow. -/
import Derived.Test.YtoddkkjkhfdehaaHist6
namespace Go.Proofs.Ytoddkkjkhfdehaa
open Go Go.Lw

structure Grown (l : List ByteArray) (s : ByteArray) : Prop where
  most : l.length ≤ 100
  each : ∀ x ∈ l, x ≠ noText ∧ x.size ≤ 5
  apart : ∀ i x, l[i]? = some x → l[i + 1]? = some x → False
  last : (s = noText ∧ l = []) ∨ (s ≠ noText ∧ l.getLast? = some s)

theorem grown_step {l : List ByteArray} {s w : ByteArray} (k : Grown l s) (hw : w.size ≤ 5) : Grown (addH l w) (if w = noText then s else w) := by
  unfold addH
  by_cases h0 : w = noText
  · rw [if_pos (Or.inl h0), if_pos h0]; exact k
  rw [if_neg h0]
  by_cases h1 : l.getLast? = some w
  · rw [if_pos (Or.inr h1)]
    exact ⟨k.most, k.each, k.apart, Or.inr ⟨h0, h1⟩⟩
  rw [if_neg (by rintro (h | h) <;> contradiction)]
  have hm := k.most
  refine ⟨by simp; omega, fun x hx => ?_, fun i x hx hy => ?_, Or.inr ⟨h0, ?_⟩⟩
  · have := List.mem_of_mem_drop hx
    simp at this
    rcases this with h | rfl
    · exact k.each x h
    · exact ⟨h0, hw⟩
  · rw [List.getElem?_drop] at hx hy
    rw [show l.length + 1 - 100 + (i + 1) = l.length + 1 - 100 + i + 1 from rfl] at hy
    generalize l.length + 1 - 100 + i = j at hx hy
    rcases Nat.lt_or_ge (j + 1) l.length with h2 | h2
    · rw [List.getElem?_append_left h2] at hy
      rw [List.getElem?_append_left (by omega)] at hx
      exact k.apart j x hx hy
    · rcases Nat.lt_or_ge j l.length with h3 | h3
      · rw [List.getElem?_append_left h3] at hx
        rw [List.getElem?_append_right h2, show j + 1 - l.length = 0 from by omega] at hy
        simp at hy
        subst hy
        apply h1
        rw [List.getLast?_eq_getElem?, show l.length - 1 = j from by omega, hx]
      · rw [List.getElem?_append_right (by omega)] at hy
        have : ([w] : List ByteArray).length ≤ j + 1 - l.length := by simp; omega
        rw [List.getElem?_eq_none this] at hy
        cases hy
  · rw [List.getLast?_drop]
    rw [if_neg (by simp; omega)]
    simp

theorem lastAt_self {s : ByteArray} : lastAt s s = 0 := by
  unfold lastAt Lib.lastIndex
  rw [if_pos (Nat.le_refl _), Nat.sub_self]
  rw [Lib.lastOcc_hit]
  · rfl
  · simp only [Lib.occAt, List.drop_zero, List.isPrefixOf_iff_prefix]; exact List.prefix_refl _

theorem findH_self {l : List ByteArray} {i : Nat} {x : ByteArray} (hx : l[i]? = some x) (h0 : x ≠ noText) : findH l x i = some ((i : Int), 0) := by
  have hi : i < l.length := by
    rcases Nat.lt_or_ge i l.length with h | h
    · exact h
    · rw [List.getElem?_eq_none h] at hx; cases hx
  have hu : upToN l.length i = i + 1 := by unfold upToN; split <;> omega
  have hg : l.getD i noText = x := by simp [List.getD, hx]
  unfold findH
  rw [if_neg h0, hu, findDown, hg, lastAt_self, if_pos (Int.le_refl 0)]

def six : List ByteArray := [⟨#[]⟩, ⟨#[97]⟩, ⟨#[98]⟩, ⟨#[97, 98]⟩, ⟨#[40]⟩, ⟨#[108, 101, 116, 32, 120]⟩]

theorem six_le (j : Nat) : (six.getD j noText).size ≤ 5 := by
  have h6 : ∀ x ∈ six, x.size ≤ 5 := by decide +kernel
  rcases Nat.lt_or_ge j 6 with h | h
  · have : six[j]? = some six[j] := List.getElem?_eq_getElem h
    rw [List.getD, this]
    exact h6 _ (List.getElem_mem h)
  · have : six[j]? = none := List.getElem?_eq_none h
    rw [List.getD, this]; decide

theorem histGrow_calls {h : Heap} {v : Value} {ks : List UInt8} (hv : SlR .byte h nobody v ks) :
    CallsH Try.prog 4 #[v] h (Ret fun r h' => r = .bool true ∧ Ext0 h h') := by
  obtain ⟨oa, n, c, rfl, hsl⟩ := hv.open
  have hn := hsl.len
  have hle := hsl.le
  have hc := hsl.cap
  unfold maxLen at hc
  refine CallsH.of Try.func4 rfl rfl ?_
  refine G.seq rfl ?_
  refine G.reg Try.func4 rfl ?_
  refine RW.pureS rfl rfl rfl rfl (OpP.assign rfl) ?_
  refine RW.done rfl ?_
  refine G.sub (ρ' := [(0, _), (2, _)]) ⟨rfl, rfl, trivial⟩ ?_
  refine G.seq rfl ?_
  refine G.seq rfl ?_
  refine G.reg Try.func4 rfl ?_
  refine RW.pureS rfl rfl rfl rfl (OpP.move rfl) ?_
  refine RW.pureS rfl rfl rfl rfl (OpP.lenSlice Try.underlying30 rfl) ?_
  refine RW.pureS rfl rfl rfl rfl (OpP.gtr rfl rfl) ?_
  refine RW.done rfl ?_
  refine G.sub (ρ' := [(0, _), (2, _), (14, _)]) ⟨rfl, rfl, rfl, trivial⟩ ?_
  refine G.ite rfl rfl (fun hbig => ?_) (fun hbig => ?_)
  · refine G.seq rfl ?_
    refine G.reg Try.func4 rfl ?_
    refine RW.opS rfl rfl rfl rfl (OpX.call (vs := []) Try.func6 rfl H.nm6 rfl (CallsH.toX (entered_calls _))) ?_
    rintro _ h1 ⟨rfl, he⟩
    refine RW.pureS rfl rfl rfl rfl (OpP.assign rfl) ?_
    refine RW.done rfl ?_
    refine G.sub (ρ' := [(0, _), (2, _), (14, _)]) ⟨rfl, rfl, rfl, trivial⟩ ?_
    refine G.ret Try.func4 rfl rfl ?_
    exact ⟨_, rfl, rfl, he⟩
  · have hn250 : n ≤ 250 := by omega
    refine G.skip rfl ?_
    refine G.seq rfl ?_
    refine G.reg Try.func4 rfl ?_
    refine RW.pureS rfl rfl rfl rfl (OpP.build (H.bd31_0_1_2_3_4_5 _ _ _ _ _ _) rfl) ?_
    refine RW.opS rfl rfl rfl rfl (OpX.alloc H.zr31) ?_
    rintro _ _ ⟨rfl, rfl⟩
    refine RW.op0 rfl rfl rfl (OpX.storeRow H.sz31 rfl rfl rfl (Array.getElem?_push_size) (by decide) (by decide)) ?_
    rintro _ h1 ⟨rfl, hh1⟩
    refine RW.done rfl ?_
    refine G.sub (ρ' := [(0, _), (2, _), (3, _), (14, _)]) ⟨rfl, rfl, rfl, rfl, trivial⟩ ?_
    refine G.seq rfl ?_
    refine G.reg Try.func4 rfl ?_
    refine RW.pureS rfl rfl rfl rfl (OpP.assign rfl) ?_
    refine RW.done rfl ?_
    refine G.sub (ρ' := [(0, _), (2, _), (3, _), (4, _), (14, _)]) ⟨rfl, rfl, rfl, rfl, rfl, trivial⟩ ?_
    refine G.seq rfl ?_
    refine G.reg Try.func4 rfl ?_
    refine RW.pureS rfl rfl rfl rfl (OpP.assign rfl) ?_
    refine RW.done rfl ?_
    refine G.sub (ρ' := [(0, _), (2, _), (3, _), (4, _), (5, _), (14, _)]) ⟨rfl, rfl, rfl, rfl, rfl, rfl, trivial⟩ ?_
    refine G.seq rfl ?_
    refine G.seq rfl ?_
    refine G.reg Try.func4 rfl ?_
    refine RW.pureS rfl rfl rfl rfl (OpP.assign rfl) ?_
    refine RW.done rfl ?_
    refine G.sub (ρ' := [(0, _), (2, _), (3, _), (4, _), (5, _), (6, _), (14, _)]) ⟨rfl, rfl, rfl, rfl, rfl, rfl, rfl, trivial⟩ ?_
    refine G.block rfl rfl ?_
    have he1 : Ext0 h h1 := by rw [hh1]; exact Ext0.setRow (Ext.push _ _ _) (Nat.le_refl _) _
    have hblk : h1[h.size]? = some (.cells #[.string ⟨#[]⟩, .string ⟨#[97]⟩, .string ⟨#[98]⟩, .string ⟨#[97, 98]⟩, .string ⟨#[40]⟩, .string ⟨#[108, 101, 116, 32, 120]⟩] 31 (0, 0)) := by
      rw [hh1, setRow_blk Array.getElem?_push_size]; rfl
    have hsix : ∀ j, j < 6 → cellAt h1 ⟨h.size, 0 + j * 1, none⟩ = some (.string (six.getD j noText)) := by
      intro j hj
      have hc6 : ∀ j, j < 6 → (#[Value.string ⟨#[]⟩, .string ⟨#[97]⟩, .string ⟨#[98]⟩, .string ⟨#[97, 98]⟩, .string ⟨#[40]⟩, .string ⟨#[108, 101, 116, 32, 120]⟩] : Array Value)[0 + j * 1]? = some (.string (six.getD j noText)) := by
        intro j hj
        match j, hj with
        | 0, _ => rfl
        | 1, _ => rfl
        | 2, _ => rfl
        | 3, _ => rfl
        | 4, _ => rfl
        | 5, _ => rfl
      exact cell_of_blk hblk (hc6 j hj)
    clear hh1 hblk
    have hsl1 := hsl.mv (Mv.ext0 he1)
    refine G.loop (σ := Nat × Value × List ByteArray × ByteArray) (fun q => [(0, .slice oa n c), (3, .pointer (some ⟨h.size, 0, none⟩)), (4, q.2.1), (5, .string q.2.2.2), (6, .int .i64 q.1)]) (fun q h' => Ext0 h1 h' ∧ q.1 ≤ n ∧ SlR .str h' nobody q.2.1 q.2.2.1 ∧ Grown q.2.2.1 q.2.2.2) (fun q => n - q.1) ((0, .slice none 0 0, [], noText)) rfl ⟨rfl, rfl, rfl, rfl, rfl, trivial⟩ ⟨Ext.refl _ _, Nat.zero_le _, SlR.nil _ _ _, by simp, by simp, by simp, Or.inl ⟨rfl, rfl⟩⟩ ?_
    rintro ⟨k, v, l, s⟩ h2 ⟨he2, hk, hvl, hgr⟩ ih
    dsimp only at hk hvl hgr
    refine G.seq rfl ?_
    refine G.seq rfl ?_
    refine G.reg Try.func4 rfl ?_
    refine RW.pureS rfl rfl rfl rfl (OpP.move rfl) ?_
    refine RW.pureS rfl rfl rfl rfl (OpP.move rfl) ?_
    refine RW.pureS rfl rfl rfl rfl (OpP.lenSlice Try.underlying30 rfl) ?_
    refine RW.pureS rfl rfl rfl rfl (OpP.lss rfl rfl) ?_
    refine RW.done rfl ?_
    refine G.sub (ρ' := [(0, _), (3, _), (4, _), (5, _), (6, _), (20, _)]) ⟨rfl, rfl, rfl, rfl, rfl, rfl, trivial⟩ ?_
    refine G.ite rfl rfl (fun hlt => ?_) (fun hlt => ?_)
    · have hlt' : k < n := by omega
      have hsl2 := hsl1.mv (Mv.ext0 he2)
      obtain ⟨b, o, x, ha, hb, hx, hcell⟩ := hsl2.at hlt'
      have hj6 : x.toNat % 6 < 6 := Nat.mod_lt _ (by decide)
      have hsx := he2.cell (fun k => k) (hsix _ hj6)
      have hw5 := six_le (x.toNat % 6)
      generalize hw : six.getD (x.toNat % 6) noText = w at hsx hw5
      refine G.skip rfl ?_
      refine G.seq rfl ?_
      refine G.block rfl rfl ?_
      refine G.seq rfl ?_
      refine G.reg Try.func4 rfl ?_
      refine RW.pureS rfl rfl rfl rfl (OpP.move rfl) ?_
      refine RW.pureS rfl rfl rfl rfl (OpP.move rfl) ?_
      refine RW.pureS rfl rfl rfl rfl (OpP.indexSlice Try.underlying30 H.sz5 rfl rfl k rfl ha hlt') ?_
      refine RW.pureS rfl rfl rfl rfl (OpP.load H.ag5 rfl hcell) ?_
      refine RW.pureS rfl rfl rfl rfl (OpP.rem rfl rfl (by decide)) ?_
      refine RW.pureS rfl rfl rfl rfl (OpP.indexArr Try.underlying31 H.sz9 rfl rfl (x.toNat % 6) (by rw [Int.tmod_eq_emod_of_nonneg (by omega)]; omega) hj6) ?_
      refine RW.pureS rfl rfl rfl rfl (OpP.load H.ag9 rfl hsx) ?_
      refine RW.pureS rfl rfl rfl rfl (OpP.assign rfl) ?_
      refine RW.done rfl ?_
      refine G.sub (ρ' := [(0, _), (3, _), (4, _), (5, _), (6, _), (7, _), (20, _)]) ⟨rfl, rfl, rfl, rfl, rfl, rfl, rfl, trivial⟩ ?_
      refine G.seq rfl ?_
      refine G.reg Try.func4 rfl ?_
      refine RW.pureS rfl rfl rfl rfl (OpP.move rfl) ?_
      refine RW.pureS rfl rfl rfl rfl (OpP.move rfl) ?_
      refine RW.opS rfl rfl rfl rfl (OpX.call (vs := [_, _]) Try.func7 rfl H.nm7 rfl (CallsH.toX (histAdd_calls hvl (by have := hgr.most; omega)))) ?_
      rintro v3 h3 ⟨hfr, he3⟩
      refine RW.pureS rfl rfl rfl rfl (OpP.assign rfl) ?_
      refine RW.done rfl ?_
      refine G.sub (ρ' := [(0, _), (3, _), (4, _), (5, _), (6, _), (7, _), (20, _)]) ⟨rfl, rfl, rfl, rfl, rfl, rfl, rfl, trivial⟩ ?_
      refine G.seq rfl ?_
      refine G.seq rfl ?_
      refine G.reg Try.func4 rfl ?_
      refine RW.pureS rfl rfl rfl rfl (OpP.move rfl) ?_
      refine RW.pureS rfl rfl rfl rfl (OpP.neqStr rfl rfl) ?_
      refine RW.done rfl ?_
      refine G.sub (ρ' := [(0, _), (3, _), (4, _), (5, _), (6, _), (7, _), (20, _), (34, _)]) ⟨rfl, rfl, rfl, rfl, rfl, rfl, rfl, rfl, trivial⟩ ?_
      have hvl3 := hfr.read
      have hgr3 := grown_step hgr hw5
      generalize addH l w = l3 at hvl3 hgr3 hfr
      obtain ⟨oc, n3, c3, rfl, hsl3⟩ := hvl3.open
      have hn3 := hsl3.len
      have hm3 := hgr3.most
      have fin : ∀ (s3 : ByteArray) (h' : Heap) (ρ' : Env), Sub [(0, .slice oa n c), (3, .pointer (some ⟨h.size, 0, none⟩)), (4, .slice oc n3 c3), (5, .string s3), (6, .int .i64 k)] ρ' → h3 = h' → s3 = (if w = noText then s else w) → G Try.prog 4 Try.f4 [.code [1, 1, 1, 0, 0, 1, 0, 0, 1, 0, 1, 1, 1, 1, 1], .blk 1, .code [1, 1, 0, 0, 1, 0, 1, 1, 1, 1, 1], .loop [0, 0, 1, 0, 1, 1, 1, 1, 1], .blk 0, .code [1, 1, 1, 1, 1, 1]] ρ' h' (Ret fun r h' => r = .bool true ∧ Ext0 h h') := by
        rintro s3 hh ρ' hsub rfl hs3
        rw [← hs3] at hgr3
        refine G.sub (ρ' := [(0, .slice oa n c), (3, .pointer (some ⟨h.size, 0, none⟩)), (4, .slice oc n3 c3), (5, .string s3), (6, .int .i64 k)]) hsub ?_
        refine G.seq rfl ?_
        refine G.regTo1 [(57, .bool false)] [(0, _), (3, _), (4, _), (5, _), (6, _)] ⟨rfl, rfl, rfl, rfl, rfl, trivial⟩ Try.func4 rfl ?_ ?_
        · refine RW.pureS rfl rfl rfl rfl (OpP.move rfl) ?_
          refine RW.pureS rfl rfl rfl rfl (OpP.lenSlice Try.underlying22 rfl) ?_
          refine RW.pureS rfl rfl rfl rfl (OpP.gtr rfl rfl) ?_
          refine RW.pureS rfl rfl rfl rfl (OpP.move rfl) ?_
          refine RW.know (d := 39) (b' := false) rfl (decide_eq_false (by omega)) ?_
          refine RW.pureS rfl rfl rfl rfl (OpP.move rfl) ?_
          refine RW.pureS rfl rfl rfl rfl (OpP.neqStr rfl rfl) ?_
          refine RW.pureS rfl rfl rfl rfl (OpP.move rfl) ?_
          refine RW.split (d := 42) rfl (fun hs0 => ?_) (fun hs0 => ?_)
          · have hs0 : s3 ≠ noText := of_decide_eq_true hs0
            rcases hgr3.last with ⟨h8, _⟩ | ⟨_, h8⟩
            · exact absurd h8 hs0
            have hn0 : 0 < n3 := by
              rcases Nat.eq_zero_or_pos n3 with h9 | h9
              · rw [List.eq_nil_of_length_eq_zero (hn3.trans h9)] at h8; cases h8
              · exact h9
            obtain ⟨b3, o3, x3, ha3, hb3, hx3, hcell3⟩ := hsl3.at (i := n3 - 1) (by omega)
            have hxx : x3 = s3 := by
              rw [List.getLast?_eq_getElem?, hn3, hx3] at h8; cases h8; rfl
            refine RW.pureS rfl rfl rfl rfl (OpP.move rfl) ?_
            refine RW.pureS rfl rfl rfl rfl (OpP.lenSlice Try.underlying22 rfl) ?_
            refine RW.pureS rfl rfl rfl rfl (OpP.eqlInt rfl rfl) ?_
            refine RW.pureS rfl rfl rfl rfl (OpP.move rfl) ?_
            refine RW.know (d := 46) (b' := false) rfl (decide_eq_false (by omega)) ?_
            refine RW.pureS rfl rfl rfl rfl (OpP.move rfl) ?_
            refine RW.pureS rfl rfl rfl rfl (OpP.move rfl) ?_
            refine RW.pureS rfl rfl rfl rfl (OpP.lenSlice Try.underlying22 rfl) ?_
            refine RW.pureS rfl rfl rfl rfl (OpP.sub64 rfl rfl ⟨by omega, by omega⟩) ?_
            refine RW.pureS rfl rfl rfl rfl (OpP.indexSlice Try.underlying22 H.sz9 rfl rfl (n3 - 1) (by omega) ha3 (by omega)) ?_
            refine RW.pureS rfl rfl rfl rfl (OpP.load H.ag9 rfl hcell3) ?_
            refine RW.pureS rfl rfl rfl rfl (OpP.move rfl) ?_
            refine RW.pureS rfl rfl rfl rfl (OpP.neqStr rfl rfl) ?_
            refine RW.pureS rfl rfl rfl rfl (OpP.pickF rfl rfl) ?_
            refine RW.pureS rfl rfl rfl rfl (OpP.pickT rfl rfl) ?_
            refine RW.pureS rfl rfl rfl rfl (OpP.pickF rfl rfl) ?_
            refine RW.done rfl ?_
            exact ⟨rfl, at_bool rfl (by simp [hxx]), rfl, rfl, rfl, rfl, rfl, trivial⟩
          · refine RW.skipS rfl rfl rfl rfl ?_
            refine RW.skipS rfl rfl rfl rfl ?_
            refine RW.skipS rfl rfl rfl rfl ?_
            refine RW.skipS rfl rfl rfl rfl ?_
            refine RW.skipS rfl rfl rfl rfl ?_
            refine RW.skipS rfl rfl rfl rfl ?_
            refine RW.skipS rfl rfl rfl rfl ?_
            refine RW.skipS rfl rfl rfl rfl ?_
            refine RW.skipS rfl rfl rfl rfl ?_
            refine RW.skipS rfl rfl rfl rfl ?_
            refine RW.skipS rfl rfl rfl rfl ?_
            refine RW.skipS rfl rfl rfl rfl ?_
            refine RW.skipS rfl rfl rfl rfl ?_
            refine RW.pureS rfl rfl rfl rfl (OpP.pickF rfl rfl) ?_
            refine RW.pureS rfl rfl rfl rfl (OpP.pickF rfl rfl) ?_
            refine RW.done rfl ?_
            exact ⟨rfl, rfl, rfl, rfl, rfl, rfl, rfl, trivial⟩
        · refine G.cond rfl rfl (fun hc => absurd hc Bool.false_ne_true) (fun _ => ?_)
          refine G.skip rfl ?_
          refine G.blkEnd ?_
          refine G.reg Try.func4 rfl ?_
          refine RW.pureS rfl rfl rfl rfl (OpP.move rfl) ?_
          refine RW.pureS rfl rfl rfl rfl (OpP.add64 rfl rfl ⟨by omega, by omega⟩) ?_
          refine RW.pureS rfl rfl rfl rfl (OpP.assign rfl) ?_
          refine RW.done rfl ?_
          refine G.sub (ρ' := [(0, _), (3, _), (4, _), (5, _), (6, _), (57, _)]) ⟨rfl, rfl, rfl, rfl, rfl, rfl, trivial⟩ ?_
          exact ih (k + 1, _, l3, s3) _ _ ⟨rfl, rfl, rfl, rfl, rfl, trivial⟩ ⟨he2.trans he3, by show k + 1 ≤ n; omega, hsl3.shut, hgr3⟩ (by show n - (k + 1) < n - k; omega)
      refine G.ite rfl rfl (fun hw0 => ?_) (fun hw0 => ?_)
      · refine G.reg Try.func4 rfl ?_
        refine RW.pureS rfl rfl rfl rfl (OpP.move rfl) ?_
        refine RW.pureS rfl rfl rfl rfl (OpP.assign rfl) ?_
        refine RW.done rfl ?_
        refine G.sub (ρ' := [(0, _), (3, _), (4, _), (5, _), (6, _), (7, _), (20, _), (34, _)]) ⟨rfl, rfl, rfl, rfl, rfl, rfl, rfl, rfl, trivial⟩ ?_
        exact fin _ _ _ ⟨rfl, rfl, rfl, rfl, rfl, trivial⟩ rfl (by rw [if_neg (by exact hw0)])
      · refine G.skip rfl ?_
        exact fin _ _ _ ⟨rfl, rfl, rfl, rfl, rfl, trivial⟩ rfl (by rw [if_pos (by exact Classical.not_not.1 hw0)])
    · obtain ⟨oc, n3, c3, rfl, hsl3⟩ := hvl.open
      have hn3 := hsl3.len
      have hm3 := hgr.most
      have hle3 := hsl3.le
      refine G.exit rfl rfl ?_
      refine G.seq rfl ?_
      refine G.seq rfl ?_
      refine G.reg Try.func4 rfl ?_
      refine RW.pureS rfl rfl rfl rfl (OpP.assign rfl) ?_
      refine RW.done rfl ?_
      refine G.sub (ρ' := [(0, _), (3, _), (4, _), (5, _), (6, _), (8, _), (20, _)]) ⟨rfl, rfl, rfl, rfl, rfl, rfl, rfl, trivial⟩ ?_
      refine G.block rfl rfl ?_
      refine G.loop (σ := Nat) (fun i => [(4, .slice oc n3 c3), (8, .int .i64 i)]) (fun i h' => h' = h2 ∧ i ≤ n3) (fun i => n3 - i) (0) rfl ⟨rfl, rfl, trivial⟩ ⟨rfl, Nat.zero_le _⟩ ?_
      rintro i h3 ⟨rfl, hi⟩ ih2
      refine G.seq rfl ?_
      refine G.seq rfl ?_
      refine G.reg Try.func4 rfl ?_
      refine RW.pureS rfl rfl rfl rfl (OpP.move rfl) ?_
      refine RW.pureS rfl rfl rfl rfl (OpP.move rfl) ?_
      refine RW.pureS rfl rfl rfl rfl (OpP.lenSlice Try.underlying22 rfl) ?_
      refine RW.pureS rfl rfl rfl rfl (OpP.lss rfl rfl) ?_
      refine RW.done rfl ?_
      refine G.sub (ρ' := [(4, _), (8, _), (61, _)]) ⟨rfl, rfl, rfl, trivial⟩ ?_
      refine G.ite rfl rfl (fun hlt2 => ?_) (fun hlt2 => ?_)
      · have hlt2' : i < n3 := by omega
        obtain ⟨b, o, x, ha, hb, hx, hcell⟩ := hsl3.at hlt2'
        have hx0 := hgr.each x (List.mem_of_getElem? hx)
        have hff : foundV (findH l x i) = .tuple #[.int .i64 i, .int .i64 0, .bool true] := by rw [findH_self hx hx0.1]; rfl
        refine G.skip rfl ?_
        refine G.seq rfl ?_
        refine G.block rfl rfl ?_
        refine G.seq rfl ?_
        refine G.reg Try.func4 rfl ?_
        refine RW.pureS rfl rfl rfl rfl (OpP.move rfl) ?_
        refine RW.pureS rfl rfl rfl rfl (OpP.move rfl) ?_
        refine RW.pureS rfl rfl rfl rfl (OpP.move rfl) ?_
        refine RW.pureS rfl rfl rfl rfl (OpP.indexSlice Try.underlying22 H.sz9 rfl rfl i rfl ha hlt2') ?_
        refine RW.pureS rfl rfl rfl rfl (OpP.load H.ag9 rfl hcell) ?_
        refine RW.pureS rfl rfl rfl rfl (OpP.move rfl) ?_
        refine RW.opS rfl rfl rfl rfl (OpX.call (vs := [_, _, _]) Try.func10 rfl H.nm10 rfl (CallsH.toX (find_as i (by omega) hsl3.shut (by omega) (fun y hy => by have := (hgr.each y hy).2; omega) hff))) ?_
        rintro _ _ ⟨rfl, rfl⟩
        refine RW.pureS rfl rfl rfl rfl (OpP.move rfl) ?_
        refine RW.pureS rfl rfl rfl rfl (OpP.extract rfl rfl) ?_
        refine RW.pureS rfl rfl rfl rfl (OpP.extract rfl rfl) ?_
        refine RW.pureS rfl rfl rfl rfl (OpP.extract rfl rfl) ?_
        refine RW.pureS rfl rfl rfl rfl (OpP.assign rfl) ?_
        refine RW.pureS rfl rfl rfl rfl (OpP.assign rfl) ?_
        refine RW.pureS rfl rfl rfl rfl (OpP.assign rfl) ?_
        refine RW.done rfl ?_
        refine G.sub (ρ' := [(4, _), (8, _), (9, _), (10, _), (11, _), (61, _)]) ⟨rfl, rfl, rfl, rfl, rfl, rfl, trivial⟩ ?_
        refine G.seq rfl ?_
        refine G.drawQTo1 [(108, .bool false)] [(4, _), (8, _), (9, _), (10, _), (11, _), (61, _)] ⟨rfl, rfl, rfl, rfl, rfl, rfl, trivial⟩ Try.func4 H.mixed rfl (by kernel_rfl) ?_ ?_
        · refine RQ.pureS rfl rfl rfl rfl (OpP.move rfl) ?_
          refine RQ.pureS rfl rfl rfl rfl (OpP.move rfl) ?_
          refine RQ.pureS rfl rfl rfl rfl (OpP.indexSlice Try.underlying22 H.sz9 rfl rfl i rfl ha hlt2') ?_
          refine RQ.pureS rfl rfl rfl rfl (OpP.load H.ag9 rfl hcell) ?_
          refine RQ.pureS rfl rfl rfl rfl (OpP.eqlStr rfl rfl) ?_
          refine RQ.pureS rfl rfl rfl rfl (OpP.move rfl) ?_
          refine RQ.know (d := 80) (b' := false) rfl (decide_eq_false (hx0.1)) ?_
          refine RQ.pureS rfl rfl rfl rfl (OpP.move rfl) ?_
          refine RQ.pureS rfl rfl rfl rfl (OpP.gtr rfl rfl) ?_
          refine RQ.pureS rfl rfl rfl rfl (OpP.move rfl) ?_
          refine RQ.split (d := 83) rfl (fun hi0 => ?_) (fun hi0 => ?_)
          · have hi0 : 0 < i := by simpa using hi0
            obtain ⟨b4, o4, x4, ha4, hb4, hx4, hcell4⟩ := hsl3.at (i := i - 1) (by omega)
            refine RQ.pureS rfl rfl rfl rfl (OpP.move rfl) ?_
            refine RQ.pureS rfl rfl rfl rfl (OpP.move rfl) ?_
            refine RQ.pureS rfl rfl rfl rfl (OpP.indexSlice Try.underlying22 H.sz9 rfl rfl i rfl ha hlt2') ?_
            refine RQ.pureS rfl rfl rfl rfl (OpP.load H.ag9 rfl hcell) ?_
            refine RQ.pureS rfl rfl rfl rfl (OpP.move rfl) ?_
            refine RQ.pureS rfl rfl rfl rfl (OpP.move rfl) ?_
            refine RQ.pureS rfl rfl rfl rfl (OpP.sub64 rfl rfl ⟨by omega, by omega⟩) ?_
            refine RQ.pureS rfl rfl rfl rfl (OpP.indexSlice Try.underlying22 H.sz9 rfl rfl (i - 1) (by omega) ha4 (by omega)) ?_
            refine RQ.pureS rfl rfl rfl rfl (OpP.load H.ag9 rfl hcell4) ?_
            refine RQ.pureS rfl rfl rfl rfl (OpP.eqlStr rfl rfl) ?_
            refine RQ.pureS rfl rfl rfl rfl (OpP.pickT rfl rfl) ?_
            refine RQ.pureS rfl rfl rfl rfl (OpP.pickF rfl rfl) ?_
            refine RQ.pureS rfl rfl rfl rfl (OpP.move rfl) ?_
            refine RQ.know (d := 96) (b' := false) rfl (decide_eq_false (by rintro rfl; exact hgr.apart (i - 1) x hx4 (by rw [Nat.sub_add_cancel hi0]; exact hx))) ?_
            refine RQ.pureS rfl rfl rfl rfl (OpP.move rfl) ?_
            refine RQ.pureS rfl rfl rfl rfl (OpP.notB rfl) ?_
            refine RQ.pureS rfl rfl rfl rfl (OpP.pickF rfl rfl) ?_
            refine RQ.pureS rfl rfl rfl rfl (OpP.move rfl) ?_
            refine RQ.know (d := 100) (b' := false) rfl (rfl) ?_
            refine RQ.pureS rfl rfl rfl rfl (OpP.move rfl) ?_
            refine RQ.pureS rfl rfl rfl rfl (OpP.move rfl) ?_
            refine RQ.pureS rfl rfl rfl rfl (OpP.neqInt rfl rfl) ?_
            refine RQ.pureS rfl rfl rfl rfl (OpP.pickF rfl rfl) ?_
            refine RQ.pureS rfl rfl rfl rfl (OpP.move rfl) ?_
            refine RQ.know (d := 105) (b' := false) rfl (decide_eq_false (fun k => k rfl)) ?_
            refine RQ.pureS rfl rfl rfl rfl (OpP.move rfl) ?_
            refine RQ.pureS rfl rfl rfl rfl (OpP.neqInt rfl rfl) ?_
            refine RQ.pureS rfl rfl rfl rfl (OpP.pickF rfl rfl) ?_
            refine RQ.done rfl ?_
            exact ⟨rfl, rfl, rfl, rfl, rfl, rfl, rfl, rfl, trivial⟩
          · refine RQ.skipS rfl rfl rfl rfl ?_
            refine RQ.skipS rfl rfl rfl rfl ?_
            refine RQ.skipS rfl rfl rfl rfl ?_
            refine RQ.skipS rfl rfl rfl rfl ?_
            refine RQ.skipS rfl rfl rfl rfl ?_
            refine RQ.skipS rfl rfl rfl rfl ?_
            refine RQ.skipS rfl rfl rfl rfl ?_
            refine RQ.skipS rfl rfl rfl rfl ?_
            refine RQ.skipS rfl rfl rfl rfl ?_
            refine RQ.skipS rfl rfl rfl rfl ?_
            refine RQ.pureS rfl rfl rfl rfl (OpP.pickF rfl rfl) ?_
            refine RQ.pureS rfl rfl rfl rfl (OpP.pickF rfl rfl) ?_
            refine RQ.pureS rfl rfl rfl rfl (OpP.move rfl) ?_
            refine RQ.pureS rfl rfl rfl rfl (OpP.move rfl) ?_
            refine RQ.pureS rfl rfl rfl rfl (OpP.notB rfl) ?_
            refine RQ.pureS rfl rfl rfl rfl (OpP.pickF rfl rfl) ?_
            refine RQ.pureS rfl rfl rfl rfl (OpP.move rfl) ?_
            refine RQ.know (d := 100) (b' := false) rfl (rfl) ?_
            refine RQ.pureS rfl rfl rfl rfl (OpP.move rfl) ?_
            refine RQ.pureS rfl rfl rfl rfl (OpP.move rfl) ?_
            refine RQ.pureS rfl rfl rfl rfl (OpP.neqInt rfl rfl) ?_
            refine RQ.pureS rfl rfl rfl rfl (OpP.pickF rfl rfl) ?_
            refine RQ.pureS rfl rfl rfl rfl (OpP.move rfl) ?_
            refine RQ.know (d := 105) (b' := false) rfl (decide_eq_false (fun k => k rfl)) ?_
            refine RQ.pureS rfl rfl rfl rfl (OpP.move rfl) ?_
            refine RQ.pureS rfl rfl rfl rfl (OpP.neqInt rfl rfl) ?_
            refine RQ.pureS rfl rfl rfl rfl (OpP.pickF rfl rfl) ?_
            refine RQ.done rfl ?_
            exact ⟨rfl, rfl, rfl, rfl, rfl, rfl, rfl, rfl, trivial⟩
        · refine G.cond rfl rfl (fun hc => absurd hc Bool.false_ne_true) (fun _ => ?_)
          refine G.skip rfl ?_
          refine G.blkEnd ?_
          refine G.reg Try.func4 rfl ?_
          refine RW.pureS rfl rfl rfl rfl (OpP.move rfl) ?_
          refine RW.pureS rfl rfl rfl rfl (OpP.add64 rfl rfl ⟨by omega, by omega⟩) ?_
          refine RW.pureS rfl rfl rfl rfl (OpP.assign rfl) ?_
          refine RW.done rfl ?_
          refine G.sub (ρ' := [(4, _), (8, _), (9, _), (10, _), (11, _), (61, _), (108, _)]) ⟨rfl, rfl, rfl, rfl, rfl, rfl, rfl, trivial⟩ ?_
          exact ih2 (i + 1) _ _ ⟨rfl, rfl, trivial⟩ ⟨rfl, by omega⟩ (by omega)
      · refine G.exit rfl rfl ?_
        refine G.seq rfl ?_
        refine G.reg Try.func4 rfl ?_
        refine RW.opS rfl rfl rfl rfl (OpX.call (vs := []) Try.func6 rfl H.nm6 rfl (CallsH.toX (entered_calls _))) ?_
        rintro _ h4 ⟨rfl, he4⟩
        refine RW.pureS rfl rfl rfl rfl (OpP.assign rfl) ?_
        refine RW.done rfl ?_
        refine G.sub (ρ' := [(2, _), (4, _), (8, _), (61, _)]) ⟨rfl, rfl, rfl, rfl, trivial⟩ ?_
        refine G.ret Try.func4 rfl rfl ?_
        exact ⟨_, rfl, rfl, he1.trans (he2.trans he4)⟩

end Go.Proofs.Ytoddkkjkhfdehaa
