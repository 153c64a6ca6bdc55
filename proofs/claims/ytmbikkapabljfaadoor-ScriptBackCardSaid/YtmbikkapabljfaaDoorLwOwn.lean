/- A row of the call's own: read, written, cut, handed on. -/
import Derived.Test.YtmbikkapabljfaaDoorLwRead
namespace Go.Lw

theorem at_bool {ρ : Env} {i : Nat} {b b' : Bool} (h : ρ.at i = some (.bool b)) (e : b = b') : ρ.at i = some (.bool b') := by rw [h, e]

theorem Ext.old {h h' : Heap} (e : Ext (fun b => h.size ≤ b) h h') {a : Addr} {v : Value} (k : cellAt h a = some v) : cellAt h' a = some v := e.cell (Nat.not_le.2 (lt_of_cellAt k)) k
theorem Ext.oldRow {h h' : Heap} (e : Ext (fun b => h.size ≤ b) h h') {b o : Nat} {cs : List Value} (k : Lw.rowAt h b o cs) : Lw.rowAt h' b o cs := fun j v hv => e.old (k j v hv)

theorem ext_but_none {h h' : Heap} (e : Ext (but none) h h') : Ext0 h h' := e.mono fun _ _ k => by cases k

/-- The opened form: a slice value; each of its elements' cells lies in one block, that may be written. -/
structure Ow (h : Heap) (base : Nat) (t : TypeId) (size : Nat) (oa : Option Addr) (n c : Nat) (xs : List Value) : Prop where
  own : OwnH h base t size (.slice oa n c) n xs
  len : xs.length = n * size
  le : n ≤ c
  cap : c ≤ maxLen

theorem OwnH.open {h : Heap} {base : Nat} {t : TypeId} {size : Nat} {v : Value} {n : Nat} {xs : List Value} (k : OwnH h base t size v n xs) : ∃ oa c, v = .slice oa n c ∧ Ow h base t size oa n c xs := by
  rcases k.2 with ⟨rfl, rfl⟩ | ⟨g, cap, cur, rfl, hb, hg, hnc, hc, rest⟩
  · exact ⟨none, 0, rfl, k, k.1, Nat.le_refl _, by simp [maxLen]⟩
  · exact ⟨_, cap, rfl, k, k.1, hnc, hc⟩

theorem Ow.blk {h : Heap} {base : Nat} {t : TypeId} {size : Nat} {oa : Option Addr} {n c : Nat} {xs : List Value} (k : Ow h base t size oa n c xs) (hn : 0 < n) :
    ∃ g cur, oa = some ⟨g, 0, none⟩ ∧ base ≤ g ∧ g < h.size ∧ h[g]? = some (.cells cur t (0, 0)) ∧ cur.size = c * size ∧ cur.toList.take (n * size) = xs := by
  rcases k.own.2 with ⟨_, h0⟩ | ⟨g, cap, cur, hv, hb, hg, hnc, hc, hs, ht⟩
  · omega
  · cases hv
    exact ⟨g, cur, rfl, hb, (Array.getElem?_eq_some_iff.1 hg).1, hg, hs, ht⟩

/-- An element of one cell. -/
theorem Ow.at {h : Heap} {base : Nat} {t : TypeId} {oa : Option Addr} {n c : Nat} {xs : List Value} (k : Ow h base t 1 oa n c xs) {i : Nat} {x : Value} (hx : xs[i]? = some x) :
    ∃ g, oa = some ⟨g, 0, none⟩ ∧ base ≤ g ∧ g < h.size ∧ cellAt h ⟨g, 0 + i * 1, none⟩ = some x ∧ frozenAt h ⟨g, 0 + i * 1, none⟩ = false := by
  have hi : i < n := by
    rcases Nat.lt_or_ge i n with h1 | h1
    · exact h1
    · rw [List.getElem?_eq_none (by have := k.len; omega)] at hx; cases hx
  obtain ⟨g, cur, ha, hb, hlt, hg, hs, ht⟩ := k.blk (by omega)
  refine ⟨g, ha, hb, hlt, ?_, by simp [frozenAt, hg]⟩
  have h2 : (cur.toList.take (n * 1))[i]? = some x := by rw [ht]; exact hx
  rw [List.getElem?_take, if_pos (by omega)] at h2
  simpa [cellAt, hg] using h2

theorem Ow.row {h : Heap} {base : Nat} {t : TypeId} {size : Nat} {oa : Option Addr} {n c : Nat} {xs : List Value} (k : Ow h base t size oa n c xs) : n = 0 ∨ ∃ b o, oa = some ⟨b, o, none⟩ ∧ rowAt h b o xs := by
  rcases Nat.eq_zero_or_pos n with h0 | h0
  · exact .inl h0
  · obtain ⟨g, cur, ha, hb, hlt, hg, hs, ht⟩ := k.blk h0
    refine .inr ⟨g, 0, ha, fun j v hv => ?_⟩
    rw [← ht, List.getElem?_take] at hv
    split at hv
    · simpa [cellAt, hg] using hv
    · cases hv

theorem Sl.part {α : Type} {e : Elt α} {h : Heap} {O : Nat → Prop} {oa : Option Addr} {n c : Nat} {xs : List α} (k : Sl e h O oa n c xs) {i j : Nat} (hij : i ≤ j) (hj : j ≤ n) : Sl e h O (partAddr oa i e.sz c) (j - i) (c - i) ((xs.take j).drop i) := by
  have hl := k.len
  have hle := k.le
  have hc := k.cap
  refine ⟨by simp; omega, by omega, by omega, fun m x hx => ?_⟩
  have hm : m < ((xs.take j).drop i).length := by
    rcases Nat.lt_or_ge m ((xs.take j).drop i).length with h1 | h1
    · exact h1
    · rw [List.getElem?_eq_none h1] at hx; cases hx
  simp at hm
  rw [List.getElem?_drop, List.getElem?_take, if_pos (by omega)] at hx
  obtain ⟨b, o, cs, ha, ho, hr, hR⟩ := k.get (i + m) x hx
  refine ⟨b, o + i * e.sz, cs, ?_, ho, ?_, hR⟩
  · unfold partAddr
    rw [if_neg (by omega), ha]
    simp [Addr.add_mid]
  · rw [Nat.add_assoc, ← Nat.add_mul]; exact hr

theorem Sl.row {α : Type} {enc : α → Value} {h1 : ∀ x, (enc x).oneCell' = true} {h : Heap} {O : Nat → Prop} {oa : Option Addr} {n c : Nat} {xs : List α} (k : Sl (.flat enc h1) h O oa n c xs) : n = 0 ∨ ∃ b o, oa = some ⟨b, o, none⟩ ∧ rowAt h b o (xs.map enc) := by
  rcases Nat.eq_zero_or_pos n with h0 | h0
  · exact .inl h0
  · obtain ⟨b, o, x, ha, _, _, _⟩ := k.at h0
    refine .inr ⟨b, o, ha, fun j v hv => ?_⟩
    have hj : j < n := by
      rcases Nat.lt_or_ge j n with h2 | h2
      · exact h2
      · rw [List.getElem?_eq_none (by simpa [k.len] using h2)] at hv; cases hv
    obtain ⟨b', o', x', ha', _, hx', hc'⟩ := k.at hj
    rw [ha] at ha'
    cases ha'
    rw [List.getElem?_map, hx'] at hv
    cases hv
    simpa using hc'

/-- A store into an element of one cell. -/
theorem Ow.set {h : Heap} {base : Nat} {t : TypeId} {oa : Option Addr} {n c : Nat} {xs : List Value} (k : Ow h base t 1 oa n c xs) {g i : Nat} (ha : oa = some ⟨g, 0, none⟩) (hi : i < n) (u : Value) :
    Ow (setC h ⟨g, 0 + i * 1, none⟩ u) base t 1 oa n c (xs.set i u) := by
  obtain ⟨g', cur, ha', hb, hlt, hg, hs, ht⟩ := k.blk (by omega)
  rw [ha] at ha'
  cases ha'
  refine ⟨⟨by simp [k.len], .inr ⟨g, c, cur.setIfInBounds (0 + i * 1) u, by rw [ha], hb, setC_blk hg u, k.le, k.cap, by simpa using hs, ?_⟩⟩, by simp [k.len], k.le, k.cap⟩
  rw [← ht]
  simp [List.take_set]

/-- Its beginning. -/
theorem Ow.take {h : Heap} {base : Nat} {t : TypeId} {size : Nat} {oa : Option Addr} {n c : Nat} {xs : List Value} (k : Ow h base t size oa n c xs) {m : Nat} (hm : m ≤ n) (sz : Nat) :
    OwnH h base t size (.slice (partAddr oa 0 sz c) m c) m (xs.take (m * size)) := by
  have hp : partAddr oa 0 sz c = oa := by
    unfold partAddr
    split
    · rfl
    · cases oa <;> simp [Addr.add]
  rw [hp]
  refine ⟨by rw [List.length_take, k.len]; exact Nat.min_eq_left (Nat.mul_le_mul_right _ hm), ?_⟩
  rcases k.own.2 with ⟨hv, h0⟩ | ⟨g, cap, cur, hv, hb, hg, hnc, hc, hs, ht⟩
  · cases hv
    obtain rfl : m = 0 := by omega
    exact .inl ⟨rfl, rfl⟩
  · cases hv
    refine .inr ⟨g, c, cur, rfl, hb, hg, by omega, hc, hs, ?_⟩
    rw [← ht, List.take_take, Nat.min_eq_left (Nat.mul_le_mul_right _ hm)]

/-- A new row. -/
theorem OwnH.made (h : Heap) (us : List Value) (t : TypeId) (n : Nat) (hl : us.length = n) (hn : n ≤ maxLen) (base : Nat) (hb : base ≤ h.size) :
    OwnH (h.push (.cells us.toArray t)) base t 1 (.slice (some ⟨h.size, 0, none⟩) n n) n us :=
  ⟨by simp [hl], .inr ⟨h.size, n, us.toArray, rfl, hb, by simp, Nat.le_refl _, hn, by simp [hl], by simp [← hl]⟩⟩

theorem SlR.nil {α : Type} (e : Elt α) (h : Heap) (O : Nat → Prop) : SlR e h O (.slice none 0 0) [] :=
  ⟨none, 0, 0, rfl, rfl, Nat.le_refl _, by simp [maxLen], fun i x hx => by simp at hx⟩

theorem SlR.ext0 {α : Type} {e : Elt α} {h h' : Heap} {O : Nat → Prop} {v : Value} {xs : List α} (k : SlR e h O v xs) (x : Ext0 h h') : SlR e h' O v xs := k.mv (Mv.ext0 x)

theorem row_made (h : Heap) (us : List Value) (t : TypeId) : Lw.rowAt (h.push (.cells us.toArray t)) h.size 0 us := fun j v hv => by
  simpa [cellAt] using hv

theorem OwnH.lt {h : Heap} {base : Nat} {t : TypeId} {size : Nat} {v : Value} {n : Nat} {xs : List Value} (k : OwnH h base t size v n xs) {b : Nat} (hb : v.ownBlock = some b) : base ≤ b ∧ b < h.size := by
  rcases k.2 with ⟨rfl, _⟩ | ⟨g, cap, cur, rfl, hbg, hg, _⟩
  · simp [Value.ownBlock] at hb
  · simp [Value.ownBlock] at hb
    subst hb
    exact ⟨hbg, (Array.getElem?_eq_some_iff.1 hg).1⟩

/-- What an append onto a row of the call's own leaves of what was there before the call. -/
theorem Ext.own {h0 h h' : Heap} {base : Nat} {t : TypeId} {size : Nat} {v : Value} {n : Nat} {xs : List Value} (e0 : Ext0 h0 h) (k : OwnH h base t size v n xs) (hb : h0.size ≤ base) (e : Ext (but v.ownBlock) h h') : Ext0 h0 h' := by
  refine ⟨Nat.le_trans e0.size e.size, fun b hb' _ => ?_⟩
  rw [e.block b (Nat.lt_of_lt_of_le hb' e0.size) (fun hm => by have := (k.lt hm.symm).1; omega)]
  exact e0.block b hb' (fun k => k)

theorem Ext0.set {h0 h : Heap} (e : Ext0 h0 h) {a : Addr} (ha : h0.size ≤ a.block) (v : Value) : Ext0 h0 (setC h a v) :=
  ⟨by rw [setC_size]; exact e.size, fun b hb hm => by
    rw [(Ext.setC (M := fun i => i = a.block) h a v rfl).block b (Nat.lt_of_lt_of_le hb e.size) (by omega)]
    exact e.block b hb hm⟩

theorem Ext0.push {h0 h : Heap} (e : Ext0 h0 h) (o : Obj) : Ext0 h0 (h.push o) := e.trans (Ext.push _ _ _)

theorem Ext0.from {h0 h h' : Heap} (e : Ext0 h0 h) (k : Ext (fun b => h0.size ≤ b) h h') : Ext0 h0 h' :=
  ⟨Nat.le_trans e.size k.size, fun b hb hm => (k.block b (Nat.lt_of_lt_of_le hb e.size) (by omega)).trans (e.block b hb hm)⟩

/-! ### A slice whose cells lie in blocks from 'base' on, and may be written -/

structure Wr {α : Type} (enc : α → Value) (h1 : ∀ x, (enc x).oneCell' = true) (h : Heap) (base : Nat) (oa : Option Addr) (n c : Nat) (xs : List α) : Prop where
  sl : Sl (.flat enc h1) h (fun b => b < base) oa n c xs
  nf : ∀ b o i, oa = some ⟨b, o, none⟩ → i < n → frozenAt h ⟨b, o + i * 1, none⟩ = false

theorem Ow.wr {α : Type} {enc : α → Value} {h1 : ∀ x, (enc x).oneCell' = true} {h : Heap} {base : Nat} {t : TypeId} {oa : Option Addr} {n c : Nat} {xs : List α} (k : Ow h base t 1 oa n c (xs.map enc)) : Wr enc h1 h base oa n c xs := by
  obtain ⟨oa', n', c', hv, hs⟩ := (k.own.shut (h1 := h1) (O := fun b => b < base) (fun b hb => by omega)).open
  cases hv
  refine ⟨hs, fun b o i ha hi => ?_⟩
  obtain ⟨g, cur, ha', _, _, hg, _⟩ := k.blk (by omega)
  rw [ha] at ha'
  cases ha'
  simp [frozenAt, hg]

theorem Wr.part {α : Type} {enc : α → Value} {h1 : ∀ x, (enc x).oneCell' = true} {h : Heap} {base : Nat} {oa : Option Addr} {n c : Nat} {xs : List α} (k : Wr enc h1 h base oa n c xs) {i j : Nat} (hij : i ≤ j) (hj : j ≤ n) : Wr enc h1 h base (partAddr oa i 1 c) (j - i) (c - i) ((xs.take j).drop i) := by
  have hle := k.sl.le
  refine ⟨k.sl.part hij hj, fun b o m ha hm => ?_⟩
  unfold partAddr at ha
  rw [if_neg (by omega)] at ha
  obtain ⟨b', o', x, ha', _, _, _⟩ := k.sl.at (i := i) (by omega)
  rw [ha'] at ha
  simp [Addr.add_mid] at ha
  obtain ⟨rfl, rfl⟩ := ha
  have := k.nf b' o' (i + m) ha' (by omega)
  rwa [Nat.add_mul, ← Nat.add_assoc, Nat.mul_one i] at this

theorem cellAt_setC (h : Heap) (b o : Nat) (v u : Value) (o' : Nat) (hc : cellAt h ⟨b, o, none⟩ = some u) : cellAt (setC h ⟨b, o, none⟩ v) ⟨b, o', none⟩ = if o' = o then some v else cellAt h ⟨b, o', none⟩ := by
  unfold cellAt at *
  cases hb : h[b]? with
  | none => simp [hb] at hc
  | some obj =>
    cases obj <;> simp [hb] at hc
    rename_i cs e fr
    rw [setC_blk hb]
    simp only
    by_cases he : o' = o
    · subst he
      simp only [if_true]
      have hlt : o' < cs.size := (Array.getElem?_eq_some_iff.1 hc).1
      simp [Array.getElem?_setIfInBounds_self_of_lt hlt]
    · rw [if_neg he]
      simp [Array.getElem?_setIfInBounds_ne (Ne.symm he)]

theorem frozenAt_setC (h : Heap) (a : Addr) (v : Value) (p : Addr) : frozenAt (setC h a v) p = frozenAt h p := by
  unfold frozenAt setC
  rw [Array.getElem?_modify]
  by_cases hb : a.block = p.block
  · rw [if_pos hb]
    cases hx : h[p.block]? with
    | none => rfl
    | some obj => cases obj <;> rfl
  · rw [if_neg hb]

theorem Wr.set {α : Type} {enc : α → Value} {h1 : ∀ x, (enc x).oneCell' = true} {h : Heap} {base : Nat} {oa : Option Addr} {n c : Nat} {xs : List α} (k : Wr enc h1 h base oa n c xs) {b o i : Nat} (ha : oa = some ⟨b, o, none⟩) (hi : i < n) (x : α) :
    Wr enc h1 (setC h ⟨b, o + i * 1, none⟩ (enc x)) base oa n c (xs.set i x) := by
  obtain ⟨b0, o0, x0, ha0, hb0, hx0, hc0⟩ := k.sl.at hi
  rw [ha] at ha0
  cases ha0
  refine ⟨⟨by simp [k.sl.len], k.sl.le, k.sl.cap, fun j y hy => ?_⟩, fun b' o' j ha' hj => by rw [frozenAt_setC]; exact k.nf b' o' j ha' hj⟩
  have hjn : j < n := by
    rcases Nat.lt_or_ge j n with h2 | h2
    · exact h2
    · rw [List.getElem?_eq_none (by simp [k.sl.len]; exact h2)] at hy; cases hy
  obtain ⟨b1, o1, x1, ha1, hb1, hx1, hc1⟩ := k.sl.at hjn
  rw [ha] at ha1
  cases ha1
  refine ⟨b, o, [enc y], ha, hb0, fun m u hu => ?_, rfl⟩
  have hm0 : m = 0 := by cases m with | zero => rfl | succ m => simp at hu
  subst hm0
  simp at hu; subst hu
  show cellAt _ ⟨b, o + j * 1 + 0, none⟩ = _
  rw [Nat.add_zero, cellAt_setC _ _ _ _ _ _ hc0]
  by_cases hji : j = i
  · subst hji
    rw [if_pos rfl]
    rw [List.getElem?_set_self (by rw [k.sl.len]; exact hi)] at hy
    cases hy; rfl
  · rw [if_neg (by omega), hc1]
    rw [List.getElem?_set_ne (Ne.symm hji), hx1] at hy
    cases hy; rfl

end Go.Lw
