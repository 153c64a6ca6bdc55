/- What slices read as. -/
import Derived.Test.YtmbikkapabljfaaDoorLwMem
namespace Go.Lw

/-- From (O, h) to (O', h'): what was there, outside O, is as it was, and outside O'. -/
structure Mv (O O' : Nat → Prop) (h h' : Heap) : Prop where
  size : h.size ≤ h'.size
  block : ∀ b, b < h.size → ¬ O b → h'[b]? = h[b]? ∧ ¬ O' b

theorem Mv.refl (O : Nat → Prop) (h : Heap) : Mv O O h h := ⟨Nat.le_refl _, fun _ _ k => ⟨rfl, k⟩⟩
theorem Mv.trans {O O' O'' : Nat → Prop} {a b c : Heap} (m : Mv O O' a b) (k : Mv O' O'' b c) : Mv O O'' a c :=
  ⟨Nat.le_trans m.size k.size, fun i hi ho => by
    obtain ⟨h1, h2⟩ := m.block i hi ho
    obtain ⟨h3, h4⟩ := k.block i (Nat.lt_of_lt_of_le hi m.size) h2
    exact ⟨h3.trans h1, h4⟩⟩
theorem Mv.ofExt {M O O' : Nat → Prop} {h h' : Heap} (e : Ext M h h') (hm : ∀ b, b < h.size → ¬ O b → ¬ M b ∧ ¬ O' b) : Mv O O' h h' :=
  ⟨e.size, fun b hb ho => ⟨e.block b hb (hm b hb ho).1, (hm b hb ho).2⟩⟩
theorem Mv.ext0 {O : Nat → Prop} {h h' : Heap} (e : Ext0 h h') : Mv O O h h' := ⟨e.size, fun b hb ho => ⟨e.block b hb (fun k => k), ho⟩⟩
theorem Mv.cell {O O' : Nat → Prop} {h h' : Heap} (m : Mv O O' h h') {a : Addr} {v : Value} (ho : ¬ O a.block) (k : cellAt h a = some v) : cellAt h' a = some v := by
  have := (m.block a.block (lt_of_cellAt k) ho).1
  unfold cellAt at *
  rw [this]; exact k
theorem Mv.rowAt {O O' : Nat → Prop} {h h' : Heap} (m : Mv O O' h h') {b o : Nat} {cs : List Value} (ho : ¬ O b) (k : rowAt h b o cs) : rowAt h' b o cs := fun j v hv => m.cell ho (k j v hv)

theorem lt_of_rowAt {h : Heap} {b o : Nat} {cs : List Value} (k : rowAt h b o cs) (hne : cs ≠ []) : b < h.size := by
  cases cs with
  | nil => exact absurd rfl hne
  | cons v r => exact lt_of_cellAt (k 0 v rfl)

/-- How a type's cells read. -/
structure Elt (α : Type) where
  sz : Nat
  pos : 0 < sz
  R : Heap → (Nat → Prop) → List Value → α → Prop
  len : ∀ {h O cs x}, R h O cs x → cs.length = sz
  one : ∀ {h O cs x}, R h O cs x → ∀ v ∈ cs, v.oneCell' = true
  mv : ∀ {h O h' O' cs x}, R h O cs x → Mv O O' h h' → R h' O' cs x

def Elt.flat {α : Type} (enc : α → Value) (h1 : ∀ x, (enc x).oneCell' = true) : Elt α where
  sz := 1
  pos := Nat.one_pos
  R := fun _ _ cs x => cs = [enc x]
  len := fun h => by subst h; rfl
  one := fun h v hv => by subst h; simp at hv; subst hv; exact h1 _
  mv := fun h _ => h

def Elt.str : Elt ByteArray := .flat .string fun _ => rfl
def Elt.int (k : IntKind) : Elt Int := .flat (.int k) fun _ => rfl
def Elt.bool : Elt Bool := .flat .bool fun _ => rfl
def Elt.byte : Elt UInt8 := .flat (fun b => .int .u8 b.toNat) fun _ => rfl

def SlR {α : Type} (e : Elt α) (h : Heap) (O : Nat → Prop) (v : Value) (xs : List α) : Prop :=
  ∃ oa n c, v = .slice oa n c ∧ xs.length = n ∧ n ≤ c ∧ c ≤ maxLen ∧
    ∀ i x, xs[i]? = some x → ∃ b o cs, oa = some ⟨b, o, none⟩ ∧ ¬ O b ∧ rowAt h b (o + i * e.sz) cs ∧ e.R h O cs x

theorem SlR.mv {α : Type} {e : Elt α} {h h' : Heap} {O O' : Nat → Prop} {v : Value} {xs : List α} (k : SlR e h O v xs) (m : Mv O O' h h') : SlR e h' O' v xs := by
  obtain ⟨oa, n, c, hv, hl, hnc, hc, k⟩ := k
  refine ⟨oa, n, c, hv, hl, hnc, hc, fun i x hx => ?_⟩
  obtain ⟨b, o, cs, h1, h2, h3, h4⟩ := k i x hx
  have hne : cs ≠ [] := by intro e0; have := e.len h4; have := e.pos; subst e0; simp at *; omega
  exact ⟨b, o, cs, h1, (m.block b (lt_of_rowAt h3 hne) h2).2, m.rowAt h2 h3, e.mv h4 m⟩

/-- The opened form: what the walk wants of a slice. -/
structure Sl {α : Type} (e : Elt α) (h : Heap) (O : Nat → Prop) (oa : Option Addr) (n c : Nat) (xs : List α) : Prop where
  len : xs.length = n
  le : n ≤ c
  cap : c ≤ maxLen
  get : ∀ i x, xs[i]? = some x → ∃ b o cs, oa = some ⟨b, o, none⟩ ∧ ¬ O b ∧ rowAt h b (o + i * e.sz) cs ∧ e.R h O cs x

theorem SlR.open {α : Type} {e : Elt α} {h : Heap} {O : Nat → Prop} {v : Value} {xs : List α} (k : SlR e h O v xs) : ∃ oa n c, v = .slice oa n c ∧ Sl e h O oa n c xs := by
  obtain ⟨oa, n, c, hv, hl, hnc, hc, k⟩ := k
  exact ⟨oa, n, c, hv, hl, hnc, hc, k⟩

theorem Sl.shut {α : Type} {e : Elt α} {h : Heap} {O : Nat → Prop} {oa : Option Addr} {n c : Nat} {xs : List α} (k : Sl e h O oa n c xs) : SlR e h O (.slice oa n c) xs := ⟨oa, n, c, rfl, k.len, k.le, k.cap, k.get⟩

theorem Sl.mv {α : Type} {e : Elt α} {h h' : Heap} {O O' : Nat → Prop} {oa : Option Addr} {n c : Nat} {xs : List α} (k : Sl e h O oa n c xs) (m : Mv O O' h h') : Sl e h' O' oa n c xs := by
  obtain ⟨oa', n', c', hv, k'⟩ := (k.shut.mv m).open
  cases hv; exact k'

/-- An element of one cell. -/
theorem Sl.at {α : Type} {enc : α → Value} {h1 : ∀ x, (enc x).oneCell' = true} {h : Heap} {O : Nat → Prop} {oa : Option Addr} {n c : Nat} {xs : List α} (k : Sl (.flat enc h1) h O oa n c xs) {i : Nat} (hi : i < n) :
    ∃ b o x, oa = some ⟨b, o, none⟩ ∧ ¬ O b ∧ xs[i]? = some x ∧ cellAt h ⟨b, o + i * 1, none⟩ = some (enc x) := by
  have hl : i < xs.length := by rw [k.len]; exact hi
  obtain ⟨b, o, cs, ha, ho, hr, hR⟩ := k.get i xs[i] (List.getElem?_eq_getElem hl)
  refine ⟨b, o, xs[i], ha, ho, List.getElem?_eq_getElem hl, ?_⟩
  have hcs : cs = [enc xs[i]] := hR
  subst hcs
  have := hr 0 _ rfl
  simpa [Elt.flat] using this

theorem OwnH.shut {α : Type} {enc : α → Value} {h1 : ∀ x, (enc x).oneCell' = true} {h : Heap} {base : Nat} {O : Nat → Prop} {t : TypeId} {v : Value} {n : Nat} {xs : List α} (k : OwnH h base t 1 v n (xs.map enc)) (ho : ∀ b, base ≤ b → ¬ O b) : SlR (.flat enc h1) h O v xs := by
  have hl : xs.length = n := by have := k.1; simpa using this
  rcases k.2 with ⟨rfl, rfl⟩ | ⟨g, cap, cur, rfl, hb, hg, hnc, hc, hs, ht⟩
  · exact ⟨none, 0, 0, rfl, hl, Nat.le_refl _, by simp [maxLen], fun i x hx => by
      have : xs = [] := List.eq_nil_of_length_eq_zero hl
      subst this; simp at hx⟩
  · refine ⟨some ⟨g, 0, none⟩, n, cap, rfl, hl, hnc, hc, fun i x hx => ⟨g, 0, [enc x], rfl, ho g hb, ?_, rfl⟩⟩
    intro j u hj
    have hj0 : j = 0 := by cases j with | zero => rfl | succ j => simp at hj
    subst hj0
    simp at hj; subst hj
    have hi : i < n := by
      rcases Nat.lt_or_ge i n with h | h
      · exact h
      · rw [List.getElem?_eq_none (by omega)] at hx; cases hx
    have h2 : (cur.toList.take (n * 1))[i]? = some (enc x) := by rw [ht]; simp [hx]
    rw [List.getElem?_take, if_pos (by omega)] at h2
    simpa [cellAt, hg, Elt.flat] using h2

end Go.Lw
