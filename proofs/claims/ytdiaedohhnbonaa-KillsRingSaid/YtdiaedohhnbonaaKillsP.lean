/- Plain facts on the ring. -/
import Derived.Test.YtdiaedohhnbonaaKills2
namespace Go.Proofs.Ytdiaedohhnbonaa
open Go Go.Lw

theorem size_append (x y : ByteArray) : (x ++ y).size = x.size + y.size := ByteArray.size_append

theorem size_pos_of_ne {x : ByteArray} (h : x ≠ noText) : 0 < x.size := by
  rcases Nat.eq_zero_or_pos x.size with h0 | h0
  · exfalso
    apply h
    obtain ⟨d⟩ := x
    have : d.size = 0 := h0
    have hd : d = #[] := Array.eq_empty_of_size_eq_zero this
    subst hd; rfl
  · exact h0

theorem ne_of_size_pos {x : ByteArray} (h : 0 < x.size) : x ≠ noText := by
  rintro rfl; exact absurd h (by decide)

theorem add_cases (l : List ByteArray) (s : ByteArray) (way : Int) :
    (s = noText ∧ add l s way = l) ∨ (s ≠ noText ∧ ((∃ x r y, l = x :: r ∧ way ≠ 0 ∧ (y = x ++ s ∨ y = s ++ x) ∧ add l s way = (y :: r).take 10) ∨ ((l = [] ∨ way = 0) ∧ add l s way = (s :: l).take 10))) := by
  unfold add
  by_cases hs : s = noText
  · exact .inl ⟨hs, if_pos hs⟩
  · refine .inr ⟨hs, ?_⟩
    rw [if_neg hs]
    cases l with
    | nil => exact .inr ⟨.inl rfl, rfl⟩
    | cons x r =>
      simp only
      by_cases h1 : 0 < way
      · rw [if_pos h1]; exact .inl ⟨x, r, _, rfl, by omega, .inl rfl, rfl⟩
      · rw [if_neg h1]
        by_cases h2 : way < 0
        · rw [if_pos h2]; exact .inl ⟨x, r, _, rfl, by omega, .inr rfl, rfl⟩
        · rw [if_neg h2]; exact .inr ⟨.inr (by omega), rfl⟩

theorem add_ring {l : List ByteArray} {s : ByteArray} {way : Int} {m : Nat} (h10 : l.length ≤ 10) (hne : ∀ x ∈ l, x ≠ noText ∧ x.size ≤ m) (hs : s.size ≤ 500) :
    (add l s way).length ≤ 10 ∧ l.length ≤ (add l s way).length ∧ (way ≠ 0 → 0 < l.length → (add l s way).length = l.length) ∧
      (way = 0 → s ≠ noText → ∃ r, add l s way = s :: r) ∧ ∀ x ∈ add l s way, x ≠ noText ∧ x.size ≤ m + 500 := by
  rcases add_cases l s way with ⟨rfl, h⟩ | ⟨hsn, ⟨x, r, y, rfl, hw, hy, h⟩ | ⟨hlw, h⟩⟩
  · rw [h]
    exact ⟨h10, Nat.le_refl _, fun _ _ => rfl, fun _ h => absurd rfl h, fun x hx => ⟨(hne x hx).1, by have := (hne x hx).2; omega⟩⟩
  · have h10' : (y :: r).length ≤ 10 := by simpa using h10
    rw [h, List.take_of_length_le h10']
    refine ⟨h10', by simp, fun _ _ => by simp, fun h0 _ => absurd h0 hw, fun z hz => ?_⟩
    rcases List.mem_cons.1 hz with rfl | hz
    · have hx := hne x (by simp)
      have hsz : z.size = x.size + s.size := by rcases hy with rfl | rfl <;> rw [size_append]; omega
      exact ⟨ne_of_size_pos (by have := size_pos_of_ne hx.1; omega), by have := hx.2; omega⟩
    · exact ⟨(hne z (by simp [hz])).1, by have := (hne z (by simp [hz])).2; omega⟩
  · rw [h]
    refine ⟨by simp; omega, by simp; omega, fun hw hl => ?_, fun _ _ => ⟨l.take 9, by simp⟩, fun z hz => ?_⟩
    · rcases hlw with rfl | rfl
      · simp at hl
      · exact absurd rfl hw
    · have hz' := List.mem_of_mem_take hz
      rcases List.mem_cons.1 hz' with rfl | hz'
      · exact ⟨hsn, by omega⟩
      · exact ⟨(hne z hz').1, by have := (hne z hz').2; omega⟩

theorem turn_rot (r : List ByteArray) (i : Nat) (h : i < r.length) : turn (r.drop i ++ r.take i) = r.drop (i + 1) ++ r.take (i + 1) := by
  have h1 : r.drop i = r[i] :: r.drop (i + 1) := List.drop_eq_getElem_cons h
  rw [h1]
  simp only [List.cons_append, turn]
  rw [List.take_add_one, List.getElem?_eq_getElem h]
  simp

end Go.Proofs.Ytdiaedohhnbonaa
