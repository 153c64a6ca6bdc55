/- Plain words, the logic of walks, and walks that the statement's proof leans on (part 14). -/
import Derived.Test.YtlegopbpofofgaaDoorQa
import Derived.Test.YtlegopbpofofgaaDoorQb
import Derived.Test.YtlegopbpofofgaaDoorQc
import Derived.Test.YtlegopbpofofgaaDoorQd
import Derived.Test.YtlegopbpofofgaaDoorQe
import Derived.Test.YtlegopbpofofgaaDoorQf
import Derived.Test.YtlegopbpofofgaaDoorQg
import Derived.Test.YtlegopbpofofgaaDoorQh
import Derived.Test.YtlegopbpofofgaaDoorQi
import Derived.Test.YtlegopbpofofgaaDoorQj
import Derived.Test.YtlegopbpofofgaaDoorQk
import Derived.Test.YtlegopbpofofgaaDoorQl
import Derived.Test.YtlegopbpofofgaaDoorQm

/- What Make makes is good, small, and takes the rules' texts; what a match is. -/
namespace Go.Proofs.YtlegopbpofofgaaDoor

/-! ### Where states lead, and how many there are -/

def totS (ss : List Ste) : Nat := (ss.map fun x => x.to.length + 1).sum

theorem totS_append (a b : List Ste) : totS (a ++ b) = totS a + totS b := by simp [totS]
theorem totS_set : ∀ (ss : List Ste) (i : Nat) (y x : Ste), ss[i]? = some y → totS (ss.set i x) + y.to.length = totS ss + x.to.length
  | [], i, y, x, h => by simp at h
  | z :: r, 0, y, x, h => by simp at h; subst h; simp [totS]; omega
  | z :: r, i + 1, y, x, h => by have := totS_set r i y x (by simpa using h); simp [totS] at *; omega
theorem pot_le : ∀ (ss : List Ste) (seen : List Bool), pot ss seen ≤ totS ss
  | [], _ => by simp [pot]
  | x :: r, [] => by simp [pot]
  | x :: r, b :: s => by
    have := pot_le r s
    simp only [pot, totS, List.map_cons, List.sum_cons] at *
    split <;> omega

mutual
theorem lay_tot : ∀ (x : Nd) (ss : List Ste) (to : Nat), totS (lay x ss to).1 + 1 ≤ totS ss + 4 * szN x
  | .mk k s kids, ss, to => by
    rw [lay]
    simp only [szN]
    split
    · rw [totS_append]; simp [totS]; omega
    · split
      · have := layCat_tot kids ss to; omega
      · split
        · have := layAlt_tot kids ss to; have hl := layAlt_len2 kids ss to
          simp only [totS_append]; simp [totS] at *; omega
        · split
          · have := layOne_tot kids ss to; simp only [totS_append]; simp [totS] at *; omega
          · split
            · have := layOne_tot kids (ss ++ [⟨0, 0, [], 0⟩]) ss.length
              have h2 := totS_set (layOne kids (ss ++ [⟨0, 0, [], 0⟩]) ss.length).1 ss.length ⟨0, 0, [], 0⟩ ⟨0, 0, [(layOne kids (ss ++ [⟨0, 0, [], 0⟩]) ss.length).2, to], 0⟩ (by rw [layOne_pre kids _ _ _ (by simp)]; simp)
              rw [totS_append] at this
              simp [totS] at *; omega
            · simp; omega
theorem layCat_tot : ∀ (l : List Nd) (ss : List Ste) (to : Nat), totS (layCat l ss to).1 ≤ totS ss + 4 * szL l
  | [], ss, to => by simp [layCat]
  | x :: r, ss, to => by
    rw [layCat]
    have h1 := layCat_tot r ss to
    have h2 := lay_tot x (layCat r ss to).1 (layCat r ss to).2
    simp only [szL]; omega
theorem layAlt_tot : ∀ (l : List Nd) (ss : List Ste) (to : Nat), totS (layAlt l ss to).1 + l.length ≤ totS ss + 4 * szL l
  | [], ss, to => by simp [layAlt]
  | x :: r, ss, to => by
    rw [layAlt]
    have h1 := lay_tot x ss to
    have h2 := layAlt_tot r (lay x ss to).1 to
    simp only [szL, List.length_cons]; omega
theorem layOne_tot : ∀ (l : List Nd) (ss : List Ste) (to : Nat), totS (layOne l ss to).1 ≤ totS ss + 4 * szL l
  | [], ss, to => by simp [layOne]
  | x :: r, ss, to => by
    rw [layOne]
    have h1 := lay_tot x ss to
    simp only [szL]; omega
end

theorem Good.append {a b : List Ste} (ha : Good a) (hb : ∀ x ∈ b, ∀ j ∈ x.to, j < (a ++ b).length) : Good (a ++ b) := fun x hx j hj => by
  rcases List.mem_append.1 hx with h | h
  · have := ha x h j hj; simp; omega
  · exact hb x h j hj
theorem Good.set {a : List Ste} (ha : Good a) {i : Nat} {y : Ste} (hy : ∀ j ∈ y.to, j < a.length) : Good (a.set i y) := fun x hx j hj => by
  rw [List.length_set]
  rcases List.mem_or_eq_of_mem_set hx with h | rfl
  · exact ha x h j hj
  · exact hy j hj

mutual
theorem lay_good : ∀ (x : Nd) (ss : List Ste) (to : Nat), Good ss → to < ss.length → Good (lay x ss to).1 ∧ (lay x ss to).2 < (lay x ss to).1.length
  | .mk k s kids, ss, to, hg, ht => by
    rw [lay]
    split
    · exact ⟨hg.append (by intro x hx j hj; simp at hx; subst hx; simp at hj; subst hj; simp; omega), by simp⟩
    · split
      · exact layCat_good kids ss to hg ht
      · split
        · have h := layAlt_good kids ss to hg ht
          exact ⟨h.1.append (by intro x hx j hj; simp at hx; subst hx; have := h.2 j hj; simp; omega), by simp⟩
        · split
          · have h := layOne_good kids ss to hg ht
            have hl := layOne_len kids ss to
            exact ⟨h.1.append (by intro x hx j hj; simp at hx; subst hx; simp at hj; simp; rcases hj with rfl | rfl <;> omega), by simp⟩
          · split
            · have h := layOne_good kids (ss ++ [⟨0, 0, [], 0⟩]) ss.length (hg.append (by intro x hx j hj; simp at hx; subst hx; cases hj)) (by simp)
              have hl := layOne_len kids (ss ++ [⟨0, 0, [], 0⟩]) ss.length
              simp only [List.length_append, List.length_singleton] at hl
              refine ⟨h.1.set (by intro j hj; simp at hj; rcases hj with rfl | rfl; exact h.2; omega), ?_⟩
              simp only [List.length_set]
              split
              · exact h.2
              · omega
            · exact ⟨hg, ht⟩
theorem layCat_good : ∀ (l : List Nd) (ss : List Ste) (to : Nat), Good ss → to < ss.length → Good (layCat l ss to).1 ∧ (layCat l ss to).2 < (layCat l ss to).1.length
  | [], ss, to, hg, ht => by rw [layCat]; exact ⟨hg, ht⟩
  | x :: r, ss, to, hg, ht => by
    rw [layCat]
    have h1 := layCat_good r ss to hg ht
    exact lay_good x _ _ h1.1 h1.2
theorem layAlt_good : ∀ (l : List Nd) (ss : List Ste) (to : Nat), Good ss → to < ss.length → Good (layAlt l ss to).1 ∧ ∀ j ∈ (layAlt l ss to).2, j < (layAlt l ss to).1.length
  | [], ss, to, hg, ht => by rw [layAlt]; exact ⟨hg, fun j hj => by cases hj⟩
  | x :: r, ss, to, hg, ht => by
    rw [layAlt]
    have h1 := lay_good x ss to hg ht
    have hl := lay_len x ss to
    have h2 := layAlt_good r (lay x ss to).1 to h1.1 (by omega)
    have hl2 := layAlt_len r (lay x ss to).1 to
    refine ⟨h2.1, fun j hj => ?_⟩
    rcases List.mem_cons.1 hj with rfl | hj
    · simp only; omega
    · exact h2.2 j hj
theorem layOne_good : ∀ (l : List Nd) (ss : List Ste) (to : Nat), Good ss → to < ss.length → Good (layOne l ss to).1 ∧ (layOne l ss to).2 < (layOne l ss to).1.length
  | [], ss, to, hg, ht => by rw [layOne]; exact ⟨hg, ht⟩
  | x :: r, ss, to, hg, ht => by rw [layOne]; exact lay_good x ss to hg ht
end

/-! ### Make -/

structure MadeG (i : Nat) (rules : List By) (ss : List Ste) (t : List Nat) (ss' : List Ste) (t' : List Nat) : Prop where
  pre : ∀ j, j < ss.length → ss'[j]? = ss[j]?
  len : ss.length ≤ ss'.length ∧ ss'.length ≤ ss.length + 402 * rules.length
  tot : totS ss' ≤ totS ss + 1605 * rules.length
  good : Good ss → (∀ j ∈ t, j < ss.length) → Good ss' ∧ ∀ j ∈ t', j < ss'.length
  starts : ∃ t2, t' = t ++ t2 ∧ t2.length = rules.length ∧ ∀ k s, rules[k]? = some s → (parseE s).2 = 0 ∧ ∃ a b, t2[k]? = some b ∧ ss.length ≤ a ∧ ss'[a]? = some ⟨2, 0, [], i + k⟩ ∧ ∀ F fin, Same F ss' ss.length → FinOk F fin → Splits F fin b a (Lng (parseE s).1)

theorem makeG_made : ∀ (rules : List By) (i : Nat) (ss : List Ste) (t : List Nat) (ss' : List Ste) (t' : List Nat), makeG i rules ss t = .inr (ss', t') → MadeG i rules ss t ss' t'
  | [], i, ss, t, ss', t', h => by
    rw [makeG] at h; cases h
    exact ⟨fun _ _ => rfl, by simp, by simp, fun a b => ⟨a, b⟩, [], by simp, rfl, fun k s h => by simp at h⟩
  | s :: r, i, ss, t, ss', t', h => by
    rw [makeG] at h
    split at h
    · cases h
    · rename_i he
      have he : (parseE s).2 = 0 := by simpa using he
      have hsm := parseE_small he
      have ih := makeG_made r _ _ _ _ _ h
      have hpre := lay_pre (parseE s).1 (ss ++ [⟨2, 0, [], i⟩]) ss.length
      have hlen := lay_len (parseE s).1 (ss ++ [⟨2, 0, [], i⟩]) ss.length
      have htot := lay_tot (parseE s).1 (ss ++ [⟨2, 0, [], i⟩]) ss.length
      simp only [List.length_append, List.length_singleton, totS_append] at hpre hlen htot
      have hL : totS [(⟨2, 0, [], i⟩ : Ste)] = 1 := by simp [totS]
      generalize hly : lay (parseE s).1 (ss ++ [⟨2, 0, [], i⟩]) ss.length = ly at *
      obtain ⟨t2, ht2, htl, hst⟩ := ih.starts
      refine ⟨fun j hj => ?_, ⟨?_, ?_⟩, ?_, fun hg ht => ?_, ly.2 :: t2, by simp [ht2], by simp [htl], fun k s' hk => ?_⟩
      · rw [ih.pre j (by omega), hpre j (by omega), List.getElem?_append_left hj]
      · have := ih.len.1; omega
      · have := ih.len.2; simp only [List.length_cons]; omega
      · have := ih.tot; simp only [List.length_cons]; omega
      · have hgl := lay_good (parseE s).1 (ss ++ [⟨2, 0, [], i⟩]) ss.length (hg.append (by intro x hx j hj; simp at hx; subst hx; cases hj)) (by simp)
        rw [hly] at hgl
        exact ih.good hgl.1 (fun j hj => by
          rcases List.mem_append.1 hj with h1 | h1
          · have := ht j h1; omega
          · have : j = ly.2 := by simpa using h1
            rw [this]; exact hgl.2)
      · cases k with
        | zero =>
          simp at hk; subst hk
          refine ⟨he, ss.length, ly.2, rfl, Nat.le_refl _, ?_, fun F fin hS hF => ?_⟩
          · rw [ih.pre _ (by omega), hpre _ (by omega)]; simp
          · have := lay_splits hF (parseE s).1 (ss ++ [⟨2, 0, [], i⟩]) ss.length (fun j h1 h2 => by
              rw [hly] at h2 ⊢
              simp only [List.length_append, List.length_singleton] at h1
              rw [hS j (by omega) (by have := ih.len.1; omega)]
              exact ih.pre j h2)
            rwa [hly] at this
        | succ k =>
          obtain ⟨h0, a, b, hb, hla, ha, hsp⟩ := hst k s' (by simpa using hk)
          exact ⟨h0, a, b, by simpa using hb, by omega, by rw [ha]; simp; omega, fun F fin hS hF => hsp F fin (fun j h1 h2 => hS j (by omega) h2) hF⟩

/-- What Make makes. -/
structure Made (rules : List By) (ss : List Ste) (st : Nat) : Prop where
  good : Good ss
  stl : st < ss.length
  len : ss.length ≤ 30000
  tot : totS ss ≤ 110000
  num : rules.length ≤ 64
  lng : ∀ r w, (∃ n, Acc ss (finR ss r) n st w) ↔ ∃ s, rules[r]? = some s ∧ Lng (parseE s).1 w

theorem makeP_made {rules : List By} {ss : List Ste} {st : Nat} (h : makeP rules = .inr (ss, st)) : Made rules ss st := by
  unfold makeP at h
  split at h
  · cases h
  · rename_i hn
    split at h
    · cases h
    · rename_i ss0 t hm
      split at h
      · cases h
      · cases h
        have k := makeG_made _ _ _ _ _ _ hm
        obtain ⟨t2, ht2, htl, hst⟩ := k.starts
        have ht : t = t2 := by simpa using ht2
        subst ht
        have hl := k.len.2
        have htot := k.tot
        have hgd := k.good (by intro x hx; cases hx) (by intro j hj; cases hj)
        simp only [List.length_nil] at hl
        have h0 : totS ([] : List Ste) = 0 := rfl
        have hF : (ss0 ++ [⟨0, 0, t, 0⟩])[ss0.length]? = some ⟨0, 0, t, 0⟩ := by simp
        have hS : Same (ss0 ++ [⟨0, 0, t, 0⟩]) ss0 ([] : List Ste).length := fun i _ h2 => List.getElem?_append_left h2
        refine ⟨hgd.1.append (by intro x hx j hj; simp at hx; subst hx; have := hgd.2 j hj; simp; omega), by simp, by simp; omega, ?_, by omega, fun r w => ?_⟩
        · have hq : totS [(⟨0, 0, t, 0⟩ : Ste)] = t.length + 1 := by simp [totS]
          rw [totS_append, hq]; omega
        · constructor
          · rintro ⟨n, hw⟩
            obtain ⟨m, q', _, hq, hw'⟩ := hw.fork (finR_ok _ r) hF rfl
            obtain ⟨k', hk'⟩ := List.getElem?_of_mem hq
            have hkl : k' < t.length := (List.getElem?_eq_some_iff.1 hk').1
            obtain ⟨s, hs⟩ : ∃ s, rules[k']? = some s := ⟨_, List.getElem?_eq_getElem (by omega)⟩
            obtain ⟨_, a, b, hb, _, ha, hsp⟩ := hst k' s hs
            rw [hk'] at hb; cases hb
            obtain ⟨u, v, m', rfl, hu, _, hv⟩ := (hsp _ _ hS (finR_ok _ r)).1 _ _ hw'
            have ha' : (ss0 ++ [(⟨0, 0, t, 0⟩ : Ste)])[a]? = some ⟨2, 0, [], 0 + k'⟩ := by rw [hS a (Nat.zero_le _) (List.getElem?_eq_some_iff.1 ha).1, ha]
            cases hv with
            | done hfin =>
              obtain ⟨x, hx, _, hr⟩ := hfin
              rw [ha'] at hx; cases hx
              simp only [Nat.zero_add] at hr
              subst hr
              exact ⟨s, hs, by rw [List.append_nil]; exact hu⟩
            | eps hx hk _ _ => rw [ha'] at hx; cases hx; cases hk
            | eat hx hk _ _ _ => rw [ha'] at hx; cases hx; cases hk
          · rintro ⟨s, hs, hw⟩
            obtain ⟨_, a, b, hb, _, ha, hsp⟩ := hst r s hs
            have ha' : (ss0 ++ [(⟨0, 0, t, 0⟩ : Ste)])[a]? = some ⟨2, 0, [], 0 + r⟩ := by rw [hS a (Nat.zero_le _) (List.getElem?_eq_some_iff.1 ha).1, ha]
            obtain ⟨n, hn⟩ := (hsp _ _ hS (finR_ok _ r)).2 w [] 0 hw (.done ⟨_, ha', rfl, by simp⟩)
            rw [List.append_nil] at hn
            exact ⟨n + 1, .eps (q' := b) hF rfl (show b ∈ t from List.mem_of_getElem? hb) hn⟩

theorem sub_sum {f : Nat → Nat} : ∀ {a b : List Nat}, a.Sublist b → (a.map f).sum ≤ (b.map f).sum
  | _, _, .slnil => by simp
  | _, _, .cons _ h => by have := sub_sum (f := f) h; simp; omega
  | _, _, .cons_cons _ h => by have := sub_sum (f := f) h; simp; omega
theorem len_tot : ∀ ss : List Ste, (ss.map fun x => x.to.length).sum ≤ totS ss
  | [] => by simp [totS]
  | x :: r => by have := len_tot r; simp [totS] at *; omega
theorem range_sum (ss : List Ste) : ((List.range ss.length).map fun i => match ss[i]? with | some x => x.to.length | none => 0).sum ≤ totS ss := by
  have : ((List.range ss.length).map fun i => match ss[i]? with | some x => x.to.length | none => 0) = ss.map fun x => x.to.length := by
    apply List.ext_getElem
    · simp
    · intro i h1 h2; simp at h2; simp [h2]
  rw [this]
  exact len_tot ss
theorem stepG_sum (ss : List Ste) (c : UInt8) : ∀ (l a : List Nat), (stepG ss c l a).length ≤ a.length + (l.map fun i => match ss[i]? with | some x => x.to.length | none => 0).sum
  | [], a => by simp [stepG]
  | j :: r, a => by
    rw [stepG]
    refine Nat.le_trans (stepG_sum ss c r _) ?_
    simp only [List.map_cons, List.sum_cons]
    cases ss[j]? with
    | none => simp
    | some x => simp only; split <;> simp <;> omega
theorem stepG_tot {ss : List Ste} (c : UInt8) {now : List Nat} (h : now.Sublist (List.range ss.length)) : (stepG ss c now []).length ≤ totS ss := by
  have h1 := stepG_sum ss c now []
  have h2 := sub_sum (f := fun i => match ss[i]? with | some x => x.to.length | none => 0) h
  have h3 := range_sum ss
  simp only [List.length_nil] at h1
  omega

/-! ### Matches -/

/-- The longest, of the least rule: P k r tells whether rule r takes k bytes. -/
def IsMatch (P : Nat → Nat → Prop) (n : Nat) (o : Int × Int) : Prop :=
  (o = (0, -1) ∧ ∀ k r, k ≤ n → ¬ P k r) ∨ ∃ k r : Nat, o = ((k : Int), (r : Int)) ∧ k ≤ n ∧ P k r ∧ (∀ k' r', k' ≤ n → P k' r' → k' ≤ k) ∧ ∀ r', P k r' → r ≤ r'

theorem IsMatch.uniq {P Q : Nat → Nat → Prop} {n : Nat} {a b : Int × Int} (ha : IsMatch P n a) (hb : IsMatch Q n b) (h : ∀ k r, k ≤ n → (P k r ↔ Q k r)) : a = b := by
  rcases ha with ⟨rfl, h1⟩ | ⟨k, r, rfl, hk, hp, h1, h2⟩ <;> rcases hb with ⟨rfl, h3⟩ | ⟨k', r', rfl, hk', hp', h3, h4⟩
  · rfl
  · exact absurd ((h _ _ hk').2 hp') (h1 _ _ hk')
  · exact absurd ((h _ _ hk).1 hp) (h3 _ _ hk)
  · have e1 := h1 _ _ hk' ((h _ _ hk').2 hp')
    have e2 := h3 _ _ hk ((h _ _ hk).1 hp)
    have e : k = k' := by omega
    subst e
    have e3 := h2 _ ((h _ _ hk).2 hp')
    have e4 := h4 _ ((h _ _ hk).1 hp)
    have e : r = r' := by omega
    subst e; rfl

def bestP (ac : Nat → Int) : Nat → Nat → Int × Int → Int × Int
  | 0, k, b => if 0 ≤ ac k then ((k : Int), ac k) else b
  | n + 1, k, b => bestP ac n (k + 1) (if 0 ≤ ac k then ((k : Int), ac k) else b)

/-- The best of places ahead of one. -/
def IsBest (P : Nat → Nat → Prop) (m : Nat) (o : Int × Int) : Prop :=
  (o = (0, -1) ∧ ∀ k r, k < m → ¬ P k r) ∨ ∃ k r : Nat, o = ((k : Int), (r : Int)) ∧ k < m ∧ P k r ∧ (∀ k' r', k' < m → P k' r' → k' ≤ k) ∧ ∀ r', P k r' → r ≤ r'
theorem IsBest.next {P : Nat → Nat → Prop} {m : Nat} {o : Int × Int} {a : Int} (h : IsBest P m o) (ha : LeastI (P m) a) : IsBest P (m + 1) (if 0 ≤ a then ((m : Int), a) else o) := by
  rcases ha with ⟨rfl, h1⟩ | ⟨r, rfl, h1, h2⟩
  · rw [if_neg (by decide)]
    rcases h with ⟨rfl, h3⟩ | ⟨k, r, rfl, hk, hp, h3, h4⟩
    · exact .inl ⟨rfl, fun k r hk hp => by
        by_cases e : k = m
        · subst e; exact h1 _ hp
        · exact h3 k r (by omega) hp⟩
    · exact .inr ⟨k, r, rfl, by omega, hp, fun k' r' hk' hp' => by
        by_cases e : k' = m
        · subst e; exact absurd hp' (h1 _)
        · exact h3 k' r' (by omega) hp', h4⟩
  · rw [if_pos (by omega)]
    exact .inr ⟨m, r, rfl, by omega, h1, fun k' r' hk' _ => by omega, h2⟩
theorem bestP_best {P : Nat → Nat → Prop} {ac : Nat → Int} : ∀ (n k : Nat) (b : Int × Int), IsBest P k b → (∀ j, k ≤ j → j ≤ k + n → LeastI (P j) (ac j)) → IsBest P (k + n + 1) (bestP ac n k b)
  | 0, k, b, h, ha => by rw [bestP]; exact h.next (ha k (Nat.le_refl _) (by omega))
  | n + 1, k, b, h, ha => by
    rw [bestP]
    have := bestP_best n (k + 1) _ (h.next (ha k (Nat.le_refl _) (by omega))) (fun j h1 h2 => ha j (by omega) (by omega))
    rwa [show k + (n + 1) + 1 = k + 1 + n + 1 by omega]
theorem IsBest.match {P : Nat → Nat → Prop} {n : Nat} {o : Int × Int} (h : IsBest P (n + 1) o) : IsMatch P n o := by
  rcases h with ⟨rfl, h1⟩ | ⟨k, r, rfl, hk, hp, h1, h2⟩
  · exact .inl ⟨rfl, fun k r hk => h1 k r (by omega)⟩
  · exact .inr ⟨k, r, rfl, by omega, hp, fun k' r' hk' => h1 k' r' (by omega), h2⟩

theorem stepP_nil (ss : List Ste) (c : UInt8) : stepP ss c [] = [] := by simp [stepP, stepG, closed]
theorem runP_append (ss : List Ste) (st : Nat) (a b : By) : runP ss st (a ++ b) = b.foldl (fun T c => stepP ss c T) (runP ss st a) := by simp [runP, List.foldl_append]
theorem run_nil (ss : List Ste) : ∀ w : By, w.foldl (fun T c => stepP ss c T) ([] : List Nat) = []
  | [] => rfl
  | c :: w => by rw [List.foldl_cons, stepP_nil, run_nil ss w]

theorem bestP_none {ac : Nat → Int} : ∀ (n k : Nat) (b : Int × Int), (∀ j, k ≤ j → j ≤ k + n → ac j < 0) → bestP ac n k b = b
  | 0, k, b, h => by rw [bestP, if_neg (by have := h k (Nat.le_refl _) (by omega); omega)]
  | n + 1, k, b, h => by
    rw [bestP, if_neg (by have := h k (Nat.le_refl _) (by omega); omega)]
    exact bestP_none n (k + 1) b (fun j h1 h2 => h j (by omega) (by omega))

theorem matchG_best {ss : List Ste} {st : Nat} : ∀ (l a : By) (b : Int × Int), matchG ss l (runP ss st a) a.length b = bestP (fun k => acceptsP ss (runP ss st ((a ++ l).take k))) l.length a.length b := by
  have none_ : ∀ (l a : By) (b : Int × Int), runP ss st a = [] → matchG ss l (runP ss st a) a.length b = bestP (fun k => acceptsP ss (runP ss st ((a ++ l).take k))) l.length a.length b := by
    intro l a b h
    rw [matchG_nil (by rw [h]; rfl), bestP_none]
    intro j h1 h2
    have : (a ++ l).take j = a ++ l.take (j - a.length) := by rw [List.take_append, List.take_of_length_le h1]
    rw [this, runP_append, h, run_nil]
    unfold acceptsP
    split
    · decide
    · simp [accG]
  intro l
  induction l with
  | nil =>
    intro a b
    by_cases h : runP ss st a = []
    · exact none_ [] a b h
    · rw [matchG, if_neg (by simpa using h), List.length_nil, bestP]
      simp
  | cons c r ih =>
    intro a b
    by_cases h : runP ss st a = []
    · exact none_ (c :: r) a b h
    · rw [matchG, if_neg (by simpa using h)]
      simp only [List.length_cons, bestP]
      have h1 := ih (a ++ [c]) (if 0 ≤ acceptsP ss (runP ss st a) then ((a.length : Int), acceptsP ss (runP ss st a)) else b)
      rw [runP_append] at h1
      simp only [List.foldl_cons, List.foldl_nil, List.length_append, List.length_singleton, List.append_assoc, List.singleton_append] at h1
      rw [h1]
      have e : (a ++ c :: r).take a.length = a := by simp
      rw [e]

/-- What Match tells: the longest beginning that is a text of a rule, and the first such rule. -/
theorem matchP_spec {rules : List By} {ss : List Ste} {st : Nat} (k : Made rules ss st) (l : By) : IsMatch (fun n r => ∃ s, rules[r]? = some s ∧ Lng (parseE s).1 (l.take n)) l.length (matchP ss st l) := by
  have hst := k.stl
  unfold matchP
  rw [if_neg (by omega)]
  have h := matchG_best (ss := ss) (st := st) l [] (0, -1)
  have e : runP ss st [] = startP ss st := rfl
  rw [e] at h
  simp only [List.length_nil, List.nil_append] at h
  rw [h]
  have := bestP_best (P := fun n r => ∃ s, rules[r]? = some s ∧ Lng (parseE s).1 (l.take n)) (ac := fun k => acceptsP ss (runP ss st (l.take k))) l.length 0 (0, -1) (.inl ⟨rfl, fun k r hk => by omega⟩) (fun j _ _ => by
    have h1 := accepts_least k.good k.stl (l.take j)
    have e : (fun r => ∃ n, Acc ss (finR ss r) n st (l.take j)) = (fun r => ∃ s, rules[r]? = some s ∧ Lng (parseE s).1 (l.take j)) := by
      funext r; exact propext (k.lng r _)
    rw [e] at h1
    exact h1)
  rw [Nat.zero_add] at this
  exact this.match

end Go.Proofs.YtlegopbpofofgaaDoor

/- What the reference's rules take: the tree's texts; matches by it. -/
namespace Go.Proofs.YtlegopbpofofgaaDoor

theorem glu_pre (n : Nat) : (∀ (x : Nd) (st : RuS) (i : Nat), i < st.1.length → (glu n x st).2.1[i]? = st.1[i]?) ∧ True := by
  have key : ∀ m, (∀ (x : Nd) (st : RuS) (i : Nat), szN x ≤ m → i < st.1.length → (glu n x st).2.1[i]? = st.1[i]?) ∧ (∀ (l : List Nd) (p : PartP) (st : RuS) (i : Nat), szL l ≤ m → i < st.1.length → (gluCat n l p st).2.1[i]? = st.1[i]? ∧ i < (gluCat n l p st).2.1.length) ∧ (∀ (l : List Nd) (p : PartP) (st : RuS) (i : Nat), szL l ≤ m → i < st.1.length → (gluAlt n l p st).2.1[i]? = st.1[i]? ∧ i < (gluAlt n l p st).2.1.length) := by
    intro m
    induction m with
    | zero =>
      refine ⟨fun x st i h => absurd h (by have := szN_pos x; omega), fun l p st i h hi => ?_, fun l p st i h hi => ?_⟩
      · cases l with
        | nil => rw [gluCat]; exact ⟨rfl, hi⟩
        | cons x r => exact absurd h (by have := szN_pos x; simp only [szL]; omega)
      · cases l with
        | nil => rw [gluAlt]; exact ⟨rfl, hi⟩
        | cons x r => exact absurd h (by have := szN_pos x; simp only [szL]; omega)
    | succ m ih =>
      have hx : ∀ (x : Nd) (st : RuS) (i : Nat), szN x ≤ m + 1 → i < st.1.length → (glu n x st).2.1[i]? = st.1[i]? := by
        intro x st i h hi
        obtain ⟨k, s, kids⟩ := x
        simp only [szN] at h
        rw [glu]
        split
        · simp only; rw [List.getElem?_append_left hi]
        · split
          · exact (ih.2.1 kids _ st i (by omega) hi).1
          · split
            · exact (ih.2.2 kids _ st i (by omega) hi).1
            · have h1 : (gluOne n kids st).2.1[i]? = st.1[i]? := by
                cases kids with
                | nil => rw [gluOne]
                | cons x r => rw [gluOne]; exact ih.1 x st i (by simp only [szL] at h; omega) hi
              split
              · exact h1
              · split
                · exact h1
                · rfl
      have hlt : ∀ (x : Nd) (st : RuS) (i : Nat), szN x ≤ m + 1 → i < st.1.length → i < (glu n x st).2.1.length := fun x st i h hi => by
        have := hx x st i h hi
        rw [List.getElem?_eq_getElem hi] at this
        exact (List.getElem?_eq_some_iff.1 this).1
      refine ⟨hx, fun l => ?_, fun l => ?_⟩
      · induction l with
        | nil => intro p st i _ hi; rw [gluCat]; exact ⟨rfl, hi⟩
        | cons x r ihl =>
          intro p st i h hi
          simp only [szL] at h
          have hp := szN_pos x
          rw [gluCat]
          have h1 := ihl (catPart p (glu n x st).1) ((glu n x st).2.1, followB p.last (glu n x st).1.first (glu n x st).2.2) i (by omega) (hlt x st i (by omega) hi)
          exact ⟨h1.1.trans (hx x st i (by omega) hi), h1.2⟩
      · induction l with
        | nil => intro p st i _ hi; rw [gluAlt]; exact ⟨rfl, hi⟩
        | cons x r ihl =>
          intro p st i h hi
          simp only [szL] at h
          have hp := szN_pos x
          rw [gluAlt]
          have h1 := ihl (altPart p (glu n x st).1) (glu n x st).2 i (by omega) (hlt x st i (by omega) hi)
          exact ⟨h1.1.trans (hx x st i (by omega) hi), h1.2⟩
  exact ⟨fun x st i => (key (szN x)).1 x st i (Nat.le_refl _), trivial⟩

/-- S is what the sets say, from a place on. -/
def SetsOf (S : Nat → UInt8 → Prop) (sets : List Nat) (lo : Nat) : Prop := ∀ q, lo ≤ q → q < sets.length → ∀ c, S q c ↔ ∃ s, sets[q]? = some s ∧ s.testBit c.toNat = true

theorem SetsOf.sub {S : Nat → UInt8 → Prop} {sets s' : List Nat} {lo lo' : Nat} (h : SetsOf S sets lo) (hlo : lo ≤ lo') (hle : s'.length ≤ sets.length) (hpre : ∀ i, i < s'.length → sets[i]? = s'[i]?) : SetsOf S s' lo' := fun q h1 h2 c => by
  rw [h q (by omega) (by omega) c, hpre q h2]

theorem gluCat_pre (n : Nat) : ∀ (l : List Nd) (p : PartP) (st : RuS) (i : Nat), i < st.1.length → (gluCat n l p st).2.1[i]? = st.1[i]?
  | [], p, st, i, hi => by rw [gluCat]
  | x :: r, p, st, i, hi => by
    rw [gluCat]
    have h := (glu_pre n).1 x st i hi
    rw [gluCat_pre n r _ _ i (by rw [List.getElem?_eq_getElem hi] at h; exact (List.getElem?_eq_some_iff.1 h).1)]
    exact h
theorem gluAlt_pre (n : Nat) : ∀ (l : List Nd) (p : PartP) (st : RuS) (i : Nat), i < st.1.length → (gluAlt n l p st).2.1[i]? = st.1[i]?
  | [], p, st, i, hi => by rw [gluAlt]
  | x :: r, p, st, i, hi => by
    rw [gluAlt]
    have h := (glu_pre n).1 x st i hi
    rw [gluAlt_pre n r _ _ i (by rw [List.getElem?_eq_getElem hi] at h; exact (List.getElem?_eq_some_iff.1 h).1)]
    exact h

section
variable {S : Nat → UInt8 → Prop} (n : Nat)

/-- What is laid of a tree is a part that takes its texts. -/
def GluOf (S : Nat → UInt8 → Prop) (lo hi : Nat) (p : PartP) (bh bh' : List (List Bool)) (A : By → Prop) : Prop :=
  ∃ Fol, Glu S lo hi p.null (On p.first) (On p.last) Fol A ∧ ∀ a b, Bh bh' a b ↔ Bh bh a b ∨ Fol a b

theorem gluNone (st : RuS) (A : By → Prop) (b : Bool) (hA : ∀ u, A u → u = []) (hb : b = true ↔ A []) : Glu S st.1.length st.1.length b (On (nob n)) (On (nob n)) (fun _ _ => False) A :=
  (Glu.none_ A hA hb).congr (fun q => ⟨fun h => on_nob n q h, fun h => h.elim⟩) (fun q => ⟨fun h => on_nob n q h, fun h => h.elim⟩) (fun _ _ => Iff.rfl) (fun _ => Iff.rfl)

mutual
theorem glu_spec : ∀ (x : Nd) (st : RuS), RuOk n st → wfN x = true → st.1.length + cnt x ≤ n → SetsOf S (glu n x st).2.1 st.1.length →
    GluOf S st.1.length (glu n x st).2.1.length (glu n x st).1 st.2 (glu n x st).2.2 (Lng x)
  | .mk k s kids, st, hok, hw, hn, hS => by
    have hwl : wfL kids = true := by simp only [wfN, Bool.and_eq_true] at hw; exact hw.2
    simp only [cnt] at hn
    rw [glu] at hS ⊢
    unfold Lng
    by_cases h1 : k = 1
    · simp only [if_pos h1, List.length_append, List.length_singleton] at hS hn ⊢
      refine ⟨fun _ _ => False, Glu.byte.congr (fun q => on_set (by omega) q) (fun q => on_set (by omega) q) (fun _ _ => Iff.rfl) (fun u => ?_), fun a b => by simp⟩
      have hS := hS st.1.length (Nat.le_refl _) (by simp)
      constructor
      · rintro ⟨c, rfl, hc⟩; exact ⟨c, rfl, (hS c).2 ⟨s, by simp, hc⟩⟩
      · rintro ⟨c, rfl, hc⟩
        obtain ⟨s', hs', hc⟩ := (hS c).1 hc
        simp at hs'; subst hs'
        exact ⟨c, rfl, hc⟩
    · simp only [if_neg h1] at hS hn ⊢
      by_cases h2 : k = 2
      · simp only [if_pos h2] at hS ⊢
        have h0 : Glu S st.1.length st.1.length true (On (nob n)) (On (nob n)) (fun _ _ => False) (fun w => w = []) := gluNone n st _ _ (fun _ h => h) (by simp)
        obtain ⟨Fol, hG, hB⟩ := gluCat_spec kids ⟨true, nob n, nob n⟩ st hok (nob_ok n _) hwl (by omega) st.1.length (Nat.le_refl _) hS _ (Bh st.2) _ h0 (fun a b => ⟨fun h => .inl h, fun h => h.elim id False.elim⟩)
        refine ⟨Fol, hG.congr (fun _ => Iff.rfl) (fun _ => Iff.rfl) (fun _ _ => Iff.rfl) (fun u => ?_), hB⟩
        constructor
        · intro h; exact ⟨[], u, rfl, rfl, h⟩
        · rintro ⟨a, b, rfl, rfl, h⟩; exact h
      · simp only [if_neg h2] at hS ⊢
        by_cases h3 : k = 3
        · simp only [if_pos h3] at hS ⊢
          have h0 : Glu S st.1.length st.1.length false (On (nob n)) (On (nob n)) (fun _ _ => False) (fun _ => False) := gluNone n st _ _ (fun _ h => h.elim) (by simp)
          obtain ⟨Fol, hG, hB⟩ := gluAlt_spec kids ⟨false, nob n, nob n⟩ st hok (nob_ok n _) hwl (by omega) st.1.length (Nat.le_refl _) hS _ (Bh st.2) _ h0 (fun a b => ⟨fun h => .inl h, fun h => h.elim id False.elim⟩)
          refine ⟨Fol, hG.congr (fun _ => Iff.rfl) (fun _ => Iff.rfl) (fun _ _ => Iff.rfl) (fun u => ?_), hB⟩
          simp
        · simp only [if_neg h3] at hS ⊢
          have k1 := gluOne_ok n kids st hok
          by_cases h45 : k = 4 ∨ k = 5
          · simp only [if_pos h45] at hS ⊢
            have h6 : ¬ k = 6 := by omega
            obtain ⟨Fol, hG, hB⟩ := gluOne_spec kids st hok hwl (by omega) hS
            have hB2 : ∀ a b, Bh (followB (gluOne n kids st).1.last (gluOne n kids st).1.first (gluOne n kids st).2.2) a b ↔ Bh st.2 a b ∨ Fol a b ∨ On (gluOne n kids st).1.last a ∧ On (gluOne n kids st).1.first b := fun a b => by
              rw [bh_follow k1.1.last k1.1.first k1.2.1, hB a b, or_assoc]
            by_cases h4 : k = 4
            · subst h4
              simp only [if_neg h6]
              exact ⟨_, hG.star _ (by simp), hB2⟩
            · have h5 : k = 5 := by omega
              subst h5
              simp only [if_neg h6, if_neg h4]
              exact ⟨_, by simpa using hG.plus, hB2⟩
          · simp only [if_neg h45] at hS ⊢
            have h4 : ¬ k = 4 := fun e => h45 (.inl e)
            have h5 : ¬ k = 5 := fun e => h45 (.inr e)
            by_cases h6 : k = 6
            · simp only [if_pos h6] at hS ⊢
              obtain ⟨Fol, hG, hB⟩ := gluOne_spec kids st hok hwl (by omega) hS
              exact ⟨_, hG.opt, hB⟩
            · simp only [if_neg h6, if_neg h4, if_neg h5] at hS ⊢
              exact ⟨_, gluNone n st _ _ (fun _ h => h) (by simp), fun a b => by simp⟩
theorem gluCat_spec : ∀ (l : List Nd) (p : PartP) (st : RuS), RuOk n st → PartOk n p → wfL l = true → st.1.length + cntL l ≤ n → ∀ lo, lo ≤ st.1.length → SetsOf S (gluCat n l p st).2.1 lo →
    ∀ (Fol0 B0 : Nat → Nat → Prop) (A : By → Prop), Glu S lo st.1.length p.null (On p.first) (On p.last) Fol0 A → (∀ a b, Bh st.2 a b ↔ B0 a b ∨ Fol0 a b) →
    ∃ Fol, Glu S lo (gluCat n l p st).2.1.length (gluCat n l p st).1.null (On (gluCat n l p st).1.first) (On (gluCat n l p st).1.last) Fol (fun w => ∃ u v, w = u ++ v ∧ A u ∧ LngCat l v) ∧ ∀ a b, Bh (gluCat n l p st).2.2 a b ↔ B0 a b ∨ Fol a b
  | [], p, st, hok, hp, hw, hn, lo, hlo, hS, Fol0, B0, A, hG, hB => by
    rw [gluCat]; unfold LngCat
    refine ⟨Fol0, hG.congr (fun _ => Iff.rfl) (fun _ => Iff.rfl) (fun _ _ => Iff.rfl) (fun u => ?_), hB⟩
    constructor
    · rintro ⟨a, b, rfl, h, rfl⟩; simpa using h
    · intro h; exact ⟨u, [], by simp, h, rfl⟩
  | x :: r, p, st, hok, hp, hw, hn, lo, hlo, hS, Fol0, B0, A, hG, hB => by
    simp only [wfL, Bool.and_eq_true] at hw
    simp only [cntL] at hn
    rw [gluCat] at hS ⊢
    unfold LngCat
    have k1 := glu_ok n x st hok
    have hle := k1.2.2.1
    have hle2 := k1.2.2.2 hw.1
    have hok2 := follow_ok (S := (glu n x st).2.1) hp.last k1.1.first k1.2.1
    have hpre := gluCat_pre n r (catPart p (glu n x st).1) ((glu n x st).2.1, followB p.last (glu n x st).1.first (glu n x st).2.2)
    have hmono := (gluCat_ok n r (catPart p (glu n x st).1) ((glu n x st).2.1, followB p.last (glu n x st).1.first (glu n x st).2.2) (catPart_ok hp k1.1) hok2).2.2.1
    obtain ⟨Fol, hx, hxB⟩ := glu_spec x st hok hw.1 (by omega) (hS.sub hlo hmono hpre)
    have hcat := hG.cat hx hlo hle
    have hcat' := hcat.congr (F' := On (catPart p (glu n x st).1).first) (L' := On (catPart p (glu n x st).1).last) (fun q => by
      simp only [catPart]
      cases p.null with
      | true => simp only [if_pos, true_and]; exact on_or (by rw [hp.first, k1.1.first]) q
      | false => simp) (fun q => by
      simp only [catPart]
      cases (glu n x st).1.null with
      | true => simp only [if_pos, true_and]; rw [on_or (by rw [hp.last, k1.1.last]) q, or_comm]
      | false => simp) (fun _ _ => Iff.rfl) (fun _ => Iff.rfl)
    obtain ⟨Fol', hG', hB'⟩ := gluCat_spec r (catPart p (glu n x st).1) ((glu n x st).2.1, followB p.last (glu n x st).1.first (glu n x st).2.2) hok2 (catPart_ok hp k1.1) hw.2 (by simp only; omega) lo (by simp only; omega) hS
      (fun a b => Fol0 a b ∨ Fol a b ∨ On p.last a ∧ On (glu n x st).1.first b) B0 _ hcat' (fun a b => by
        rw [bh_follow hp.last k1.1.first k1.2.1, hxB a b, hB a b]
        simp only [or_assoc])
    · refine ⟨Fol', hG'.congr (fun _ => Iff.rfl) (fun _ => Iff.rfl) (fun _ _ => Iff.rfl) (fun u => ?_), hB'⟩
      constructor
      · rintro ⟨a, b, rfl, ha, c, d, rfl, hc, hd⟩
        exact ⟨a ++ c, d, by simp, ⟨a, c, rfl, ha, hc⟩, hd⟩
      · rintro ⟨_, d, rfl, ⟨a, c, rfl, ha, hc⟩, hd⟩
        exact ⟨a, c ++ d, by simp, ha, c, d, rfl, hc, hd⟩
theorem gluAlt_spec : ∀ (l : List Nd) (p : PartP) (st : RuS), RuOk n st → PartOk n p → wfL l = true → st.1.length + cntL l ≤ n → ∀ lo, lo ≤ st.1.length → SetsOf S (gluAlt n l p st).2.1 lo →
    ∀ (Fol0 B0 : Nat → Nat → Prop) (A : By → Prop), Glu S lo st.1.length p.null (On p.first) (On p.last) Fol0 A → (∀ a b, Bh st.2 a b ↔ B0 a b ∨ Fol0 a b) →
    ∃ Fol, Glu S lo (gluAlt n l p st).2.1.length (gluAlt n l p st).1.null (On (gluAlt n l p st).1.first) (On (gluAlt n l p st).1.last) Fol (fun w => A w ∨ LngAlt l w) ∧ ∀ a b, Bh (gluAlt n l p st).2.2 a b ↔ B0 a b ∨ Fol a b
  | [], p, st, hok, hp, hw, hn, lo, hlo, hS, Fol0, B0, A, hG, hB => by
    rw [gluAlt]; unfold LngAlt
    exact ⟨Fol0, hG.congr (fun _ => Iff.rfl) (fun _ => Iff.rfl) (fun _ _ => Iff.rfl) (fun u => by simp), hB⟩
  | x :: r, p, st, hok, hp, hw, hn, lo, hlo, hS, Fol0, B0, A, hG, hB => by
    simp only [wfL, Bool.and_eq_true] at hw
    simp only [cntL] at hn
    rw [gluAlt] at hS ⊢
    unfold LngAlt
    have k1 := glu_ok n x st hok
    have hle := k1.2.2.1
    have hle2 := k1.2.2.2 hw.1
    have hpre := gluAlt_pre n r (altPart p (glu n x st).1) (glu n x st).2
    have hmono := (gluAlt_ok n r (altPart p (glu n x st).1) (glu n x st).2 (altPart_ok hp k1.1) k1.2.1).2.2.1
    obtain ⟨Fol, hx, hxB⟩ := glu_spec x st hok hw.1 (by omega) (hS.sub hlo hmono hpre)
    have hcat := hG.alt hx hlo hle
    obtain ⟨Fol', hG', hB'⟩ := gluAlt_spec r (altPart p (glu n x st).1) (glu n x st).2 k1.2.1 (altPart_ok hp k1.1) hw.2 (by omega) lo (by omega) hS
      (fun a b => Fol0 a b ∨ Fol a b) B0 _ (hcat.congr (fun q => on_or (by rw [hp.first, k1.1.first]) q) (fun q => on_or (by rw [hp.last, k1.1.last]) q) (fun _ _ => Iff.rfl) (fun _ => Iff.rfl)) (fun a b => by
        rw [hxB a b, hB a b]
        simp only [or_assoc])
    exact ⟨Fol', hG'.congr (fun _ => Iff.rfl) (fun _ => Iff.rfl) (fun _ _ => Iff.rfl) (fun u => by simp only [or_assoc]), hB'⟩
theorem gluOne_spec : ∀ (l : List Nd) (st : RuS), RuOk n st → wfL l = true → st.1.length + cntL l ≤ n → SetsOf S (gluOne n l st).2.1 st.1.length →
    GluOf S st.1.length (gluOne n l st).2.1.length (gluOne n l st).1 st.2 (gluOne n l st).2.2 (LngOne l)
  | [], st, hok, hw, hn, hS => by
    rw [gluOne]; unfold LngOne
    exact ⟨_, gluNone n st _ _ (fun _ h => h) (by simp), fun a b => by simp⟩
  | x :: r, st, hok, hw, hn, hS => by
    simp only [wfL, Bool.and_eq_true] at hw
    simp only [cntL] at hn
    rw [gluOne] at hS ⊢
    unfold LngOne
    exact glu_spec x st hok hw.1 (by omega) hS
end
end

/-! ### Steps of the reference -/

structure RuleOk (r : RuP) (n : Nat) : Prop where
  pos : 0 < r.sets.length
  sets : r.sets.length ≤ n
  rows : r.behind.length = n
  each : ∀ b ∈ r.behind, b.length = n
  last : r.last.length = n

theorem of_ok {x : Nd} (hw : wfN x = true) : RuleOk (ofP x) (cnt x + 1) := by
  have h0 : RuOk (cnt x + 1) ([0], List.replicate (cnt x + 1) (nob (cnt x + 1))) := ⟨by simp, fun b hb => by rw [(List.mem_replicate.1 hb).2]; exact nob_len _⟩
  have k := glu_ok (cnt x + 1) x ([0], List.replicate (cnt x + 1) (nob (cnt x + 1))) h0
  have h1 := k.2.2.1
  have h2 := k.2.2.2 hw
  simp only [List.length_singleton] at h1 h2
  refine ⟨by simp only [ofP]; omega, by simp only [ofP]; omega, by simp only [ofP, List.length_set]; exact k.2.1.rows, fun b hb => ?_, by simp only [ofP, List.length_set]; exact k.1.last⟩
  simp only [ofP] at hb
  rcases List.mem_or_eq_of_mem_set hb with h | rfl
  · exact k.2.1.each b h
  · exact k.1.first

/-- From a place on, as a rule says. -/
abbrev RAcc (r : RuP) : Nat → By → Prop := PAcc (fun q c => ∃ s, r.sets[q]? = some s ∧ s.testBit c.toNat = true) (fun p q => Bh r.behind p q ∧ 0 < q ∧ q < r.sets.length) (On r.last)

theorem of_lng {x : Nd} (hw : wfN x = true) (w : By) : RAcc (ofP x) 0 w ↔ Lng x w := by
  have h0 : RuOk (cnt x + 1) ([0], List.replicate (cnt x + 1) (nob (cnt x + 1))) := ⟨by simp, fun b hb => by rw [(List.mem_replicate.1 hb).2]; exact nob_len _⟩
  have k := glu_ok (cnt x + 1) x ([0], List.replicate (cnt x + 1) (nob (cnt x + 1))) h0
  have hrows := k.2.1.rows
  have hlast := k.1.last
  obtain ⟨Fol, hG, hB⟩ := glu_spec (S := fun q c => ∃ s, (ofP x).sets[q]? = some s ∧ s.testBit c.toNat = true) (cnt x + 1) x ([0], List.replicate (cnt x + 1) (nob (cnt x + 1))) h0 hw (by simp; omega) (fun q _ _ c => Iff.rfl)
  simp only [List.length_singleton] at hG hB
  have hB0 : ∀ a b, ¬ Bh (List.replicate (cnt x + 1) (nob (cnt x + 1))) a b := by
    rintro a b ⟨l, hl, ho⟩
    rw [List.getElem?_replicate] at hl
    split at hl
    · cases hl; exact on_nob _ _ ho
    · cases hl
  have hb0 : ∀ q, Bh (ofP x).behind 0 q ↔ On (glu (cnt x + 1) x ([0], List.replicate (cnt x + 1) (nob (cnt x + 1)))).1.first q := fun q => by
    simp only [ofP, Bh]
    rw [List.getElem?_set_self (by omega)]
    simp
  have hbp : ∀ p q, 0 < p → (Bh (ofP x).behind p q ↔ Fol p q) := fun p q hp => by
    have : Bh (ofP x).behind p q ↔ Bh (glu (cnt x + 1) x ([0], List.replicate (cnt x + 1) (nob (cnt x + 1)))).2.2 p q := by
      simp only [ofP, Bh]
      rw [List.getElem?_set_ne (by omega)]
    rw [this, hB p q]
    exact ⟨fun h => h.elim (fun h => (hB0 _ _ h).elim) id, .inr⟩
  have he0 : On (ofP x).last 0 ↔ (glu (cnt x + 1) x ([0], List.replicate (cnt x + 1) (nob (cnt x + 1)))).1.null = true := by
    simp only [ofP, On]
    rw [List.getElem?_set_self (by omega)]
    simp
  have hep : ∀ p, 0 < p → (On (ofP x).last p ↔ On (glu (cnt x + 1) x ([0], List.replicate (cnt x + 1) (nob (cnt x + 1)))).1.last p) := fun p hp => by
    simp only [ofP, On]
    rw [List.getElem?_set_ne (by omega)]
  have hsl : (ofP x).sets.length = (glu (cnt x + 1) x ([0], List.replicate (cnt x + 1) (nob (cnt x + 1)))).2.1.length := rfl
  have hE := hG.ent (fun p q => Bh (ofP x).behind p q ∧ 0 < q ∧ q < (ofP x).sets.length) (On (ofP x).last) (fun _ => False) True (fun p q hp _ => by
    rw [hbp p q (by omega)]
    constructor
    · rintro ⟨h, _⟩; exact .inl h
    · rintro (h | ⟨_, h⟩)
      · have := hG.gr p q h; exact ⟨h, by omega, by omega⟩
      · exact h.elim) (fun p hp _ => by rw [hep p (by omega)]; simp)
  cases w with
  | nil =>
    rw [← hG.nul, ← he0]
    constructor
    · intro h; cases h with | done h => exact h
    · exact .done
  | cons c w =>
    have h1 : RAcc (ofP x) 0 (c :: w) ↔ Ent (fun q c => ∃ s, (ofP x).sets[q]? = some s ∧ s.testBit c.toNat = true) (fun p q => Bh (ofP x).behind p q ∧ 0 < q ∧ q < (ofP x).sets.length) (On (ofP x).last) (On (glu (cnt x + 1) x ([0], List.replicate (cnt x + 1) (nob (cnt x + 1)))).1.first) (c :: w) := by
      constructor
      · intro h
        cases h with
        | go hg hs hp => exact ⟨c, w, rfl, _, (hb0 _).1 hg.1, hs, hp⟩
      · rintro ⟨c', w', e, q, hq, hs, hp⟩
        cases e
        have := hG.fr q hq
        exact .go ⟨(hb0 _).2 hq, by omega, by omega⟩ hs hp
    rw [h1, hE]
    constructor
    · rintro ⟨u, v, e, _, hu, ⟨rfl, _⟩ | hv⟩
      · rw [e]; simpa using hu
      · exact (Ent.false hv).elim
    · intro h
      exact ⟨c :: w, [], by simp, by simp, h, .inl ⟨rfl, trivial⟩⟩

def startR (r : RuP) : List Bool := (nob r.sets.length).set 0 true
def orsB : List Bool → List (List Bool) → List Bool → List Bool
  | a :: at_, b :: bh, out => orsB at_ bh (if a then orB out b else out)
  | _, _, out => out
def andB (c : UInt8) : Nat → List Bool → List Nat → List Bool
  | q, o :: out, s :: sets => (o && decide (0 < q) && s.testBit c.toNat) :: andB c (q + 1) out sets
  | _, _, _ => []
def stepR (r : RuP) (at_ : List Bool) (c : UInt8) : List Bool := andB c 0 (orsB at_ r.behind (nob at_.length)) r.sets
def endsR (r : RuP) (at_ : List Bool) : Bool := (List.zipWith (· && ·) at_ r.last).any id
def anyR (at_ : List Bool) : Bool := at_.any id

theorem on_or' {a b : List Bool} (h : a.length ≤ b.length) (i : Nat) : On (orB a b) i ↔ i < a.length ∧ (On a i ∨ On b i) := by
  unfold On orB
  rw [List.getElem?_zipWith]
  by_cases hi : i < a.length
  · rw [List.getElem?_eq_getElem hi, List.getElem?_eq_getElem (by omega)]
    simp [hi]
  · rw [List.getElem?_eq_none (by omega)]
    simp [hi]
theorem orsB_len : ∀ (at_ : List Bool) (bh : List (List Bool)) (out : List Bool), (∀ b ∈ bh, out.length ≤ b.length) → (orsB at_ bh out).length = out.length
  | [], _, _, _ => by simp [orsB]
  | _ :: _, [], _, _ => by simp [orsB]
  | a :: at_, b :: bh, out, h => by
    rw [orsB]
    have hl : (if a then orB out b else out).length = out.length := by
      split
      · have := h b (by simp); simp [orB]; omega
      · rfl
    rw [orsB_len at_ bh _ (fun b hb => by rw [hl]; exact h b (by simp [hb])), hl]
theorem on_orsB : ∀ (at_ : List Bool) (bh : List (List Bool)) (out : List Bool), (∀ b ∈ bh, out.length ≤ b.length) → at_.length ≤ bh.length → ∀ q, On (orsB at_ bh out) q ↔ q < out.length ∧ (On out q ∨ ∃ p, On at_ p ∧ Bh bh p q)
  | [], bh, out, _, _, q => by
    have e : orsB [] bh out = out := by simp [orsB]
    rw [e]
    constructor
    · intro h; exact ⟨(List.getElem?_eq_some_iff.1 h).1, .inl h⟩
    · rintro ⟨_, h | ⟨p, h, _⟩⟩
      · exact h
      · simp [On] at h
  | _ :: _, [], _, _, h, _ => by simp at h
  | a :: at_, b :: bh, out, h, hl, q => by
    rw [orsB]
    have hbl := h b (by simp)
    have hlen : (if a then orB out b else out).length = out.length := by
      split
      · simp [orB]; omega
      · rfl
    rw [on_orsB at_ bh _ (fun b hb => by rw [hlen]; exact h b (by simp [hb])) (by simpa using hl) q, hlen]
    have e : (∃ p, On (a :: at_) p ∧ Bh (b :: bh) p q) ↔ (a = true ∧ On b q) ∨ ∃ p, On at_ p ∧ Bh bh p q := by
      constructor
      · rintro ⟨p, hp, hb⟩
        cases p with
        | zero =>
          obtain ⟨x, hx, ho⟩ := hb
          simp at hx; subst hx
          exact .inl ⟨by simpa [On] using hp, ho⟩
        | succ p => exact .inr ⟨p, by simpa [On] using hp, by simpa [Bh] using hb⟩
      · rintro (⟨ha, ho⟩ | ⟨p, hp, hb⟩)
        · exact ⟨0, by simp [On, ha], b, by simp, ho⟩
        · exact ⟨p + 1, by simpa [On] using hp, by simpa [Bh] using hb⟩
    rw [e]
    cases a with
    | true =>
      simp only [if_pos, true_and]
      rw [on_or' hbl]
      constructor
      · rintro ⟨hq, ⟨_, h | h⟩ | h⟩
        · exact ⟨hq, .inl h⟩
        · exact ⟨hq, .inr (.inl h)⟩
        · exact ⟨hq, .inr (.inr h)⟩
      · rintro ⟨hq, h | h | h⟩
        · exact ⟨hq, .inl ⟨hq, .inl h⟩⟩
        · exact ⟨hq, .inl ⟨hq, .inr h⟩⟩
        · exact ⟨hq, .inr h⟩
    | false => simp
theorem andB_len (c : UInt8) : ∀ (q : Nat) (out : List Bool) (sets : List Nat), out.length = sets.length → (andB c q out sets).length = out.length
  | _, [], [], _ => rfl
  | _, [], _ :: _, h => by simp at h
  | _, _ :: _, [], h => by simp at h
  | q, o :: out, s :: sets, h => by rw [andB]; simp [andB_len c (q + 1) out sets (by simpa using h)]
theorem on_andB (c : UInt8) : ∀ (k : Nat) (out : List Bool) (sets : List Nat) (q : Nat), On (andB c k out sets) q ↔ On out q ∧ 0 < k + q ∧ ∃ s, sets[q]? = some s ∧ s.testBit c.toNat = true
  | k, [], sets, q => by simp [andB, On]
  | k, o :: out, [], q => by simp [andB, On]
  | k, o :: out, s :: sets, q => by
    rw [andB]
    cases q with
    | zero => simp [On, and_assoc]
    | succ q =>
      have := on_andB c (k + 1) out sets q
      simp only [On, List.getElem?_cons_succ] at this ⊢
      rw [this]
      have e : k + 1 + q = k + (q + 1) := by omega
      rw [e]

theorem startR_len (r : RuP) : (startR r).length = r.sets.length := by simp [startR, nob_len]
theorem stepR_len {r : RuP} {n : Nat} (hr : RuleOk r n) {a : List Bool} (ha : a.length = r.sets.length) (c : UInt8) : (stepR r a c).length = r.sets.length := by
  have h1 := hr.sets
  unfold stepR
  rw [andB_len, orsB_len, nob_len, ha]
  · intro b hb; rw [hr.each b hb, nob_len, ha]; exact h1
  · rw [orsB_len, nob_len, ha]
    intro b hb; rw [hr.each b hb, nob_len, ha]; exact h1
theorem on_step {r : RuP} {n : Nat} (hr : RuleOk r n) {a : List Bool} (ha : a.length = r.sets.length) (c : UInt8) (q : Nat) : On (stepR r a c) q ↔ (∃ p, On a p ∧ Bh r.behind p q ∧ 0 < q ∧ q < r.sets.length) ∧ ∃ s, r.sets[q]? = some s ∧ s.testBit c.toNat = true := by
  have h1 := hr.sets
  unfold stepR
  rw [on_andB, on_orsB _ _ _ (by intro b hb; rw [hr.each b hb, nob_len, ha]; exact h1) (by rw [ha, hr.rows]; exact h1), nob_len, ha]
  constructor
  · rintro ⟨⟨hq, h | ⟨p, hp, hb⟩⟩, h0, hs⟩
    · exact (on_nob _ _ h).elim
    · exact ⟨⟨p, hp, hb, by omega, hq⟩, hs⟩
  · rintro ⟨⟨p, hp, hb, h0, hq⟩, hs⟩
    exact ⟨⟨hq, .inr ⟨p, hp, hb⟩⟩, by omega, hs⟩
theorem on_any (l : List Bool) : anyR l = true ↔ ∃ p, On l p := by
  unfold anyR On
  rw [List.any_eq_true]
  constructor
  · rintro ⟨b, hb, h⟩
    obtain ⟨p, hp⟩ := List.getElem?_of_mem hb
    exact ⟨p, by rw [hp]; simpa using h⟩
  · rintro ⟨p, hp⟩; exact ⟨true, List.mem_of_getElem? hp, rfl⟩
theorem on_ends (r : RuP) (a : List Bool) : endsR r a = true ↔ ∃ p, On a p ∧ On r.last p := by
  unfold endsR
  rw [List.any_eq_true]
  constructor
  · rintro ⟨b, hb, h⟩
    obtain ⟨p, hp⟩ := List.getElem?_of_mem hb
    rw [List.getElem?_zipWith] at hp
    split at hp
    · rename_i x y hx hy
      cases hp
      simp at h
      exact ⟨p, by rw [On, hx, h.1], by rw [On, hy, h.2]⟩
    · cases hp
  · rintro ⟨p, h1, h2⟩
    refine ⟨true, ?_, rfl⟩
    apply List.mem_of_getElem? (i := p)
    rw [List.getElem?_zipWith, h1, h2]; rfl

def runR (r : RuP) (w : By) : List Bool := w.foldl (stepR r) (startR r)
theorem runR_len {r : RuP} {n : Nat} (hr : RuleOk r n) (w : By) : (runR r w).length = r.sets.length := by
  have key : ∀ (w : By) (a : List Bool), a.length = r.sets.length → (w.foldl (stepR r) a).length = r.sets.length := by
    intro w
    induction w with
    | nil => intro a h; exact h
    | cons c w ih => intro a h; exact ih _ (stepR_len hr h c)
  exact key w _ (startR_len r)
theorem runR_acc {r : RuP} {n : Nat} (hr : RuleOk r n) (w v : By) : (∃ p, On (runR r w) p ∧ RAcc r p v) ↔ RAcc r 0 (w ++ v) := by
  have key : ∀ (w : By) (a : List Bool), a.length = r.sets.length → ((∃ p, On (w.foldl (stepR r) a) p ∧ RAcc r p v) ↔ ∃ p, On a p ∧ RAcc r p (w ++ v)) := by
    intro w
    induction w with
    | nil => intro a _; exact Iff.rfl
    | cons c w ih =>
      intro a ha
      rw [List.foldl_cons, ih _ (stepR_len hr ha c)]
      constructor
      · rintro ⟨q, hq, hv⟩
        obtain ⟨⟨p, hp, hb⟩, hs⟩ := (on_step hr ha c q).1 hq
        exact ⟨p, hp, .go hb hs hv⟩
      · rintro ⟨p, hp, h⟩
        cases h with
        | go hb hs hv => exact ⟨_, (on_step hr ha c _).2 ⟨⟨p, hp, hb⟩, hs⟩, hv⟩
  unfold runR
  rw [key w _ (startR_len r)]
  constructor
  · rintro ⟨p, hp, h⟩
    have := (on_set hr.pos p).1 hp
    subst this; exact h
  · intro h; exact ⟨0, (on_set hr.pos 0).2 rfl, h⟩
theorem ends_lng {x : Nd} (hw : wfN x = true) (w : By) : endsR (ofP x) (runR (ofP x) w) = true ↔ Lng x w := by
  rw [on_ends, ← of_lng hw w]
  have h := runR_acc (of_ok hw) w []
  rw [List.append_nil] at h
  rw [← h]
  constructor
  · rintro ⟨p, h1, h2⟩; exact ⟨p, h1, .done h2⟩
  · rintro ⟨p, h1, h2⟩
    cases h2 with
    | done h2 => exact ⟨p, h1, h2⟩

/-! ### Matches of the reference -/

/-- The rule, its number, what is left of the text, the places, how far; the longest, its rule, the farthest. -/
def refG (r : RuP) (ri : Nat) : By → List Bool → Nat → Int × Int × Int → Int × Int × Int
  | l, now, k, b =>
    if anyR now = false then b
    else match l with
      | [] => if endsR r now = true ∧ (b.2.1 < 0 ∨ b.1 < k) then (k, ri, if b.2.2 < k then (k : Int) else b.2.2) else (b.1, b.2.1, if b.2.2 < k then (k : Int) else b.2.2)
      | c :: l => refG r ri l (stepR r now c) (k + 1) (if endsR r now = true ∧ (b.2.1 < 0 ∨ b.1 < k) then (k, ri, if b.2.2 < k then (k : Int) else b.2.2) else (b.1, b.2.1, if b.2.2 < k then (k : Int) else b.2.2))
def refGs : Nat → List RuP → By → Int × Int × Int → Int × Int × Int
  | _, [], _, b => b
  | i, r :: rs, l, b => refGs (i + 1) rs l (refG r i l (startR r) 0 b)
def refMatch (rs : List RuP) (l : By) : Int × Int × Int := refGs 0 rs l (0, -1, 0)
def refLeast : Nat → List RuP → By → Int
  | _, [], _ => -1
  | i, r :: rs, l => if endsR r (runR r l) = true then i else refLeast (i + 1) rs l

theorem refG_none {r : RuP} {ri : Nat} {l : By} {now : List Bool} {k : Nat} {b : Int × Int × Int} (h : anyR now = false) : refG r ri l now k b = b := by cases l <;> (rw [refG]; exact if_pos h)

theorem stepR_none {r : RuP} {n : Nat} (hr : RuleOk r n) {a : List Bool} (ha : a.length = r.sets.length) (h : anyR a = false) (c : UInt8) : anyR (stepR r a c) = false := by
  cases e : anyR (stepR r a c) with
  | false => rfl
  | true =>
    obtain ⟨q, hq⟩ := (on_any _).1 e
    obtain ⟨⟨p, hp, _⟩, _⟩ := (on_step hr ha c q).1 hq
    rw [(on_any a).2 ⟨p, hp⟩] at h; cases h

theorem ends_any {r : RuP} {a : List Bool} (h : anyR a = false) : endsR r a = false := by
  cases e : endsR r a with
  | false => rfl
  | true =>
    obtain ⟨p, hp, _⟩ := (on_ends r a).1 e
    rw [(on_any a).2 ⟨p, hp⟩] at h; cases h

/-- The best so far is one of those that Q holds of: the longest, of the least rule. -/
def IsTop (Q : Nat → Nat → Prop) (o : Int × Int) : Prop :=
  (o = (0, -1) ∧ ∀ k r, ¬ Q k r) ∨ ∃ k r : Nat, o = ((k : Int), (r : Int)) ∧ Q k r ∧ (∀ k' r', Q k' r' → k' ≤ k) ∧ ∀ r', Q k r' → r ≤ r'

theorem IsTop.add {Q : Nat → Nat → Prop} {a b : Int} {k r : Nat} (h : IsTop Q (a, b)) (hold : ∀ k' r', Q k' r' → r' < r ∨ (r' = r ∧ k' < k)) (p : Bool) :
    IsTop (fun k' r' => Q k' r' ∨ (k' = k ∧ r' = r ∧ p = true)) (if p = true ∧ (b < 0 ∨ a < k) then ((k : Int), (r : Int)) else (a, b)) := by
  cases p with
  | false =>
    rw [if_neg (by simp)]
    have e : (fun k' r' => Q k' r' ∨ (k' = k ∧ r' = r ∧ false = true)) = Q := by funext k' r'; simp
    rw [e]; exact h
  | true =>
    rcases h with ⟨he, h1⟩ | ⟨k0, r0, he, hq, h1, h2⟩
    · cases he
      rw [if_pos ⟨rfl, .inl (by decide)⟩]
      refine .inr ⟨k, r, rfl, .inr ⟨rfl, rfl, rfl⟩, fun k' r' hk => ?_, fun r' hr => ?_⟩
      · rcases hk with hk | ⟨hk, _, _⟩
        · exact absurd hk (h1 _ _)
        · omega
      · rcases hr with hr | ⟨_, hr, _⟩
        · exact absurd hr (h1 _ _)
        · omega
    · cases he
      by_cases hlt : k0 < k
      · rw [if_pos ⟨rfl, .inr (by omega)⟩]
        refine .inr ⟨k, r, rfl, .inr ⟨rfl, rfl, rfl⟩, fun k' r' hk => ?_, fun r' hr => ?_⟩
        · rcases hk with hk | ⟨hk, _, _⟩
          · have := h1 _ _ hk; omega
          · omega
        · rcases hr with hr | ⟨_, hr, _⟩
          · have := h1 _ _ hr; omega
          · omega
      · rw [if_neg (by rintro ⟨_, h | h⟩ <;> omega)]
        refine .inr ⟨k0, r0, rfl, .inl hq, fun k' r' hk => ?_, fun r' hr => ?_⟩
        · rcases hk with hk | ⟨hk, _, _⟩
          · exact h1 _ _ hk
          · omega
        · rcases hr with hr | ⟨hk, hr, _⟩
          · exact h2 _ hr
          · have := hold _ _ hq; omega

theorem refG_top {x : Nd} (hw : wfN x = true) (ri : Nat) (Q : Nat → Nat → Prop) (L : By) : ∀ (l a : By) (b : Int × Int × Int), a ++ l = L →
    IsTop (fun k' r' => Q k' r' ∨ (k' < a.length ∧ r' = ri ∧ Lng x (L.take k'))) (b.1, b.2.1) → (∀ k' r', Q k' r' → r' < ri) →
    IsTop (fun k' r' => Q k' r' ∨ (k' ≤ L.length ∧ r' = ri ∧ Lng x (L.take k'))) ((refG (ofP x) ri l (runR (ofP x) a) a.length b).1, (refG (ofP x) ri l (runR (ofP x) a) a.length b).2.1) := by
  have hok := of_ok hw
  have dead : ∀ (l a : By), anyR (runR (ofP x) a) = false → ∀ k', a.length ≤ k' → k' ≤ (a ++ l).length → ¬ Lng x ((a ++ l).take k') := by
    intro l a h k' h1 h2 hl
    rw [← ends_lng hw] at hl
    have e : (a ++ l).take k' = a ++ l.take (k' - a.length) := by rw [List.take_append, List.take_of_length_le h1]
    rw [e] at hl
    have key : ∀ (v : By) (T : List Bool), T.length = (ofP x).sets.length → anyR T = false → anyR (v.foldl (stepR (ofP x)) T) = false := by
      intro v
      induction v with
      | nil => intro T _ h; exact h
      | cons c v ih => intro T hT h; exact ih _ (stepR_len hok hT c) (stepR_none hok hT h c)
    have := key (l.take (k' - a.length)) (runR (ofP x) a) (runR_len hok a) h
    unfold runR at hl
    rw [List.foldl_append] at hl
    have h3 := ends_any (r := ofP x) this
    unfold runR at h3
    rw [h3] at hl; cases hl
  intro l
  induction l with
  | nil =>
    intro a b hL hI hQ
    rw [List.append_nil] at hL
    subst hL
    by_cases h : anyR (runR (ofP x) a) = false
    · rw [refG_none h]
      have e : (fun k' r' => Q k' r' ∨ (k' < a.length ∧ r' = ri ∧ Lng x (a.take k'))) = (fun k' r' => Q k' r' ∨ (k' ≤ a.length ∧ r' = ri ∧ Lng x (a.take k'))) := by
        funext k' r'
        refine propext ⟨fun h => h.imp id fun ⟨h1, h2⟩ => ⟨by omega, h2⟩, fun hh => hh.imp id fun ⟨h1, h2, h3⟩ => ⟨?_, h2, h3⟩⟩
        by_cases e : k' = a.length
        · exact absurd (by simpa using h3) (by simpa using dead [] a h k' (by omega) (by simp; omega))
        · omega
      rw [← e]; exact hI
    · rw [refG, if_neg h]
      have hadd := hI.add (k := a.length) (r := ri) (fun k' r' hq => by
        rcases hq with hq | ⟨h1, h2, _⟩
        · exact .inl (hQ _ _ hq)
        · exact .inr ⟨h2, h1⟩) (endsR (ofP x) (runR (ofP x) a))
      have e : (fun k' r' => (Q k' r' ∨ (k' < a.length ∧ r' = ri ∧ Lng x (a.take k'))) ∨ (k' = a.length ∧ r' = ri ∧ endsR (ofP x) (runR (ofP x) a) = true)) = (fun k' r' => Q k' r' ∨ (k' ≤ a.length ∧ r' = ri ∧ Lng x (a.take k'))) := by
        funext k' r'
        rw [ends_lng hw]
        refine propext ⟨?_, ?_⟩
        · rintro ((h1 | ⟨h1, h2, h3⟩) | ⟨h1, h2, h3⟩)
          · exact .inl h1
          · exact .inr ⟨by omega, h2, h3⟩
          · exact .inr ⟨by omega, h2, by subst h1; simpa using h3⟩
        · rintro (h1 | ⟨h1, h2, h3⟩)
          · exact .inl (.inl h1)
          · by_cases hk : k' = a.length
            · exact .inr ⟨hk, h2, by subst hk; simpa using h3⟩
            · exact .inl (.inr ⟨by omega, h2, h3⟩)
      rw [e] at hadd
      split <;> rename_i hc
      · rw [if_pos hc] at hadd; exact hadd
      · rw [if_neg hc] at hadd; exact hadd
  | cons c l ih =>
    intro a b hL hI hQ
    by_cases h : anyR (runR (ofP x) a) = false
    · rw [refG_none h]
      subst hL
      have e : (fun k' r' => Q k' r' ∨ (k' < a.length ∧ r' = ri ∧ Lng x ((a ++ c :: l).take k'))) = (fun k' r' => Q k' r' ∨ (k' ≤ (a ++ c :: l).length ∧ r' = ri ∧ Lng x ((a ++ c :: l).take k'))) := by
        funext k' r'
        refine propext ⟨fun h => h.imp id fun ⟨h1, h2⟩ => ⟨by simp; omega, h2⟩, fun hh => hh.imp id fun ⟨h1, h2, h3⟩ => ⟨?_, h2, h3⟩⟩
        by_cases e : k' < a.length
        · exact e
        · exact absurd h3 (dead (c :: l) a h k' (by omega) h1)
      rw [← e]; exact hI
    · rw [refG, if_neg h]
      have h1 := ih (a ++ [c]) (if endsR (ofP x) (runR (ofP x) a) = true ∧ (b.2.1 < 0 ∨ b.1 < (a.length : Int)) then ((a.length : Int), (ri : Int), if b.2.2 < (a.length : Int) then (a.length : Int) else b.2.2) else (b.1, b.2.1, if b.2.2 < (a.length : Int) then (a.length : Int) else b.2.2)) (by simpa using hL) ?_ hQ
      · have e : runR (ofP x) (a ++ [c]) = stepR (ofP x) (runR (ofP x) a) c := by simp [runR, List.foldl_append]
        rw [e] at h1
        simp only [List.length_append, List.length_singleton] at h1
        exact h1
      · have hadd := hI.add (k := a.length) (r := ri) (fun k' r' hq => by
          rcases hq with hq | ⟨h1, h2, _⟩
          · exact .inl (hQ _ _ hq)
          · exact .inr ⟨h2, h1⟩) (endsR (ofP x) (runR (ofP x) a))
        have e : (fun k' r' => (Q k' r' ∨ (k' < a.length ∧ r' = ri ∧ Lng x (L.take k'))) ∨ (k' = a.length ∧ r' = ri ∧ endsR (ofP x) (runR (ofP x) a) = true)) = (fun k' r' => Q k' r' ∨ (k' < (a ++ [c]).length ∧ r' = ri ∧ Lng x (L.take k'))) := by
          funext k' r'
          rw [ends_lng hw]
          have ht : L.take a.length = a := by rw [← hL]; simp
          refine propext ⟨?_, ?_⟩
          · rintro ((h1 | ⟨h1, h2, h3⟩) | ⟨h1, h2, h3⟩)
            · exact .inl h1
            · exact .inr ⟨by simp; omega, h2, h3⟩
            · exact .inr ⟨by simp; omega, h2, by subst h1; rw [ht]; exact h3⟩
          · rintro (h1 | ⟨h1, h2, h3⟩)
            · exact .inl (.inl h1)
            · simp only [List.length_append, List.length_singleton] at h1
              by_cases hk : k' = a.length
              · exact .inr ⟨hk, h2, by subst hk; rwa [ht] at h3⟩
              · exact .inl (.inr ⟨by omega, h2, h3⟩)
        rw [e] at hadd
        split <;> rename_i hc
        · rw [if_pos hc] at hadd; exact hadd
        · rw [if_neg hc] at hadd; exact hadd

theorem refGs_top (L : By) : ∀ (xs : List Nd) (i : Nat) (Q : Nat → Nat → Prop) (b : Int × Int × Int), (∀ x ∈ xs, wfN x = true) → (∀ k r, Q k r → r < i) → IsTop Q (b.1, b.2.1) →
    IsTop (fun k r => Q k r ∨ ∃ j x, xs[j]? = some x ∧ r = i + j ∧ k ≤ L.length ∧ Lng x (L.take k)) ((refGs i (xs.map ofP) L b).1, (refGs i (xs.map ofP) L b).2.1)
  | [], i, Q, b, _, _, h => by
    simp only [List.map_nil, refGs]
    have e : (fun k r => Q k r ∨ ∃ (j : Nat) (x : Nd), ([] : List Nd)[j]? = some x ∧ r = i + j ∧ k ≤ L.length ∧ Lng x (L.take k)) = Q := by funext k r; simp
    rw [e]; exact h
  | x :: xs, i, Q, b, hw, hQ, h => by
    simp only [List.map_cons, refGs]
    have h1 := refG_top (hw x (by simp)) i Q L L [] b rfl (by simpa using h) hQ
    have h2 := refGs_top L xs (i + 1) _ (refG (ofP x) i L (startR (ofP x)) 0 b) (fun y hy => hw y (by simp [hy])) (fun k r hq => by
      rcases hq with hq | ⟨_, hq, _⟩
      · have := hQ _ _ hq; omega
      · omega) h1
    have e : (fun k r => (Q k r ∨ (k ≤ L.length ∧ r = i ∧ Lng x (L.take k))) ∨ ∃ j y, xs[j]? = some y ∧ r = i + 1 + j ∧ k ≤ L.length ∧ Lng y (L.take k)) = (fun k r => Q k r ∨ ∃ j y, (x :: xs)[j]? = some y ∧ r = i + j ∧ k ≤ L.length ∧ Lng y (L.take k)) := by
      funext k r
      refine propext ⟨?_, ?_⟩
      · rintro ((h1 | ⟨h1, h2, h3⟩) | ⟨j, y, h1, h2, h3⟩)
        · exact .inl h1
        · exact .inr ⟨0, x, rfl, by omega, h1, h3⟩
        · exact .inr ⟨j + 1, y, by simpa using h1, by omega, h3⟩
      · rintro (h1 | ⟨j, y, h1, h2, h3⟩)
        · exact .inl (.inl h1)
        · cases j with
          | zero => simp at h1; subst h1; exact .inl (.inr ⟨h3.1, by omega, h3.2⟩)
          | succ j => exact .inr ⟨j, y, by simpa using h1, by omega, h3⟩
    rw [e] at h2; exact h2

theorem refMatch_spec {xs : List Nd} (hw : ∀ x ∈ xs, wfN x = true) (l : By) : IsMatch (fun n r => ∃ x, xs[r]? = some x ∧ Lng x (l.take n)) l.length ((refMatch (xs.map ofP) l).1, (refMatch (xs.map ofP) l).2.1) := by
  have h := refGs_top l xs 0 (fun _ _ => False) (0, -1, 0) hw (fun _ _ h => h.elim) (.inl ⟨rfl, fun _ _ h => h⟩)
  rcases h with ⟨h1, h2⟩ | ⟨k, r, h1, h2, h3, h4⟩
  · exact .inl ⟨h1, fun k r hk ⟨x, hx, hl⟩ => h2 k r (.inr ⟨r, x, hx, by omega, hk, hl⟩)⟩
  · rcases h2 with h2 | ⟨j, x, hx, hr, hk, hl⟩
    · exact h2.elim
    · have : r = j := by omega
      subst this
      exact .inr ⟨k, r, h1, hk, ⟨x, hx, hl⟩, fun k' r' hk' ⟨y, hy, hl'⟩ => h3 k' r' (.inr ⟨r', y, hy, by omega, hk', hl'⟩), fun r' ⟨y, hy, hl'⟩ => h4 r' (.inr ⟨r', y, hy, by omega, hk, hl'⟩)⟩

theorem refLeast_spec : ∀ (xs : List Nd) (i : Nat) (l : By), (∀ x ∈ xs, wfN x = true) → LeastI (fun r => ∃ j x, xs[j]? = some x ∧ r = i + j ∧ Lng x l) (refLeast i (xs.map ofP) l)
  | [], i, l, _ => .inl ⟨rfl, fun r ⟨j, x, hx, _⟩ => by simp at hx⟩
  | x :: xs, i, l, hw => by
    simp only [List.map_cons, refLeast]
    by_cases h : endsR (ofP x) (runR (ofP x) l) = true
    · rw [if_pos h]
      exact .inr ⟨i, rfl, ⟨0, x, rfl, rfl, (ends_lng (hw x (by simp)) l).1 h⟩, fun r ⟨j, y, _, hr, _⟩ => by omega⟩
    · rw [if_neg h]
      have ih := refLeast_spec xs (i + 1) l (fun y hy => hw y (by simp [hy]))
      have e : (fun r => ∃ j y, xs[j]? = some y ∧ r = i + 1 + j ∧ Lng y l) = (fun r => ∃ j y, (x :: xs)[j]? = some y ∧ r = i + j ∧ Lng y l) := by
        funext r
        refine propext ⟨fun ⟨j, y, h1, h2, h3⟩ => ⟨j + 1, y, by simpa using h1, by omega, h3⟩, fun ⟨j, y, h1, h2, h3⟩ => ?_⟩
        cases j with
        | zero => simp at h1; subst h1; exact absurd ((ends_lng (hw x (by simp)) l).2 h3) h
        | succ j => exact ⟨j, y, by simpa using h1, by omega, h3⟩
      rw [e] at ih; exact ih

end Go.Proofs.YtlegopbpofofgaaDoor

/- Elements of a row of one's own, read and written over. -/
namespace Go.Lw

theorem OwE.at {α : Type} {enc : α → Value} {h : Heap} {base : Nat} {t : TypeId} {v : Value} {xs : List α} (k : OwE enc h base t v xs) {i : Nat} {x : α} (hx : xs[i]? = some x) :
    ∃ g c, v = .slice (some ⟨g, 0, none⟩) xs.length c ∧ base ≤ g ∧ g < h.size ∧ cellAt h ⟨g, 0 + i * 1, none⟩ = some (enc x) ∧ frozenAt h ⟨g, 0 + i * 1, none⟩ = false ∧
      ∀ y, OwE enc (setC h ⟨g, 0 + i * 1, none⟩ (enc y)) base t v (xs.set i y) := by
  obtain ⟨oa, c, rfl, hw⟩ := (show OwnH h base t 1 v xs.length (xs.map enc) from k).open
  obtain ⟨g, ha, hb, hlt, hc, hf⟩ := hw.at (i := i) (x := enc x) (by rw [List.getElem?_map, hx]; rfl)
  refine ⟨g, c, by rw [ha], hb, hlt, hc, hf, fun y => ?_⟩
  have hi : i < xs.length := (List.getElem?_eq_some_iff.1 hx).1
  have := (hw.set ha hi (enc y)).own
  unfold OwE
  rw [List.length_set, List.map_set]
  exact this

/-- A row that is filled from its front. -/
theorem fill_set {α : Type} {l : List α} {z : α} {n i : Nat} (hl : l.length = n) (hi : i < n) : (l.take i ++ List.replicate (n - i) z).set i l[i] = l.take (i + 1) ++ List.replicate (n - (i + 1)) z := by
  rw [List.set_append_right _ _ (by simp; omega)]
  have e1 : i - (l.take i).length = 0 := by simp; omega
  have e2 : n - i = (n - (i + 1)) + 1 := by omega
  rw [e1, e2, List.replicate_succ, List.set_cons_zero, List.take_succ_eq_append_getElem (by omega), List.append_assoc]
  rfl

theorem fill_get {α : Type} {l : List α} {z : α} {n i : Nat} (hl : l.length = n) (hi : i < n) : (l.take i ++ List.replicate (n - i) z)[i]? = some z := by
  have h1 : (l.take i).length = i := by rw [List.length_take]; omega
  rw [List.getElem?_append_right (by omega), h1, Nat.sub_self, List.getElem?_replicate, if_pos (by omega)]
theorem fill_len {α : Type} {l : List α} {z : α} {n i : Nat} (hl : l.length = n) (hi : i ≤ n) : (l.take i ++ List.replicate (n - i) z).length = n := by
  rw [List.length_append, List.length_take, List.length_replicate]; omega

/-- What is read of a slice, as an append wants it. -/
theorem SlR.row {α : Type} {enc : α → Value} {h1 : ∀ x, (enc x).oneCell' = true} {h : Heap} {O : Nat → Prop} {oa : Option Addr} {n c : Nat} {xs : List α} (k : SlR (.flat enc h1) h O (.slice oa n c) xs) : xs.length = n ∧ (n = 0 ∨ ∃ b o, oa = some ⟨b, o, none⟩ ∧ rowAt h b o (xs.map enc)) ∧ n ≤ maxLen := by
  obtain ⟨oa', n', c', hv, hl, hc, hm, hg⟩ := k
  cases hv
  have hs : Sl (.flat enc h1) h O oa n c xs := ⟨hl, hc, hm, hg⟩
  exact ⟨hl, Sl.row hs, by omega⟩

/-- One record, alone in a new row of one's own. -/
theorem OwR.made1 {α : Type} {sz : Nat} {enc : α → List Value} (hl : ∀ x, (enc x).length = sz) (h : Heap) (x : α) (t : TypeId) (base : Nat) (hb : base ≤ h.size) {cs : List Value} (hc : cs = enc x) : OwR sz enc (h.push (.cells cs.toArray t)) base t (.slice (some ⟨h.size, 0, none⟩) 1 1) [x] := by
  subst hc
  unfold OwR
  exact ⟨by simp [hl], .inr ⟨h.size, 1, (enc x).toArray, rfl, hb, by simp, Nat.le_refl _, by simp [maxLen], by simp [hl], by simp [← hl x]⟩⟩

theorem OwnH.raise {h : Heap} {base base' : Nat} {t : TypeId} {size : Nat} {v : Value} {n : Nat} {xs : List Value} (k : OwnH h base t size v n xs) (hb : ∀ b, v.ownBlock = some b → base' ≤ b) : OwnH h base' t size v n xs := by
  rcases k with ⟨k1, k2 | ⟨g, cap, cur, rfl, hg, k3⟩⟩
  · exact ⟨k1, .inl k2⟩
  · exact ⟨k1, .inr ⟨g, cap, cur, rfl, hb g rfl, k3⟩⟩

/-- A row that is written over from its front. -/
theorem mix_set {α : Type} {a b : List α} {n i : Nat} (ha : a.length = n) (hb : b.length = n) (hi : i < n) : (a.take i ++ b.drop i).set i a[i] = a.take (i + 1) ++ b.drop (i + 1) := by
  have h1 : (a.take i).length = i := by rw [List.length_take]; omega
  have hd : b.drop i = b[i] :: b.drop (i + 1) := List.drop_eq_getElem_cons (by omega)
  rw [List.set_append_right _ _ (by omega), hd, h1, Nat.sub_self, List.set_cons_zero, List.take_succ_eq_append_getElem (by omega), List.append_assoc]
  rfl
theorem mix_get {α : Type} {a b : List α} {n i : Nat} (ha : a.length = n) (hi : i < n) : (a.take i ++ b.drop i)[i]? = b[i]? := by
  have h1 : (a.take i).length = i := by rw [List.length_take]; omega
  rw [List.getElem?_append_right (by omega), h1, Nat.sub_self, List.getElem?_drop]; rfl
theorem mix_len {α : Type} {a b : List α} {n i : Nat} (ha : a.length = n) (hb : b.length = n) (hi : i ≤ n) : (a.take i ++ b.drop i).length = n := by
  rw [List.length_append, List.length_take, List.length_drop]; omega

end Go.Lw

/- The reference's rules: what is in one of both; how many sets a node has. -/
namespace Go.Proofs.YtlegopbpofofgaaDoor
open Go Go.Lw
set_option maxRecDepth 20000

theorem or_calls {h : Heap} {O O' : Nat → Prop} {va vb : Value} {a b : List Bool} (ha : SlR .bool h O va a) (hb : SlR .bool h O' vb b) (hl : a.length ≤ b.length) (hn : a.length ≤ 1000000) :
    CallsH Tryd.prog 64 #[va, vb] h (Ret fun r h' => OwE Value.bool h' h.size 4 r (orB a b) ∧ Ext0 h h') := by
  obtain ⟨oa, na, ca, rfl, hsa⟩ := ha.open
  obtain ⟨ob, nb, cb, rfl, hsb⟩ := hb.open
  have hna := hsa.len
  have hnb := hsb.len
  have hol : (orB a b).length = na := by simp [orB]; omega
  subst hna
  refine CallsH.of Tryd.func64 rfl rfl ?_
  refine G.seq rfl ?_
  refine G.reg Tryd.func64 rfl ?_
  refine RW.pureS rfl rfl rfl rfl (OpP.assign rfl) ?_
  refine RW.done rfl ?_
  refine G.sub (ρ' := [(0, _), (1, _), (4, _)]) ⟨rfl, rfl, rfl, trivial⟩ ?_
  refine G.seq rfl ?_
  refine G.reg Tryd.func64 rfl ?_
  refine RW.pureS rfl rfl rfl rfl (OpP.move rfl) ?_
  refine RW.pureS rfl rfl rfl rfl (OpP.lenSlice Tryd.underlying55 rfl) ?_
  refine RW.opS rfl rfl rfl rfl (OpX.makeOnes Tryd.underlying55 H.el4 H.zr4 rfl rfl rfl (by omega) (by decide)) ?_
  rintro _ h1 ⟨rfl, hk1, e1⟩
  refine RW.pureS rfl rfl rfl rfl (OpP.assign rfl) ?_
  refine RW.done rfl ?_
  refine G.sub (ρ' := [(0, _), (1, _), (4, _), (5, _)]) ⟨rfl, rfl, rfl, rfl, trivial⟩ ?_
  refine G.seq rfl ?_
  refine G.seq rfl ?_
  refine G.reg Tryd.func64 rfl ?_
  refine RW.pureS rfl rfl rfl rfl (OpP.assign rfl) ?_
  refine RW.done rfl ?_
  refine G.sub (ρ' := [(0, _), (1, _), (4, _), (5, _), (6, _)]) ⟨rfl, rfl, rfl, rfl, rfl, trivial⟩ ?_
  refine G.block rfl rfl ?_
  refine G.loop (σ := Nat) (fun i => [(0, .slice oa a.length ca), (1, .slice ob nb cb), (5, .slice (some ⟨h.size, 0, none⟩) a.length a.length), (6, .int .i64 (i : Nat))]) (fun i h' => i ≤ a.length ∧ Ext0 h h' ∧ OwE Value.bool h' h.size 4 (.slice (some ⟨h.size, 0, none⟩) a.length a.length) ((orB a b).take i ++ List.replicate (a.length - i) false)) (fun i => a.length - i) (0) rfl ⟨rfl, rfl, rfl, rfl, trivial⟩ ⟨Nat.zero_le _, e1, by unfold OwE; simpa using hk1⟩ ?_
  rintro i g ⟨hi, eg, ho⟩ ih
  refine G.seq rfl ?_
  refine G.seq rfl ?_
  refine G.reg Tryd.func64 rfl ?_
  refine RW.pureS rfl rfl rfl rfl (OpP.move rfl) ?_
  refine RW.pureS rfl rfl rfl rfl (OpP.move rfl) ?_
  refine RW.pureS rfl rfl rfl rfl (OpP.lenSlice Tryd.underlying55 rfl) ?_
  refine RW.pureS rfl rfl rfl rfl (OpP.lss rfl rfl) ?_
  refine RW.done rfl ?_
  refine G.sub (ρ' := [(0, _), (1, _), (5, _), (6, _), (13, _)]) ⟨rfl, rfl, rfl, rfl, rfl, trivial⟩ ?_
  refine G.ite rfl rfl (fun hlt => ?_) (fun hlt => ?_)
  · have hia : i < a.length := by omega
    have hsa' := hsa.mv (Mv.ext0 eg)
    have hsb' := hsb.mv (Mv.ext0 eg)
    obtain ⟨ba, oo, x, hoa, _, hx, hcx⟩ := hsa'.at hia
    obtain ⟨bb, oo2, y, hob, _, hy, hcy⟩ := hsb'.at (show i < nb by omega)
    obtain ⟨g', c', hv', _, _, hcell, hfz, hset⟩ := ho.at (fill_get hol hia)
    rw [fill_len hol hi] at hv'
    cases hv'
    have horx : (orB a b)[i]? = some (x || y) := by rw [orB, List.getElem?_zipWith, hx, hy]
    have hor : (orB a b)[i]'(by omega) = (x || y) := (List.getElem?_eq_some_iff.1 horx).2
    have hset := hset (x || y)
    have hfs := fill_set (l := orB a b) (z := false) hol hia
    rw [hor] at hfs
    rw [hfs] at hset
    have fin : ∀ d, d = (x || y) → ∀ g2, g2 = setC g ⟨h.size, 0 + i * 1, none⟩ (.bool d) → Ext0 h g2 ∧ OwE Value.bool g2 h.size 4 (.slice (some ⟨h.size, 0, none⟩) a.length a.length) ((orB a b).take (i + 1) ++ List.replicate (a.length - (i + 1)) false) := by
      rintro d rfl g2 rfl
      exact ⟨⟨by rw [setC_size]; exact eg.size, fun b hb k => by rw [(Ext.setC (M := fun b => b = h.size) g _ _ rfl).block b (by have := eg.size; omega) (by omega)]; exact eg.block b hb k⟩, hset⟩
    refine G.skip rfl ?_
    refine G.seq rfl ?_
    refine G.block rfl rfl ?_
    refine G.reg Tryd.func64 rfl ?_
    refine RW.pureS rfl rfl rfl rfl (OpP.move rfl) ?_
    refine RW.pureS rfl rfl rfl rfl (OpP.move rfl) ?_
    refine RW.pureS rfl rfl rfl rfl (OpP.move rfl) ?_
    refine RW.pureS rfl rfl rfl rfl (OpP.move rfl) ?_
    refine RW.pureS rfl rfl rfl rfl (OpP.indexSlice Tryd.underlying55 H.sz4 rfl rfl i rfl hoa (by omega)) ?_
    refine RW.pureS rfl rfl rfl rfl (OpP.load H.ag4 rfl hcx) ?_
    refine RW.pureS rfl rfl rfl rfl (OpP.move rfl) ?_
    refine RW.split (d := 22) rfl (fun hg => ?_) (fun hg => ?_)
    · refine RW.skipS rfl rfl rfl rfl ?_
      refine RW.skipS rfl rfl rfl rfl ?_
      refine RW.skipS rfl rfl rfl rfl ?_
      refine RW.skipS rfl rfl rfl rfl ?_
      refine RW.pureS rfl rfl rfl rfl (OpP.pickT rfl rfl) ?_
      refine RW.pureS rfl rfl rfl rfl (OpP.indexSlice Tryd.underlying55 H.sz4 rfl rfl i rfl rfl (by omega)) ?_
      refine RW.op0 rfl rfl rfl (OpX.store H.sz4 rfl rfl rfl hcell hfz) ?_
      rintro _ g2 ⟨rfl, hg2⟩
      refine RW.done rfl ?_
      refine G.sub (ρ' := [(0, _), (1, _), (5, _), (6, _), (13, _)]) ⟨rfl, rfl, rfl, rfl, rfl, trivial⟩ ?_
      refine G.blkEnd ?_
      refine G.reg Tryd.func64 rfl ?_
      refine RW.pureS rfl rfl rfl rfl (OpP.move rfl) ?_
      refine RW.pureS rfl rfl rfl rfl (OpP.add64 rfl rfl ⟨by omega, by omega⟩) ?_
      refine RW.pureS rfl rfl rfl rfl (OpP.assign rfl) ?_
      refine RW.done rfl ?_
      refine G.sub (ρ' := [(0, _), (1, _), (5, _), (6, _), (13, _)]) ⟨rfl, rfl, rfl, rfl, rfl, trivial⟩ ?_
      exact ih (i + 1) _ _ ⟨rfl, rfl, rfl, rfl, trivial⟩ ⟨hia, fin _ (by rw [hg]; rfl) g2 hg2⟩ (by omega)
    · refine RW.pureS rfl rfl rfl rfl (OpP.move rfl) ?_
      refine RW.pureS rfl rfl rfl rfl (OpP.move rfl) ?_
      refine RW.pureS rfl rfl rfl rfl (OpP.indexSlice Tryd.underlying55 H.sz4 rfl rfl i rfl hob (by omega)) ?_
      refine RW.pureS rfl rfl rfl rfl (OpP.load H.ag4 rfl hcy) ?_
      refine RW.pureS rfl rfl rfl rfl (OpP.pickF rfl rfl) ?_
      refine RW.pureS rfl rfl rfl rfl (OpP.indexSlice Tryd.underlying55 H.sz4 rfl rfl i rfl rfl (by omega)) ?_
      refine RW.op0 rfl rfl rfl (OpX.store H.sz4 rfl rfl rfl hcell hfz) ?_
      rintro _ g2 ⟨rfl, hg2⟩
      refine RW.done rfl ?_
      refine G.sub (ρ' := [(0, _), (1, _), (5, _), (6, _), (13, _)]) ⟨rfl, rfl, rfl, rfl, rfl, trivial⟩ ?_
      refine G.blkEnd ?_
      refine G.reg Tryd.func64 rfl ?_
      refine RW.pureS rfl rfl rfl rfl (OpP.move rfl) ?_
      refine RW.pureS rfl rfl rfl rfl (OpP.add64 rfl rfl ⟨by omega, by omega⟩) ?_
      refine RW.pureS rfl rfl rfl rfl (OpP.assign rfl) ?_
      refine RW.done rfl ?_
      refine G.sub (ρ' := [(0, _), (1, _), (5, _), (6, _), (13, _)]) ⟨rfl, rfl, rfl, rfl, rfl, trivial⟩ ?_
      exact ih (i + 1) _ _ ⟨rfl, rfl, rfl, rfl, trivial⟩ ⟨hia, fin _ (by rw [hg]; rfl) g2 hg2⟩ (by omega)
  · obtain rfl : i = a.length := by omega
    refine G.exit rfl rfl ?_
    refine G.seq rfl ?_
    refine G.reg Tryd.func64 rfl ?_
    refine RW.pureS rfl rfl rfl rfl (OpP.move rfl) ?_
    refine RW.pureS rfl rfl rfl rfl (OpP.assign rfl) ?_
    refine RW.done rfl ?_
    refine G.sub (ρ' := [(0, _), (1, _), (4, _), (5, _), (6, _), (13, _)]) ⟨rfl, rfl, rfl, rfl, rfl, rfl, trivial⟩ ?_
    refine G.ret Tryd.func64 rfl rfl ?_
    rw [List.take_of_length_le (by omega), Nat.sub_self, List.replicate_zero, List.append_nil] at ho
    exact ⟨_, rfl, ho, eg⟩

def CountOk (n : Nat) : Prop := ∀ {x : Nd} {h : Heap} {O : Nat → Prop} {w : Value}, szN x ≤ n → szN x ≤ 1000000 → NdAt h O (ndC x.kind x.set w) x →
  CallsH Tryd.prog 62 #[.agg (ndC x.kind x.set w).toArray] h (Ret fun r h' => r = .int .i64 (cnt x : Nat) ∧ Ext0 h h')

theorem count_ok : ∀ n, CountOk n := by
  intro n
  induction n with
  | zero => intro x h O w hn _ _; have := szN_pos x; omega
  | succ n ihn =>
    intro x h O w hn hbig hx
    obtain ⟨w', hw', hkids⟩ := hx.open
    have : w' = w := by simp [ndC] at hw'; exact hw'.symm
    subst this
    obtain ⟨oa, kn, kc, rfl, hsl⟩ := hkids.open
    have hkl := hsl.len
    have hkm := hsl.le
    have hkc := hsl.cap
    have hszl := szL_len x.kids
    have hsx : szL x.kids + 1 = szN x := by cases x; simp [szN, Nd.kids]
    have hcx : cnt x = (if x.kind = 1 then 1 else 0) + cntL x.kids := by cases x; rw [cnt]; rfl
    refine CallsH.of Tryd.func62 rfl rfl ?_
    refine G.seq rfl ?_
    refine G.reg Tryd.func62 rfl ?_
    refine RW.opS rfl rfl rfl rfl (OpX.boxN rfl) ?_
    rintro _ h1 ⟨rfl, hk1, e1, z1⟩
    refine RW.pureS rfl rfl rfl rfl (OpP.assign rfl) ?_
    refine RW.done rfl ?_
    refine G.sub (ρ' := [(0, _), (1, _), (2, _)]) ⟨rfl, rfl, rfl, trivial⟩ ?_
    refine G.seq rfl ?_
    refine G.reg Tryd.func62 rfl ?_
    refine RW.pureS rfl rfl rfl rfl (OpP.assign rfl) ?_
    refine RW.done rfl ?_
    refine G.sub (ρ' := [(0, _), (1, _), (2, _), (3, _)]) ⟨rfl, rfl, rfl, rfl, trivial⟩ ?_
    refine G.seq rfl ?_
    refine G.seq rfl ?_
    refine G.reg Tryd.func62 rfl ?_
    refine RW.pureS rfl rfl rfl rfl (OpP.fieldAddr (off := 0) Tryd.underlying94 rfl rfl H.sz3 rfl) ?_
    have hk1 : Blk h1 h.size 94 (ndC x.kind x.set (.slice oa kn kc)) := hk1
    have go : ∀ (_u : Unit) (h' : Heap) (ρ' : Env), Sub [(1, .pointer (some ⟨h.size, 0, none⟩)), (3, .int .i64 ((if x.kind = 1 then 1 else 0 : Nat) : Int))] ρ' → h' = h1 → G Tryd.prog 62 Tryd.f62 [.code [1, 1, 1]] ρ' h' (Ret fun r h' => r = .int .i64 (cnt x : Nat) ∧ Ext0 h h') := by
      rintro _u h1' ρ' hsub rfl
      refine G.sub (ρ' := [(1, .pointer (some ⟨h.size, 0, none⟩)), (3, .int .i64 ((if x.kind = 1 then 1 else 0 : Nat) : Int))]) hsub ?_
      refine G.seq rfl ?_
      refine G.seq rfl ?_
      refine G.reg Tryd.func62 rfl ?_
      refine RW.pureS rfl rfl rfl rfl (OpP.assign rfl) ?_
      refine RW.done rfl ?_
      refine G.sub (ρ' := [(1, _), (3, _), (4, _)]) ⟨rfl, rfl, rfl, trivial⟩ ?_
      refine G.block rfl rfl ?_
      refine G.loop (σ := Nat) (fun i => [(1, .pointer (some ⟨h.size, 0, none⟩)), (3, .int .i64 (((if x.kind = 1 then 1 else 0) + cntL (x.kids.take i) : Nat) : Int)), (4, .int .i64 (i : Nat))]) (fun i h' => i ≤ kn ∧ Ext0 h1' h') (fun i => kn - i) (0) rfl ⟨rfl, rfl, rfl, trivial⟩ ⟨Nat.zero_le _, Ext.refl _ _⟩ ?_
      rintro i g ⟨hi, eg⟩ ih
      have hkg := hk1.ext0 eg
      refine G.seq rfl ?_
      refine G.seq rfl ?_
      refine G.reg Tryd.func62 rfl ?_
      refine RW.pureS rfl rfl rfl rfl (OpP.move rfl) ?_
      refine RW.pureS rfl rfl rfl rfl (OpP.fieldAddr (off := 5) Tryd.underlying94 rfl rfl H.sz92 rfl) ?_
      refine RW.pureS rfl rfl rfl rfl (OpP.load H.ag92 rfl (hkg.cell (i := 5) rfl)) ?_
      refine RW.pureS rfl rfl rfl rfl (OpP.lenSlice Tryd.underlying92 rfl) ?_
      refine RW.pureS rfl rfl rfl rfl (OpP.lss rfl rfl) ?_
      refine RW.done rfl ?_
      refine G.sub (ρ' := [(1, _), (3, _), (4, _), (12, _)]) ⟨rfl, rfl, rfl, rfl, trivial⟩ ?_
      refine G.ite rfl rfl (fun hlt => ?_) (fun hlt => ?_)
      · have hik : i < x.kids.length := by omega
        obtain ⟨y, hy⟩ : ∃ y, x.kids[i]? = some y := ⟨_, List.getElem?_eq_getElem hik⟩
        have hsl' := hsl.mv (Mv.ext0 (e1.trans eg))
        obtain ⟨b, o, cs, ha, hob, hrow, hnd⟩ := hsl'.get i y hy
        obtain ⟨w2, rfl, _⟩ := NdAt.open hnd
        have hsy := szL_mem hy
        have hct := cntL_sz (x.kids.take (i + 1))
        have htk : cntL (x.kids.take (i + 1)) = cntL (x.kids.take i) + cnt y := by
          rw [List.take_add_one, hy, cntL_append]; simp [cntL]
        have hst : szL (x.kids.take (i + 1)) ≤ szL x.kids := by
          have : szL (x.kids.take (i + 1) ++ x.kids.drop (i + 1)) = szL x.kids := by rw [List.take_append_drop]
          rw [szL_append] at this; omega
        have hif : (if x.kind = 1 then 1 else 0 : Nat) ≤ 1 := by split <;> omega
        refine G.skip rfl ?_
        refine G.seq rfl ?_
        refine G.block rfl rfl ?_
        refine G.reg Tryd.func62 rfl ?_
        refine RW.pureS rfl rfl rfl rfl (OpP.move rfl) ?_
        refine RW.pureS rfl rfl rfl rfl (OpP.fieldAddr (off := 5) Tryd.underlying94 rfl rfl H.sz92 rfl) ?_
        refine RW.pureS rfl rfl rfl rfl (OpP.load H.ag92 rfl (hkg.cell (i := 5) rfl)) ?_
        refine RW.pureS rfl rfl rfl rfl (OpP.move rfl) ?_
        refine RW.pureS rfl rfl rfl rfl (OpP.indexSlice Tryd.underlying92 H.sz94 rfl rfl i rfl ha (by omega)) ?_
        refine RW.pureS rfl rfl rfl rfl (OpP.loadRowN H.ag94 H.sz94 rfl hrow (by first | rfl | simp)) ?_
        refine RW.opS rfl rfl rfl rfl (OpX.call (vs := [_]) Tryd.func62 rfl H.nm62 rfl (CallsH.toX (ihn (x := y) (by omega) (by omega) hnd))) ?_
        rintro _ g2 ⟨rfl, e2⟩
        refine RW.pureS rfl rfl rfl rfl (OpP.add64 rfl rfl ⟨by omega, by omega⟩) ?_
        refine RW.pureS rfl rfl rfl rfl (OpP.assign rfl) ?_
        refine RW.done rfl ?_
        refine G.sub (ρ' := [(1, _), (3, _), (4, _), (12, _)]) ⟨rfl, rfl, rfl, rfl, trivial⟩ ?_
        refine G.blkEnd ?_
        refine G.reg Tryd.func62 rfl ?_
        refine RW.pureS rfl rfl rfl rfl (OpP.move rfl) ?_
        refine RW.pureS rfl rfl rfl rfl (OpP.add64 rfl rfl ⟨by omega, by omega⟩) ?_
        refine RW.pureS rfl rfl rfl rfl (OpP.assign rfl) ?_
        refine RW.done rfl ?_
        refine G.sub (ρ' := [(1, _), (3, _), (4, _), (12, _)]) ⟨rfl, rfl, rfl, rfl, trivial⟩ ?_
        exact ih (i + 1) _ _ ⟨rfl, by show _ = _; rw [htk, ← Nat.add_assoc]; push_cast; rfl, rfl, trivial⟩ ⟨by omega, eg.trans e2⟩ (by omega)
      · have : i = x.kids.length := by omega
        subst this
        refine G.exit rfl rfl ?_
        refine G.seq rfl ?_
        refine G.reg Tryd.func62 rfl ?_
        refine RW.pureS rfl rfl rfl rfl (OpP.move rfl) ?_
        refine RW.pureS rfl rfl rfl rfl (OpP.assign rfl) ?_
        refine RW.done rfl ?_
        refine G.sub (ρ' := [(1, _), (2, _), (3, _), (4, _), (12, _)]) ⟨rfl, rfl, rfl, rfl, rfl, trivial⟩ ?_
        refine G.ret Tryd.func62 rfl rfl ?_
        exact ⟨_, rfl, by rw [List.take_length, hcx]; rfl, e1.trans eg⟩
    refine RW.pureS rfl rfl rfl rfl (OpP.load H.ag3 rfl (hk1.cell (i := 0) rfl)) ?_
    refine RW.pureS rfl rfl rfl rfl (OpP.eqlInt rfl rfl) ?_
    refine RW.done rfl ?_
    refine G.sub (ρ' := [(0, _), (1, _), (2, _), (3, _), (7, _)]) ⟨rfl, rfl, rfl, rfl, rfl, trivial⟩ ?_
    refine G.ite rfl rfl (fun hk => ?_) (fun hk => ?_)
    · have hk' : x.kind = 1 := by omega
      refine G.reg Tryd.func62 rfl ?_
      refine RW.pureS rfl rfl rfl rfl (OpP.assign rfl) ?_
      refine RW.done rfl ?_
      refine G.sub (ρ' := [(0, _), (1, _), (2, _), (3, _), (7, _)]) ⟨rfl, rfl, rfl, rfl, rfl, trivial⟩ ?_
      exact go () _ _ ⟨rfl, by rw [if_pos hk']; rfl, trivial⟩ rfl
    · have hk' : ¬ x.kind = 1 := by omega
      refine G.skip rfl ?_
      exact go () _ _ ⟨rfl, by rw [if_neg hk']; rfl, trivial⟩ rfl

end Go.Proofs.YtlegopbpofofgaaDoor

/- The reference's rule in memory; what may come behind what. -/
namespace Go.Proofs.YtlegopbpofofgaaDoor
open Go Go.Lw
set_option maxRecDepth 20000

/-- A row of truths, by its slice. -/
def RowAt (h : Heap) (O : Nat → Prop) (cs : List Value) (x : List Bool) : Prop := ∃ v, cs = [v] ∧ SlR .bool h O v x
def eRow : Elt (List Bool) := ⟨1, by decide, RowAt, fun h => by obtain ⟨v, rfl, _⟩ := h; rfl, fun h => by
    obtain ⟨v, rfl, hv⟩ := h
    intro u hu
    simp at hu; subst hu; exact SlR.isOne hv, fun h m => by
    obtain ⟨v, hc, hv⟩ := h; exact ⟨v, hc, hv.mv m⟩⟩

structure RuAt (h : Heap) (O : Nat → Prop) (rb : Nat) (vs vb vl : Value) (st : RuS) : Prop where
  blk : Blk h rb 57 [vs, vb, vl]
  sets : OwR 4 encSet h 0 60 vs st.1
  rows : OwX eRow (fun b => b = rb ∨ but vs.ownBlock b ∨ O b) h 0 55 vb st.2
  apart : ∀ b, vs.ownBlock = some b → vb.ownBlock ≠ some b
  ns : vs.ownBlock ≠ some rb
  nb : vb.ownBlock ≠ some rb

/-- What its functions may turn. -/
abbrev ruM (rb : Nat) (vs vb : Value) : Nat → Prop := fun b => b = rb ∨ but vs.ownBlock b ∨ but vb.ownBlock b

theorem RuAt.ownS {h : Heap} {O : Nat → Prop} {rb : Nat} {vs vb vl : Value} {st : RuS} (k : RuAt h O rb vs vb vl st) : ∀ b, vs.ownBlock = some b → b ≠ rb ∧ b < h.size := fun b hb => by
  have := OwnH.lt k.sets hb
  exact ⟨fun e => k.ns (by rw [hb, e]), this.2⟩
theorem RuAt.ownB {h : Heap} {O : Nat → Prop} {rb : Nat} {vs vb vl : Value} {st : RuS} (k : RuAt h O rb vs vb vl st) : ∀ b, vb.ownBlock = some b → b ≠ rb ∧ b < h.size := fun b hb => by
  obtain ⟨css, _, h2, _⟩ := k.rows
  have := h2.lt hb
  exact ⟨fun e => k.nb (by rw [hb, e]), this.2⟩
theorem RuAt.ext {M : Nat → Prop} {O O' : Nat → Prop} {h h' : Heap} {rb : Nat} {vs vb vl : Value} {st : RuS} (k : RuAt h O rb vs vb vl st) (e : Ext M h h') (hM' : ∀ b, ruM rb vs vb b → ¬ M b) (hM : ∀ b, b < h.size → M b → O b) (hO : ∀ b, b < h.size → O' b → O b) : RuAt h' O' rb vs vb vl st :=
  ⟨k.blk.ext e (hM' _ (.inl rfl)), OwnH.ext e k.sets (fun _ hb => hM' _ (.inr (.inl hb.symm))), k.rows.mv2 e (fun _ hb => hM' _ (.inr (.inr hb.symm))) (fun b hb hm => .inr (.inr (hM b hb hm))) (fun b hb k => k.imp id (fun k => k.imp id (hO b hb))), k.apart, k.ns, k.nb⟩
theorem RuAt.ext0 {O O' : Nat → Prop} {h h' : Heap} {rb : Nat} {vs vb vl : Value} {st : RuS} (k : RuAt h O rb vs vb vl st) (e : Ext0 h h') (hO : ∀ b, b < h.size → O' b → O b) : RuAt h' O' rb vs vb vl st := k.ext e (fun _ _ k => k) (fun _ _ k => k.elim) hO

theorem followB_at {last first : List Bool} {bh : List (List Bool)} {i : Nat} {l : Bool} {b : List Bool} (hl : last[i]? = some l) (hb : bh[i]? = some b) : (followB last first bh)[i]? = some (if l then orB b first else b) := by
  rw [followB, List.getElem?_zipWith, hl, hb]

theorem follow_calls {h : Heap} {O : Nat → Prop} {rb : Nat} {vs vb vl vlast vfirst : Value} {st : RuS} {last first : List Bool} {n : Nat} (hr : RuAt h O rb vs vb vl st) (hO : ∀ b, O b → b < h.size) (hlast : SlR .bool h (fun b => ruM rb vs vb b) vlast last) (hfirst : SlR .bool h (fun b => ruM rb vs vb b) vfirst first)
    (hok : RuOk n st) (hll : last.length = n) (hfl : first.length = n) (hn : n ≤ 1000000) :
    CallsH Tryd.prog 81 #[.pointer (some ⟨rb, 0, none⟩), vlast, vfirst] h (Ret fun _ h' => RuAt h' O rb vs vb vl (st.1, followB last first st.2) ∧ Ext (but vb.ownBlock) h h') := by
  obtain ⟨ol, nl, cl, rfl, hsl⟩ := hlast.open
  obtain ⟨of, nf, cf, rfl, hsf⟩ := hfirst.open
  have hnl := hsl.len
  have hnf := hsf.len
  have hrows := hok.rows
  have hfb : (followB last first st.2).length = n := by simp [followB]; omega
  have hownS := hr.ownS
  have hownB := hr.ownB
  have hrb := hr.blk.lt
  refine CallsH.of Tryd.func81 rfl rfl ?_
  refine G.seq rfl ?_
  refine G.reg Tryd.func81 rfl ?_
  refine RW.pureS rfl rfl rfl rfl (OpP.assign rfl) ?_
  refine RW.done rfl ?_
  refine G.sub (ρ' := [(0, _), (1, _), (2, _), (6, _)]) ⟨rfl, rfl, rfl, rfl, trivial⟩ ?_
  refine G.block rfl rfl ?_
  refine G.loop (σ := Nat) (fun i => [(0, .pointer (some ⟨rb, 0, none⟩)), (1, .slice ol nl cl), (2, .slice of nf cf), (6, .int .i64 (i : Nat))]) (fun i h' => i ≤ n ∧ RuAt h' O rb vs vb vl (st.1, (followB last first st.2).take i ++ st.2.drop i) ∧ Ext (but vb.ownBlock) h h') (fun i => n - i) (0) rfl ⟨rfl, rfl, rfl, rfl, trivial⟩ ⟨Nat.zero_le _, hr, Ext.refl _ _⟩ ?_
  rintro i g ⟨hi, hg, eg⟩ ih
  have hzg := eg.size
  refine G.seq rfl ?_
  refine G.seq rfl ?_
  refine G.reg Tryd.func81 rfl ?_
  refine RW.pureS rfl rfl rfl rfl (OpP.move rfl) ?_
  refine RW.pureS rfl rfl rfl rfl (OpP.move rfl) ?_
  refine RW.pureS rfl rfl rfl rfl (OpP.lenSlice Tryd.underlying55 rfl) ?_
  refine RW.pureS rfl rfl rfl rfl (OpP.lss rfl rfl) ?_
  refine RW.done rfl ?_
  refine G.sub (ρ' := [(0, _), (1, _), (2, _), (6, _), (10, _)]) ⟨rfl, rfl, rfl, rfl, rfl, trivial⟩ ?_
  refine G.ite rfl rfl (fun hlt => ?_) (fun hlt => ?_)
  · have hin : i < n := by omega
    have hmv : Mv (fun b => ruM rb vs vb b) (fun b => ruM rb vs vb b) h g := Mv.ofExt eg (fun b _ k => ⟨fun k2 => k (.inr (.inr k2)), k⟩)
    have hslg := hsl.mv hmv
    have hsfg := hsf.mv hmv
    obtain ⟨bl, oo, x, hol, _, hx, hcx⟩ := hslg.at (show i < nl by omega)
    obtain ⟨row, hrow⟩ : ∃ row, st.2[i]? = some row := ⟨_, List.getElem?_eq_getElem (by omega)⟩
    have hrl := hok.each row (List.mem_of_getElem? hrow)
    have hfa := followB_at (first := first) hx hrow
    have hcur : ((followB last first st.2).take i ++ st.2.drop i)[i]? = some row := by
      have h1 : ((followB last first st.2).take i).length = i := by rw [List.length_take]; omega
      rw [List.getElem?_append_right (by omega), h1, Nat.sub_self, List.getElem?_drop]; exact hrow
    have hlen : ((followB last first st.2).take i ++ st.2.drop i).length = n := by rw [List.length_append, List.length_take, List.length_drop]; omega
    have hnext : ∀ z, (followB last first st.2)[i]? = some z → ((followB last first st.2).take i ++ st.2.drop i).set i z = (followB last first st.2).take (i + 1) ++ st.2.drop (i + 1) := by
      intro z hz
      obtain ⟨hil, hz⟩ := List.getElem?_eq_some_iff.1 hz
      have hd : st.2.drop i = st.2[i] :: st.2.drop (i + 1) := List.drop_eq_getElem_cons (by omega)
      rw [List.set_append_right _ _ (by rw [List.length_take]; omega), hd]
      have h1 : ((followB last first st.2).take i).length = i := by rw [List.length_take]; omega
      rw [h1, Nat.sub_self, List.set_cons_zero, List.take_succ_eq_append_getElem hil, hz, List.append_assoc]
      rfl
    refine G.skip rfl ?_
    refine G.seq rfl ?_
    refine G.block rfl rfl ?_
    refine G.seq rfl ?_
    refine G.reg Tryd.func81 rfl ?_
    refine RW.pureS rfl rfl rfl rfl (OpP.move rfl) ?_
    refine RW.pureS rfl rfl rfl rfl (OpP.move rfl) ?_
    refine RW.pureS rfl rfl rfl rfl (OpP.indexSlice Tryd.underlying55 H.sz4 rfl rfl i rfl hol (by omega)) ?_
    refine RW.pureS rfl rfl rfl rfl (OpP.load H.ag4 rfl hcx) ?_
    refine RW.done rfl ?_
    refine G.sub (ρ' := [(0, _), (1, _), (2, _), (6, _), (10, _), (16, _)]) ⟨rfl, rfl, rfl, rfl, rfl, rfl, trivial⟩ ?_
    refine G.cond rfl rfl (fun hb => ?_) (fun hb => ?_)
    · subst hb
      have hz := hnext _ hfa
      rw [if_pos rfl] at hz
      obtain ⟨gb, c, cs, hvb, hgb1, hgb2, hra, hfz, ⟨w, rfl, hw⟩, hput⟩ := hg.rows.put hcur
      rw [hlen] at hvb
      subst hvb
      have hbb : @but (some gb) gb := rfl
      refine G.draw (fun b => Array.size g ≤ b) (fun i => Nat.blt i 15) (sz := 16) (listed := #[false, false, false, false, false, false, false, false, false, false, false, false, false, false, false, false]) Tryd.func81 H.mixed rfl rfl rfl ?_
      refine RD.takeS 0 (listed' := #[true, false, false, false, false, false, false, false, false, false, false, false, false, false, false, false]) rfl (by kernel_rfl) (by kernel_rfl) (by kernel_rfl) rfl rfl rfl (fun h' e => OpP.move rfl) rfl ?_
      refine RD.takeS 1 (listed' := #[true, true, false, false, false, false, false, false, false, false, false, false, false, false, false, false]) rfl (by kernel_rfl) (by kernel_rfl) (by kernel_rfl) rfl rfl rfl (fun h' e => OpP.nilCheck rfl) rfl ?_
      refine RD.takeS 2 (listed' := #[true, true, true, false, false, false, false, false, false, false, false, false, false, false, false, false]) rfl (by kernel_rfl) (by kernel_rfl) (by kernel_rfl) rfl rfl rfl (fun h' e => OpP.fieldAddr (off := 1) Tryd.underlying57 rfl rfl H.sz54 rfl) rfl ?_
      refine RD.takeS 3 (listed' := #[true, true, true, true, false, false, false, false, false, false, false, false, false, false, false, false]) rfl (by kernel_rfl) (by kernel_rfl) (by kernel_rfl) rfl rfl rfl (fun h' e => OpP.load H.ag54 rfl (e.old (hg.blk.cell (i := 1) rfl))) rfl ?_
      refine RD.takeS 4 (listed' := #[true, true, true, true, true, false, false, false, false, false, false, false, false, false, false, false]) rfl (by kernel_rfl) (by kernel_rfl) (by kernel_rfl) rfl rfl rfl (fun h' e => OpP.move rfl) rfl ?_
      refine RD.takeS 5 (listed' := #[true, true, true, true, true, true, false, false, false, false, false, false, false, false, false, false]) rfl (by kernel_rfl) (by kernel_rfl) (by kernel_rfl) rfl rfl rfl (fun h' e => OpP.move rfl) rfl ?_
      refine RD.takeS 6 (listed' := #[true, true, true, true, true, true, true, false, false, false, false, false, false, false, false, false]) rfl (by kernel_rfl) (by kernel_rfl) (by kernel_rfl) rfl rfl rfl (fun h' e => OpP.nilCheck rfl) rfl ?_
      refine RD.takeS 7 (listed' := #[true, true, true, true, true, true, true, true, false, false, false, false, false, false, false, false]) rfl (by kernel_rfl) (by kernel_rfl) (by kernel_rfl) rfl rfl rfl (fun h' e => OpP.fieldAddr (off := 1) Tryd.underlying57 rfl rfl H.sz54 rfl) rfl ?_
      refine RD.takeS 8 (listed' := #[true, true, true, true, true, true, true, true, true, false, false, false, false, false, false, false]) rfl (by kernel_rfl) (by kernel_rfl) (by kernel_rfl) rfl rfl rfl (fun h' e => OpP.load H.ag54 rfl (e.old (hg.blk.cell (i := 1) rfl))) rfl ?_
      refine RD.takeS 9 (listed' := #[true, true, true, true, true, true, true, true, true, true, false, false, false, false, false, false]) rfl (by kernel_rfl) (by kernel_rfl) (by kernel_rfl) rfl rfl rfl (fun h' e => OpP.move rfl) rfl ?_
      refine RD.takeS 10 (listed' := #[true, true, true, true, true, true, true, true, true, true, true, false, false, false, false, false]) rfl (by kernel_rfl) (by kernel_rfl) (by kernel_rfl) rfl rfl rfl (fun h' e => OpP.indexSlice Tryd.underlying54 H.sz55 rfl rfl i rfl rfl (by omega)) rfl ?_
      refine RD.takeS 11 (listed' := #[true, true, true, true, true, true, true, true, true, true, true, true, false, false, false, false]) rfl (by kernel_rfl) (by kernel_rfl) (by kernel_rfl) rfl rfl rfl (fun h' e => OpP.load H.ag55 rfl (e.old (hra 0 _ rfl))) rfl ?_
      refine RD.takeS 12 (listed' := #[true, true, true, true, true, true, true, true, true, true, true, true, true, false, false, false]) rfl (by kernel_rfl) (by kernel_rfl) (by kernel_rfl) rfl rfl rfl (fun h' e => OpP.move rfl) rfl ?_
      refine RD.oneS 13 (listed' := #[true, true, true, true, true, true, true, true, true, true, true, true, true, true, false, false]) rfl (by kernel_rfl) rfl rfl rfl (OpX.call (vs := [_, _]) Tryd.func64 rfl H.nm64 rfl (CallsH.toX (or_calls hw hsfg.shut (by omega) (by omega)))) rfl ?_
      rintro w1 g1 ⟨ho1, e1⟩
      refine ⟨fun _ => e1.mono (fun _ _ k => k.elim), ?_⟩
      have hg1 : RuAt g1 O rb vs (.slice (some ⟨gb, 0, none⟩) n c) vl (st.1, (followB last first st.2).take i ++ st.2.drop i) := hg.ext0 e1 (fun _ _ k => k)
      have hz1 := e1.size
      obtain ⟨gb', c', cs1, hvb1, _, _, hra1, hfz1, ⟨w2, rfl, hw2⟩, hput1⟩ := hg1.rows.put hcur
      rw [hlen] at hvb1
      cases hvb1
      obtain ⟨wa, wc, rfl, _⟩ := (show OwnH g1 g.size 4 1 w1 (orB row first).length ((orB row first).map Value.bool) from ho1).open
      have hnew := hput1 0 (.slice wa (orB row first).length wc) (orB row first) (by decide) ⟨_, rfl, OwE.read (h1 := fun _ => rfl) ho1 (fun b hb k => by
        rcases k with k | k | k | k
        · have := hownB b k.symm; omega
        · omega
        · have := hownS b k.symm; omega
        · have := hO b k; omega)⟩
      rw [hz] at hnew
      refine RD.takeS 14 (listed' := #[true, true, true, true, true, true, true, true, true, true, true, true, true, true, true, false]) rfl (by kernel_rfl) (by kernel_rfl) (by kernel_rfl) rfl rfl rfl (fun h' e => OpP.indexSlice Tryd.underlying54 H.sz55 rfl rfl i rfl rfl (by omega)) rfl ?_
      refine RD.one0 15 (listed' := #[true, true, true, true, true, true, true, true, true, true, true, true, true, true, true, true]) rfl (by kernel_rfl) rfl rfl (OpX.store H.sz55 rfl rfl rfl (hra1 0 _ rfl) (hfz1 _)) rfl ?_
      rintro _ g2 ⟨rfl, hg2⟩
      refine ⟨fun hk => (nomatch hk), ?_⟩
      have x2 : Ext (fun b => b = gb) g1 g2 := by rw [hg2]; exact Ext.setC _ _ _ rfl
      have e02 : Ext (but (Value.slice (some ⟨gb, 0, none⟩) n c).ownBlock) h g2 := ⟨by have := x2.size; omega, fun b hb k => by
        rw [x2.block b (by omega) (fun e => k (by subst e; rfl)), e1.block b (by omega) (fun k => k)]; exact eg.block b hb k⟩
      have hgs : vs.ownBlock ≠ some gb := fun e => hr.apart gb e rfl
      have hg3 : RuAt g2 O rb vs (.slice (some ⟨gb, 0, none⟩) n c) vl (st.1, (followB last first st.2).take (i + 1) ++ st.2.drop (i + 1)) :=
        ⟨hg1.blk.ext x2 (by show ¬ _ = _; have := (hownB gb rfl).1; omega), OwnH.ext x2 hg1.sets (fun b hb e => hgs (by subst e; exact hb)), by rw [hg2]; exact hnew, hr.apart, hr.ns, hr.nb⟩
      refine RD.done (by kernel_rfl) ?_
      refine G.sub (ρ' := [(0, _), (1, _), (2, _), (6, _), (10, _), (16, _)]) ⟨rfl, rfl, rfl, rfl, rfl, rfl, trivial⟩ ?_
      refine G.blkEnd ?_
      refine G.reg Tryd.func81 rfl ?_
      refine RW.pureS rfl rfl rfl rfl (OpP.move rfl) ?_
      refine RW.pureS rfl rfl rfl rfl (OpP.add64 rfl rfl ⟨by omega, by omega⟩) ?_
      refine RW.pureS rfl rfl rfl rfl (OpP.assign rfl) ?_
      refine RW.done rfl ?_
      refine G.sub (ρ' := [(0, _), (1, _), (2, _), (6, _), (10, _), (16, _)]) ⟨rfl, rfl, rfl, rfl, rfl, rfl, trivial⟩ ?_
      exact ih (i + 1) _ _ ⟨rfl, rfl, rfl, rfl, trivial⟩ ⟨hin, hg3, e02⟩ (by omega)
    · subst hb
      have hz := hnext _ hfa
      rw [if_neg (by decide)] at hz
      have hset : ((followB last first st.2).take i ++ st.2.drop i).set i row = (followB last first st.2).take i ++ st.2.drop i := by
        obtain ⟨hi', hrow'⟩ := List.getElem?_eq_some_iff.1 hcur
        rw [← hrow', List.set_getElem_self]
      rw [hset] at hz
      rw [hz] at hg
      refine G.skip rfl ?_
      refine G.blkEnd ?_
      refine G.reg Tryd.func81 rfl ?_
      refine RW.pureS rfl rfl rfl rfl (OpP.move rfl) ?_
      refine RW.pureS rfl rfl rfl rfl (OpP.add64 rfl rfl ⟨by omega, by omega⟩) ?_
      refine RW.pureS rfl rfl rfl rfl (OpP.assign rfl) ?_
      refine RW.done rfl ?_
      refine G.sub (ρ' := [(0, _), (1, _), (2, _), (6, _), (10, _), (16, _)]) ⟨rfl, rfl, rfl, rfl, rfl, rfl, trivial⟩ ?_
      exact ih (i + 1) _ _ ⟨rfl, rfl, rfl, rfl, trivial⟩ ⟨hin, hg, eg⟩ (by omega)
  · obtain rfl : i = n := by omega
    rw [List.take_of_length_le (by omega), List.drop_of_length_le (by omega), List.append_nil] at hg
    refine G.exit rfl rfl ?_
    refine G.fall Tryd.func81 rfl ?_
    exact ⟨_, rfl, hg, eg⟩

end Go.Proofs.YtlegopbpofofgaaDoor

/- A node's part is laid: the frame of it. -/
namespace Go.Proofs.YtlegopbpofofgaaDoor
open Go Go.Lw
set_option maxRecDepth 20000

/-- O, and blocks of the call's own. -/
def ruO (O L : Nat → Prop) : Nat → Prop := fun b => O b ∨ L b

/-- From h to g the rule's alone has turned. -/
structure RuL (O : Nat → Prop) (rb : Nat) (vs vb vl : Value) (h : Heap) (L : Nat → Prop) (hi : Nat) (g : Heap) (vs' : Value) (st' : RuS) : Prop where
  at_ : RuAt g (ruO O L) rb vs' vb vl st'
  ext : Ext (ruM rb vs vb) h g
  own : ∀ b, vs'.ownBlock = some b → vs.ownBlock = some b ∨ hi ≤ b
  size : hi ≤ g.size
  base : h.size ≤ hi
  lt : ∀ b, ruM rb vs vb b → b < h.size
  o : ∀ b, O b → b < h.size
  l : ∀ b, L b → h.size ≤ b ∧ b < hi

/-- Where what is told may not lie. -/
abbrev ruQ (O : Nat → Prop) (rb : Nat) (vs' vb : Value) (L : Nat → Prop) : Nat → Prop := fun b => ruM rb vs' vb b ∨ ruO O L b

section
variable {O L : Nat → Prop} {rb : Nat} {vs vb vl vs' vs2 : Value} {h g g2 : Heap} {hi : Nat} {st' st2 : RuS}

theorem RuL.loc (k : RuL O rb vs vb vl h L hi g vs' st') : ∀ b, L b → ¬ ruM rb vs' vb b := by
  intro b hb
  obtain ⟨h1, h2⟩ := k.l b hb
  rintro (k1 | k1 | k1)
  · have := k.lt rb (.inl rfl); omega
  · rcases k.own b k1.symm with k2 | k2
    · have := k.lt b (.inr (.inl k2.symm)); omega
    · omega
  · have := k.lt b (.inr (.inr k1)); omega
theorem RuL.qlt (k : RuL O rb vs vb vl h L hi g vs' st') : ∀ b, ruQ O rb vs' vb L b → b < g.size := by
  have hs := k.size
  have hb := k.base
  rintro b ((k1 | k1 | k1) | k1 | k1)
  · have := k.lt rb (.inl rfl); omega
  · exact (k.at_.ownS b k1.symm).2
  · exact (k.at_.ownB b k1.symm).2
  · have := k.o b k1; omega
  · have := k.l b k1; omega
theorem RuL.old (k : RuL O rb vs vb vl h L hi g vs' st') : Mv (ruM rb vs vb) (ruM rb vs' vb) h g :=
  ⟨k.ext.size, fun b hb hn => ⟨k.ext.block b hb hn, by
    have hbs := k.base
    rintro (k1 | k1 | k1)
    · exact hn (.inl k1)
    · rcases k.own b k1.symm with k2 | k2
      · exact hn (.inr (.inl k2.symm))
      · omega
    · exact hn (.inr (.inr k1))⟩⟩
theorem RuL.ext0 (k : RuL O rb vs vb vl h L hi g vs' st') (e : Ext0 g g2) : RuL O rb vs vb vl h L hi g2 vs' st' :=
  ⟨k.at_.ext0 e (fun _ _ k => k), ⟨Nat.le_trans k.ext.size e.size, fun b hb hn => (e.block b (Nat.lt_of_lt_of_le hb k.ext.size) (fun k => k)).trans (k.ext.block b hb hn)⟩, k.own, Nat.le_trans k.size e.size, k.base, k.lt, k.o, k.l⟩
theorem RuL.put (k : RuL O rb vs vb vl h L hi g vs' st') {x : Nat} (e : Ext (fun b => b = x) g g2) (hx : L x) : RuL O rb vs vb vl h L hi g2 vs' st' :=
  ⟨k.at_.ext e (fun b hb hx' => by subst hx'; exact k.loc b hx hb) (fun b _ hx' => by subst hx'; exact .inr hx) (fun _ _ k => k),
   ⟨Nat.le_trans k.ext.size e.size, fun b hb hn => (e.block b (Nat.lt_of_lt_of_le hb k.ext.size) (by have := k.l x hx; omega)).trans (k.ext.block b hb hn)⟩, k.own, Nat.le_trans k.size e.size, k.base, k.lt, k.o, k.l⟩
theorem RuL.putQ (_ : RuL O rb vs vb vl h L hi g vs' st') {x : Nat} (e : Ext (fun b => b = x) g g2) (hx : L x) : Mv (ruQ O rb vs' vb L) (ruQ O rb vs' vb L) g g2 :=
  Mv.ofExt e fun b _ hq => ⟨fun hx' => hq (.inr (.inr (by subst hx'; exact hx))), hq⟩
/-- Behind a call of lay. -/
theorem RuL.sub (k : RuL O rb vs vb vl h L hi g vs' st') (a : RuAt g2 (ruO O L) rb vs2 vb vl st2) (e : Ext (ruM rb vs' vb) g g2) (ho : ∀ b, vs2.ownBlock = some b → vs'.ownBlock = some b ∨ g.size ≤ b) : RuL O rb vs vb vl h L hi g2 vs2 st2 :=
  ⟨a, ⟨Nat.le_trans k.ext.size e.size, fun b hb hn => (e.block b (Nat.lt_of_lt_of_le hb k.ext.size) (k.old.block b hb hn).2).trans (k.ext.block b hb hn)⟩,
   fun b hb => by
     have hs := k.size
     rcases ho b hb with k1 | k1
     · exact k.own b k1
     · exact .inr (by omega), Nat.le_trans k.size e.size, k.base, k.lt, k.o, k.l⟩
theorem RuL.subQ (_ : RuL O rb vs vb vl h L hi g vs' st') (e : Ext (ruM rb vs' vb) g g2) (ho : ∀ b, vs2.ownBlock = some b → vs'.ownBlock = some b ∨ g.size ≤ b) : Mv (ruQ O rb vs' vb L) (ruQ O rb vs2 vb L) g g2 :=
  ⟨e.size, fun b hb hn => ⟨e.block b hb (fun k => hn (.inl k)), by
    rintro ((k1 | k1 | k1) | k1)
    · exact hn (.inl (.inl k1))
    · rcases ho b k1.symm with k2 | k2
      · exact hn (.inl (.inr (.inl k2.symm)))
      · omega
    · exact hn (.inl (.inr (.inr k1)))
    · exact hn (.inr k1)⟩⟩
/-- Behind a call of follow. -/
theorem RuL.fol (k : RuL O rb vs vb vl h L hi g vs' st') (a : RuAt g2 (ruO O L) rb vs' vb vl st2) (e : Ext (but vb.ownBlock) g g2) : RuL O rb vs vb vl h L hi g2 vs' st2 :=
  k.sub a (e.mono fun _ _ k => .inr (.inr k)) (fun _ k => .inl k)
theorem RuL.folQ (k : RuL O rb vs vb vl h L hi g vs' st') (e : Ext (but vb.ownBlock) g g2) : Mv (ruQ O rb vs' vb L) (ruQ O rb vs' vb L) g g2 := k.subQ (e.mono fun _ _ k => .inr (.inr k)) (fun _ k => .inl k)
theorem SlR.less {α : Type} {e : Elt α} {Q Q' : Nat → Prop} {v : Value} {xs : List α} (k : SlR e h Q v xs) (hq : ∀ b, Q' b → Q b) : SlR e h Q' v xs := k.mv ⟨Nat.le_refl _, fun b _ hn => ⟨rfl, fun k => hn (hq b k)⟩⟩

/-- The call's own blocks: the node, the part that is handed back, and one more. -/
structure LocB (b4 b6 : Nat) (nd : List Value) (g : Heap) : Prop where
  k4 : Blk g b4 94 nd
  k6 : Blk g b6 124 [.bool false, .slice none 0 0, .slice none 0 0]
theorem LocB.ext0 {g g2 : Heap} {b4 b6 : Nat} {nd : List Value} (k : LocB b4 b6 nd g) (e : Ext0 g g2) : LocB b4 b6 nd g2 := ⟨k.k4.ext0 e, k.k6.ext0 e⟩
theorem LocB.ext {M : Nat → Prop} {g g2 : Heap} {b4 b6 : Nat} {nd : List Value} (k : LocB b4 b6 nd g) (e : Ext M g g2) (h4 : ¬ M b4) (h6 : ¬ M b6) : LocB b4 b6 nd g2 := ⟨k.k4.ext e h4, k.k6.ext e h6⟩

/-- What lay hands back. -/
def LayRV (O : Nat → Prop) (rb : Nat) (h : Heap) (vs vb vl : Value) (out : PartP × RuS) (r : Value) (h' : Heap) : Prop :=
  ∃ vs' f l, r = .agg #[.bool out.1.null, f, l] ∧ RuAt h' O rb vs' vb vl out.2 ∧ SlR .bool h' (fun b => ruM rb vs' vb b ∨ O b) f out.1.first ∧ SlR .bool h' (fun b => ruM rb vs' vb b ∨ O b) l out.1.last ∧ Ext (ruM rb vs vb) h h' ∧ (∀ b, vs'.ownBlock = some b → vs.ownBlock = some b ∨ h.size ≤ b)

theorem RuL.fin (k : RuL O rb vs vb vl h L hi g vs' st') {p : PartP} {f l : Value} (hf : SlR .bool g (ruQ O rb vs' vb L) f p.first) (hl : SlR .bool g (ruQ O rb vs' vb L) l p.last) : LayRV O rb h vs vb vl (p, st') (.agg #[.bool p.null, f, l]) g :=
  ⟨vs', f, l, rfl, k.at_.ext0 (Ext.refl _ _) (fun _ _ k => .inl k), SlR.less hf (fun _ k => k.imp id .inl), SlR.less hl (fun _ k => k.imp id .inl), k.ext, fun b hb => (k.own b hb).imp id (fun k1 => Nat.le_trans k.base k1)⟩
end

def LayROk (m : Nat) : Prop := ∀ {x : Nd} {h : Heap} {O : Nat → Prop} {rb : Nat} {vs vb vl w : Value} {st : RuS} {n : Nat}, szN x ≤ m → RuAt h O rb vs vb vl st → (∀ b, O b → b < h.size) → NdAt h (ruM rb vs vb) (ndC x.kind x.set w) x → wfN x = true → RuOk n st → st.1.length + cnt x ≤ n → n ≤ 1000000 →
  CallsH Tryd.prog 63 #[.pointer (some ⟨rb, 0, none⟩), .agg (ndC x.kind x.set w).toArray, .int .i64 (n : Nat)] h (Ret (LayRV O rb h vs vb vl (glu n x st)))

theorem kkR {k j : Nat} (h : ¬ ((k : Nat) : Int) = (j : Nat)) : ¬ k = j := fun e => h (by rw [e])

theorem layR_kind {m : Nat} (ih : LayROk m) : LayROk (m + 1) := by
  intro x h O rb vs vb vl w st n hsz hr hO hx hw hok hroom hn
  obtain ⟨k, s, kids⟩ := x
  simp only [szN] at hsz
  simp only [cnt] at hroom
  have hrb := hr.blk.lt
  have hltM : ∀ b, ruM rb vs vb b → b < h.size := by
    rintro b (k1 | k1 | k1)
    · omega
    · exact (hr.ownS b k1.symm).2
    · exact (hr.ownB b k1.symm).2
  obtain ⟨w', hw', hkids⟩ := hx.open
  have hww : w = w' := by simpa [ndC] using hw'
  subst hww
  show CallsH _ _ #[_, .agg (ndC k s w).toArray, _] h _
  replace hkids : SlR eNd h (ruM rb vs vb) w kids := hkids
  obtain ⟨oa, kn, kc, rfl, hsl⟩ := hkids.open
  have hkn : kids.length = kn := hsl.len
  have hkm := hsl.le
  have hkc := hsl.cap
  have hkc2 := hkc
  simp only [maxLen] at hkc2
  have hwl : wfL kids = true := by simp only [wfN, Bool.and_eq_true] at hw; exact hw.2
  have hklen := szL_len kids
  have hokAll := glu_ok n (.mk k s kids) st hok
  refine CallsH.of Tryd.func63 rfl rfl ?_
  refine G.seq rfl ?_
  refine G.reg Tryd.func63 rfl ?_
  refine RW.opS rfl rfl rfl rfl (OpX.boxN rfl) ?_
  rintro _ h1 ⟨rfl, q4, e1, z1⟩
  refine RW.opS rfl rfl rfl rfl (OpX.allocN H.zr124) ?_
  rintro _ h2 ⟨rfl, q6, e2, z2⟩
  refine RW.done rfl ?_
  refine G.sub (ρ' := [(0, _), (1, _), (2, _), (4, _), (6, _)]) ⟨rfl, rfl, rfl, rfl, rfl, trivial⟩ ?_
  refine G.seq rfl ?_
  refine G.reg Tryd.func63 rfl ?_
  refine RW.pureS rfl rfl rfl rfl (OpP.move rfl) ?_
  refine RW.opS rfl rfl rfl rfl (OpX.makeOnes Tryd.underlying55 H.el4 H.zr4 rfl rfl rfl (by omega) (by decide)) ?_
  rintro _ h3 ⟨rfl, q7, e3⟩
  have q4 : Blk h1 h.size 94 (ndC k s (.slice oa kn kc)) := q4
  have q6 : Blk h2 h1.size 124 [.bool false, .slice none 0 0, .slice none 0 0] := q6
  have z3 := e3.size
  have q4 := (q4.ext0 e2).ext0 e3
  have q6 := q6.ext0 e3
  have e03 : Ext0 h h3 := (e1.trans e2).trans e3
  have q7 : OwE Value.bool h3 h2.size 4 (.slice (some ⟨h2.size, 0, none⟩) n n) (nob n) := by unfold OwE nob; simpa using q7
  have hs4 : Array.size h + 1 = Array.size h1 := by omega
  have hs6 : Array.size h1 + 1 = Array.size h2 := by omega
  have hs7 : Array.size h2 < Array.size h3 := (OwnH.lt q7 rfl).2
  -- from h3 on
  generalize hLe : (fun b => b = Array.size h ∨ b = Array.size h1 : Nat → Prop) = L2
  have hLn : L2 h.size := by rw [← hLe]; exact .inl rfl
  have hLp : L2 h1.size := by rw [← hLe]; exact .inr rfl
  have hL2 : ∀ b, L2 b → h.size ≤ b ∧ b < h3.size := by rw [← hLe]; rintro b (k | k) <;> omega
  have R3 : RuL O rb vs vb vl h L2 h3.size h3 vs st := ⟨hr.ext (O' := ruO O L2) e03 (fun _ _ k => k) (fun _ _ k => k.elim) (fun b hb k => k.elim id (fun k => by have := hL2 b k; omega)), e03.mono (fun _ _ k => k.elim), fun b hb => .inl hb, Nat.le_refl _, e03.size, hltM, hO, hL2⟩
  have hnob : PartOk n ⟨true, nob n, nob n⟩ := nob_ok n true
  refine RW.pureS rfl rfl rfl rfl (OpP.assign rfl) ?_
  refine RW.done rfl ?_
  refine G.sub (ρ' := [(0, _), (1, _), (2, _), (4, _), (6, _), (7, _)]) ⟨rfl, rfl, rfl, rfl, rfl, rfl, trivial⟩ ?_
  refine G.seq rfl ?_
  refine G.seq rfl ?_
  refine G.reg Tryd.func63 rfl ?_
  refine RW.pureS rfl rfl rfl rfl (OpP.fieldAddr (off := 0) Tryd.underlying94 rfl rfl H.sz3 rfl) ?_
  refine RW.pureS rfl rfl rfl rfl (OpP.load H.ag3 rfl (q4.cell (i := 0) rfl)) ?_
  refine RW.done rfl ?_
  refine G.sub (ρ' := [(0, _), (1, _), (2, _), (4, _), (6, _), (7, _), (20, _)]) ⟨rfl, rfl, rfl, rfl, rfl, rfl, rfl, trivial⟩ ?_
  refine G.block rfl rfl ?_
  refine G.seq rfl ?_
  refine G.reg Tryd.func63 rfl ?_
  refine RW.pureS rfl rfl rfl rfl (OpP.eqlInt rfl rfl) ?_
  refine RW.pureS rfl rfl rfl rfl (OpP.assign rfl) ?_
  refine RW.done rfl ?_
  refine G.sub (ρ' := [(0, _), (1, _), (2, _), (4, _), (6, _), (7, _), (20, _), (21, _)]) ⟨rfl, rfl, rfl, rfl, rfl, rfl, rfl, rfl, trivial⟩ ?_
  refine G.ite rfl rfl (fun h1k => ?_) (fun h1k => ?_)
  · obtain rfl : k = 1 := by omega
    have hglu : glu n (.mk 1 s kids) st = (⟨false, (nob n).set st.1.length true, (nob n).set st.1.length true⟩, (st.1 ++ [s], st.2)) := by rw [glu]; simp
    rw [hglu]
    simp only [if_true] at hroom
    have hownS := R3.at_.ownS
    have hownB := hr.ownB
    have hrM : ¬ (but vs.ownBlock rb ∨ Array.size h3 ≤ rb) := by rintro (k | k); (have := hownS rb k.symm; omega); omega
    have hnM : ¬ (but vs.ownBlock h.size ∨ Array.size h3 ≤ h.size) := by rintro (k | k); (have := (hr.ownS _ k.symm); omega); omega
    have hsets : OwnH h3 0 60 4 vs st.1.length (st.1.flatMap encSet) := R3.at_.sets
    have hset1 : ∀ u ∈ encSet s, u.oneCell' = true := by intro u hu; simp [encSet] at hu; rcases hu with rfl | rfl | rfl | rfl <;> rfl
    have hset4 : Lw.rowAt h3 h.size 1 (encSet s) := q4.part 1 (by intro j v hv; match j with | 0 => exact hv | 1 => exact hv | 2 => exact hv | 3 => exact hv | j + 4 => simp [encSet] at hv)
    refine G.seq rfl ?_
    refine G.draw (fun b => but vs.ownBlock b ∨ Array.size h3 ≤ b) (fun i => Nat.blt i 11) (sz := 12) (listed := #[false, false, false, false, false, false, false, false, false, false, false, false]) Tryd.func63 H.mixed rfl rfl rfl ?_
    refine RD.takeS 0 (listed' := #[true, false, false, false, false, false, false, false, false, false, false, false]) rfl (by kernel_rfl) (by kernel_rfl) (by kernel_rfl) rfl rfl rfl (fun h' e => OpP.move rfl) rfl ?_
    refine RD.takeS 1 (listed' := #[true, true, false, false, false, false, false, false, false, false, false, false]) rfl (by kernel_rfl) (by kernel_rfl) (by kernel_rfl) rfl rfl rfl (fun h' e => OpP.move rfl) rfl ?_
    refine RD.takeS 2 (listed' := #[true, true, true, false, false, false, false, false, false, false, false, false]) rfl (by kernel_rfl) (by kernel_rfl) (by kernel_rfl) rfl rfl rfl (fun h' e => OpP.nilCheck rfl) rfl ?_
    refine RD.takeS 3 (listed' := #[true, true, true, true, false, false, false, false, false, false, false, false]) rfl (by kernel_rfl) (by kernel_rfl) (by kernel_rfl) rfl rfl rfl (fun h' e => OpP.fieldAddr (off := 0) Tryd.underlying57 rfl rfl H.sz53 rfl) rfl ?_
    refine RD.takeS 4 (listed' := #[true, true, true, true, true, false, false, false, false, false, false, false]) rfl (by kernel_rfl) (by kernel_rfl) (by kernel_rfl) rfl rfl rfl (fun h' e => OpP.load H.ag53 rfl (e.cell hrM (R3.at_.blk.cell (i := 0) rfl))) rfl ?_
    refine RD.takeS 5 (listed' := #[true, true, true, true, true, true, false, false, false, false, false, false]) rfl (by kernel_rfl) (by kernel_rfl) (by kernel_rfl) rfl rfl rfl (fun h' e => OpP.fieldAddr (off := 1) Tryd.underlying94 rfl rfl H.sz60 rfl) rfl ?_
    refine RD.takeS 6 (listed' := #[true, true, true, true, true, true, true, false, false, false, false, false]) rfl (by kernel_rfl) (by kernel_rfl) (by kernel_rfl) rfl rfl rfl (fun h' e => OpP.loadRowN H.ag60 H.sz60 rfl (e.rowAt hnM hset4) (by first | rfl | simp)) rfl ?_
    refine RD.oneS 7 (listed' := #[true, true, true, true, true, true, true, true, false, false, false, false]) rfl (by kernel_rfl) rfl rfl rfl (OpX.buildRec (cs := [_, _, _, _]) Tryd.underlying53 H.el60 rfl rfl (by decide)) rfl ?_
    rintro _ _ ⟨rfl, rfl⟩
    refine ⟨fun _ => by first | exact Ext.push _ _ _ | assumption, ?_⟩
    refine RD.oneS 8 (listed' := #[true, true, true, true, true, true, true, true, true, false, false, false]) rfl (by kernel_rfl) rfl rfl rfl (OpX.appendNew Tryd.underlying53 H.el60 rfl rfl (hsets) rfl rfl (hset1) (by omega) (by decide) (by omega)) rfl ?_
    rintro v2 h5 ⟨ho5, hx5, hx5', hv5⟩
    refine ⟨fun _ => hx5'.mono (fun _ _ k => .inl k), ?_⟩
    have z5 := hx5.size
    obtain ⟨va2, c2, rfl, _⟩ := ho5.open
    have hrb5 : rb < h5.size := by omega
    refine RD.oneS 9 (listed' := #[true, true, true, true, true, true, true, true, true, true, false, false]) rfl (by kernel_rfl) rfl rfl rfl (OpP.toX (OpP.nilCheck rfl)) rfl ?_
    rintro _ hq_ ⟨rfl, hqe_⟩
    replace hqe_ := hqe_.symm
    subst hqe_
    refine ⟨fun _ => Ext.refl _ _, ?_⟩
    refine RD.takeS 10 (listed' := #[true, true, true, true, true, true, true, true, true, true, true, false]) rfl (by kernel_rfl) (by kernel_rfl) (by kernel_rfl) rfl rfl rfl (fun h' e => OpP.fieldAddr (off := 0) Tryd.underlying57 rfl rfl H.sz53 rfl) rfl ?_
    refine RD.one0 11 (listed' := #[true, true, true, true, true, true, true, true, true, true, true, true]) rfl (by kernel_rfl) rfl rfl (OpX.storeOne H.sz53 rfl rfl (R3.at_.blk.ext hx5 (fun k => by have := hownS rb k.symm; omega)) (by first | decide | exact of_decide_eq_true rfl | (simp; done) | (simp; omega)) rfl) rfl ?_
    rintro _ h6 ⟨rfl, hk6, hx6, hz6⟩
    refine ⟨fun hk => (nomatch hk), ?_⟩
    have hk6 : Blk h6 rb 57 [.slice va2 (st.1.length + 1) c2, vb, vl] := hk6
    have hv2 : ∀ b, (Value.slice va2 (st.1.length + 1) c2).ownBlock = some b → b ≠ rb := fun b hb => by
      rcases hv5 b hb with k | k
      · exact (hownS b k).1
      · omega
    have a6 : RuAt h6 (ruO O L2) rb (.slice va2 (st.1.length + 1) c2) vb vl (st.1 ++ [s], st.2) := ⟨hk6, OwR.of (OwnH.ext hx6 ho5 (fun b hb (e : b = rb) => by have := hv2 b hb; omega)) rfl rfl,
      (R3.at_.rows.mv2 hx5 (fun b hb k => hr.apart b k.symm hb) (fun b _ k => .inr (.inl k)) (O' := fun b => b = rb ∨ but (Value.slice va2 (st.1.length + 1) c2).ownBlock b ∨ ruO O L2 b) (fun b hb k => by
        rcases k with k | k | k
        · exact .inl k
        · rcases hv5 b k.symm with k2 | k2
          · exact .inr (.inl k2.symm)
          · omega
        · exact .inr (.inr k))).mv2 hx6 (fun b hb (e : b = rb) => by have := hownB b hb; omega) (fun b _ k => .inl k) (fun b _ k => k), fun b hb => by
        rcases hv5 b hb with k | k
        · exact hr.apart b k
        · intro e; have := hownB b e; omega, fun hb => (hv2 rb hb) rfl, hr.nb⟩
    have e36 : Ext (ruM rb vs vb) h3 h6 := ⟨by omega, fun b hb hn => by rw [hx6.block b (by omega) (fun k => hn (.inl k)), hx5.block b hb (fun k => hn (.inr (.inl k)))]⟩
    have R6 := R3.sub a6 e36 hv5
    have q4 := q4.ext e36 (R3.loc _ hLn)
    have q6 := q6.ext e36 (R3.loc _ hLp)
    refine RD.done (by kernel_rfl) ?_
    refine G.sub (ρ' := [(0, _), (1, _), (2, _), (4, _), (6, _), (7, _), (20, _), (21, _)]) ⟨rfl, rfl, rfl, rfl, rfl, rfl, rfl, rfl, trivial⟩ ?_
    refine G.seq rfl ?_
    refine G.reg Tryd.func63 rfl ?_
    refine RW.pureS rfl rfl rfl rfl (OpP.move rfl) ?_
    refine RW.opS rfl rfl rfl rfl (OpX.makeOnes Tryd.underlying55 H.el4 H.zr4 rfl rfl rfl (by omega) (by decide)) ?_
    rintro _ h7 ⟨rfl, q8, e7⟩
    have q8 : OwE Value.bool h7 h6.size 4 (.slice (some ⟨h6.size, 0, none⟩) n n) (nob n) := by unfold OwE nob; simpa using q8
    have R7 := R6.ext0 e7
    obtain ⟨g', c', hv', _, _, hcell, hfz, hset⟩ := q8.at (i := st.1.length) (x := false) (by unfold nob; rw [List.getElem?_replicate, if_pos (by omega)])
    rw [nob_len] at hv'
    cases hv'
    have hset := hset true
    refine RW.pureS rfl rfl rfl rfl (OpP.assign rfl) ?_
    refine RW.done rfl ?_
    refine G.sub (ρ' := [(0, _), (1, _), (2, _), (4, _), (6, _), (7, _), (8, _), (20, _), (21, _)]) ⟨rfl, rfl, rfl, rfl, rfl, rfl, rfl, rfl, rfl, trivial⟩ ?_
    refine G.seq rfl ?_
    refine G.reg Tryd.func63 rfl ?_
    refine RW.pureS rfl rfl rfl rfl (OpP.move rfl) ?_
    refine RW.pureS rfl rfl rfl rfl (OpP.move rfl) ?_
    refine RW.pureS rfl rfl rfl rfl (OpP.nilCheck rfl) ?_
    refine RW.pureS rfl rfl rfl rfl (OpP.fieldAddr (off := 0) Tryd.underlying57 rfl rfl H.sz53 rfl) ?_
    refine RW.pureS rfl rfl rfl rfl (OpP.load H.ag53 rfl (R7.at_.blk.cell (i := 0) rfl)) ?_
    refine RW.pureS rfl rfl rfl rfl (OpP.lenSlice Tryd.underlying53 rfl) ?_
    refine RW.pureS rfl rfl rfl rfl (OpP.sub64 rfl rfl ⟨by omega, by omega⟩) ?_
    refine RW.pureS rfl rfl rfl rfl (OpP.indexSlice Tryd.underlying55 H.sz4 rfl rfl st.1.length (by omega) rfl (by omega)) ?_
    refine RW.op0 rfl rfl rfl (OpX.store H.sz4 rfl rfl rfl hcell hfz) ?_
    rintro _ h8 ⟨rfl, hg8⟩
    rw [← hg8] at hset
    have e68 : Ext0 h6 h8 := Ext0.only e7 (by rw [hg8]; exact Ext.setC _ _ _ rfl : Ext (fun b => b = h6.size) h7 h8) (Nat.le_refl _)
    have R8 := R6.ext0 e68
    have hone : SlR .bool h8 (ruQ O rb (.slice va2 (st.1.length + 1) c2) vb L2) (.slice (some ⟨h6.size, 0, none⟩) n n) ((nob n).set st.1.length true) := OwE.read (h1 := fun _ => rfl) hset (fun b hb k => by have := R6.qlt b k; omega)
    refine RW.done rfl ?_
    refine G.sub (ρ' := [(0, _), (1, _), (2, _), (4, _), (6, _), (7, _), (8, _), (20, _), (21, _)]) ⟨rfl, rfl, rfl, rfl, rfl, rfl, rfl, rfl, rfl, trivial⟩ ?_
    refine G.seq rfl ?_
    refine G.reg Tryd.func63 rfl ?_
    refine RW.pureS rfl rfl rfl rfl (OpP.move rfl) ?_
    refine RW.pureS rfl rfl rfl rfl (OpP.move rfl) ?_
    refine RW.pureS rfl rfl rfl rfl (OpP.build (H.bd124_0_1_2 _ _ _ _ _ _ _) rfl) ?_
    refine RW.op0 rfl rfl rfl (OpX.storeBlk H.sz124 rfl rfl (q6.ext0 e68) rfl (by first | decide | exact of_decide_eq_true rfl | (simp; done) | (simp; omega)) (by first | decide | simp [Value.oneCell'])) ?_
    rintro _ h9 ⟨rfl, hk9, hx9, hz9⟩
    refine RW.done rfl ?_
    refine G.sub (ρ' := [(0, _), (1, _), (2, _), (4, _), (6, _), (7, _), (8, _), (20, _), (21, _)]) ⟨rfl, rfl, rfl, rfl, rfl, rfl, rfl, rfl, rfl, trivial⟩ ?_
    have hk9 : Blk h9 h1.size 124 [.bool false, .slice (some ⟨h6.size, 0, none⟩) n n, .slice (some ⟨h6.size, 0, none⟩) n n] := hk9
    refine G.retC Tryd.func63 rfl (.cons (ResOk.rowN H.ag124 H.sz124 rfl (hk9.row) (by first | rfl | simp)) (.nil)) ?_
    have R9 := R8.put hx9 hLp
    have hone9 := hone.mv (R8.putQ hx9 hLp)
    exact ⟨_, rfl, R9.fin hone9 hone9⟩
  · have h1k' : ¬ k = 1 := kkR h1k
    refine G.seq rfl ?_
    refine G.reg Tryd.func63 rfl ?_
    refine RW.pureS rfl rfl rfl rfl (OpP.eqlInt rfl rfl) ?_
    refine RW.pureS rfl rfl rfl rfl (OpP.assign rfl) ?_
    refine RW.done rfl ?_
    refine G.sub (ρ' := [(0, _), (1, _), (2, _), (4, _), (6, _), (7, _), (20, _), (21, _), (47, _)]) ⟨rfl, rfl, rfl, rfl, rfl, rfl, rfl, rfl, rfl, trivial⟩ ?_
    refine G.ite rfl rfl (fun h2k => ?_) (fun h2k => ?_)
    · obtain rfl : k = 2 := by omega
      have hglu : glu n (.mk 2 s kids) st = gluCat n kids ⟨true, nob n, nob n⟩ st := by rw [glu]; simp
      rw [hglu]
      generalize htgt : gluCat n kids ⟨true, nob n, nob n⟩ st = tgt
      rw [if_neg (by decide), Nat.zero_add] at hroom
      refine G.seq rfl ?_
      refine G.reg Tryd.func63 rfl ?_
      refine RW.pureS rfl rfl rfl rfl (OpP.move rfl) ?_
      refine RW.pureS rfl rfl rfl rfl (OpP.move rfl) ?_
      refine RW.pureS rfl rfl rfl rfl (OpP.build (H.bd124_0_1_2 _ _ _ _ _ _ _) rfl) ?_
      refine RW.opS rfl rfl rfl rfl (OpX.allocN H.zr124) ?_
      rintro _ h4 ⟨rfl, k9, e4, z4⟩
      refine RW.op0 rfl rfl rfl (OpX.storeBlk H.sz124 rfl rfl k9 rfl (by first | decide | exact of_decide_eq_true rfl | (simp; done) | (simp; omega)) (by first | decide | simp [Value.oneCell'])) ?_
      rintro _ h5 ⟨rfl, k9, x5, z5⟩
      have k9 : Blk h5 h3.size 124 [.bool true, .slice (some ⟨h2.size, 0, none⟩) n n, .slice (some ⟨h2.size, 0, none⟩) n n] := k9
      have e35 : Ext0 h3 h5 := Ext0.only e4 x5 (Nat.le_refl _)
      have e05 := e03.trans e35
      generalize hL5e : (fun b => L2 b ∨ b = Array.size h3 : Nat → Prop) = L5
      have hL5 : ∀ b, L5 b → h.size ≤ b ∧ b < h5.size := by rw [← hL5e]; rintro b (k | k); (have := hL2 b k; omega); omega
      have hL4' : L5 h.size := by rw [← hL5e]; exact .inl hLn
      have hL6' : L5 h1.size := by rw [← hL5e]; exact .inl hLp
      have hL9' : L5 h3.size := by rw [← hL5e]; exact .inr rfl
      have R5 : RuL O rb vs vb vl h L5 h5.size h5 vs st := ⟨hr.ext (O' := ruO O L5) e05 (fun _ _ k => k) (fun _ _ k => k.elim) (fun b hb k => k.elim id (fun k => by have := hL5 b k; omega)), e05.mono (fun _ _ k => k.elim), fun b hb => .inl hb, Nat.le_refl _, by omega, hltM, hO, hL5⟩
      have hnb3 : SlR .bool h3 (ruQ O rb vs vb L2) (.slice (some ⟨h2.size, 0, none⟩) n n) (nob n) := OwE.read (h1 := fun _ => rfl) q7 (fun b hb k => by
        rcases k with k | k | k
        · have := hltM b k; omega
        · have := hO b k; omega
        · rw [← hLe] at k; rcases k with k | k <;> omega)
      have hnb5 : SlR .bool h5 (ruQ O rb vs vb L5) (.slice (some ⟨h2.size, 0, none⟩) n n) (nob n) := hnb3.mv ⟨e35.size, fun b hb hn => ⟨e35.block b hb (fun k => k), by
        rintro (k | k | k)
        · exact hn (.inl k)
        · exact hn (.inr (.inl k))
        · rw [← hL5e] at k
          rcases k with k | k
          · exact hn (.inr (.inr k))
          · omega⟩⟩
      have LB5 : LocB h.size h1.size (ndC 2 s (.slice oa kn kc)) h5 := ⟨q4.ext0 e35, q6.ext0 e35⟩
      refine RW.done rfl ?_
      refine G.sub (ρ' := [(0, _), (1, _), (2, _), (4, _), (6, _), (7, _), (9, _), (20, _), (21, _), (47, _)]) ⟨rfl, rfl, rfl, rfl, rfl, rfl, rfl, rfl, rfl, rfl, trivial⟩ ?_
      refine G.seq rfl ?_
      refine G.seq rfl ?_
      refine G.reg Tryd.func63 rfl ?_
      refine RW.pureS rfl rfl rfl rfl (OpP.assign rfl) ?_
      refine RW.done rfl ?_
      refine G.sub (ρ' := [(0, _), (1, _), (2, _), (4, _), (6, _), (7, _), (9, _), (10, _), (20, _), (21, _), (47, _)]) ⟨rfl, rfl, rfl, rfl, rfl, rfl, rfl, rfl, rfl, rfl, rfl, trivial⟩ ?_
      refine G.block rfl rfl ?_
      refine G.loop (σ := Nat) (fun i => [(0, .pointer (some ⟨rb, 0, none⟩)), (2, .int .i64 (n : Nat)), (4, .pointer (some ⟨h.size, 0, none⟩)), (6, .pointer (some ⟨h1.size, 0, none⟩)), (9, .pointer (some ⟨h3.size, 0, none⟩)), (10, .int .i64 (i : Nat))]) (fun i h' => i ≤ kn ∧ ∃ vs' p fa fn fc la ln lc stc, RuL O rb vs vb vl h L5 h5.size h' vs' stc ∧ LocB h.size h1.size (ndC 2 s (.slice oa kn kc)) h' ∧ Blk h' h3.size 124 [.bool p.null, .slice fa fn fc, .slice la ln lc] ∧ SlR .bool h' (ruQ O rb vs' vb L5) (.slice fa fn fc) p.first ∧ SlR .bool h' (ruQ O rb vs' vb L5) (.slice la ln lc) p.last ∧ PartOk n p ∧ RuOk n stc ∧ stc.1.length + cntL (kids.drop i) ≤ n ∧ gluCat n (kids.drop i) p stc = tgt) (fun i => kn - i) (0) rfl ⟨rfl, rfl, rfl, rfl, rfl, rfl, trivial⟩ ⟨Nat.zero_le _, vs, ⟨true, nob n, nob n⟩, _, _, _, _, _, _, st, R5, LB5, k9, hnb5, hnb5, nob_ok n true, hok, hroom, htgt⟩ ?_
      rintro i g ⟨hi, vs', p, fa, fn, fc, la, ln, lc, stc, R, LB, k9, hf, hl, hpok, hcok, hcroom, hcon⟩ ih2
      have hvb := hr.ownB
      have hL5s : Array.size h3 < Array.size h5 := (hL5 _ hL9').2
      refine G.seq rfl ?_
      refine G.seq rfl ?_
      refine G.reg Tryd.func63 rfl ?_
      refine RW.pureS rfl rfl rfl rfl (OpP.move rfl) ?_
      refine RW.pureS rfl rfl rfl rfl (OpP.fieldAddr (off := 5) Tryd.underlying94 rfl rfl H.sz92 rfl) ?_
      refine RW.pureS rfl rfl rfl rfl (OpP.load H.ag92 rfl (LB.k4.cell (i := 5) rfl)) ?_
      refine RW.pureS rfl rfl rfl rfl (OpP.lenSlice Tryd.underlying92 rfl) ?_
      refine RW.pureS rfl rfl rfl rfl (OpP.lss rfl rfl) ?_
      refine RW.done rfl ?_
      refine G.sub (ρ' := [(0, _), (2, _), (4, _), (6, _), (9, _), (10, _), (56, _)]) ⟨rfl, rfl, rfl, rfl, rfl, rfl, rfl, trivial⟩ ?_
      refine G.ite rfl rfl (fun hlt => ?_) (fun hlt => ?_)
      · have hik : i < kids.length := by omega
        obtain ⟨x, hx⟩ : ∃ x, kids[i]? = some x := ⟨_, List.getElem?_eq_getElem hik⟩
        have hdr : kids.drop i = x :: kids.drop (i + 1) := by
          obtain ⟨hi', rfl⟩ := List.getElem?_eq_some_iff.1 hx
          exact List.drop_eq_getElem_cons hi'
        rw [hdr, gluCat] at hcon
        rw [hdr] at hcroom
        simp only [cntL] at hcroom
        have hszx := szL_mem hx
        have hwx := wfL_mem hwl hx
        have hokx := glu_ok n x stc hcok
        have hroomx := hokx.2.2.2 hwx
        obtain ⟨b, o, cs, ha, hob, hrow, hnd⟩ := (hsl.mv R.old).get i x hx
        obtain ⟨w2, rfl, -⟩ := NdAt.open hnd
        have hgz := R.size
        refine G.skip rfl ?_
        refine G.seq rfl ?_
        refine G.block rfl rfl ?_
        refine G.seq rfl ?_
        refine G.reg Tryd.func63 rfl ?_
        refine RW.pureS rfl rfl rfl rfl (OpP.move rfl) ?_
        refine RW.pureS rfl rfl rfl rfl (OpP.fieldAddr (off := 5) Tryd.underlying94 rfl rfl H.sz92 rfl) ?_
        refine RW.pureS rfl rfl rfl rfl (OpP.load H.ag92 rfl (LB.k4.cell (i := 5) rfl)) ?_
        refine RW.pureS rfl rfl rfl rfl (OpP.move rfl) ?_
        refine RW.pureS rfl rfl rfl rfl (OpP.indexSlice Tryd.underlying92 H.sz94 rfl rfl i rfl ha (by omega)) ?_
        refine RW.pureS rfl rfl rfl rfl (OpP.loadRowN H.ag94 H.sz94 rfl hrow (by first | rfl | simp)) ?_
        refine RW.pureS rfl rfl rfl rfl (OpP.move rfl) ?_
        refine RW.opS rfl rfl rfl rfl (OpX.call (vs := [_, _, _]) Tryd.func63 rfl H.nm63 rfl (CallsH.toX (ih (x := x) (O := ruO O L5) (by omega) R.at_ (fun b hb => R.qlt b (.inr hb)) hnd hwx hcok (by omega) hn))) ?_
        rintro _ g1 ⟨vs1, f1, l1, rfl, a1, hf1, hl1, e1x, ho1⟩
        refine RW.opS rfl rfl rfl rfl (OpX.allocN H.zr124) ?_
        rintro _ g2 ⟨rfl, k11, e2x, z2x⟩
        generalize glu n x stc = out at *
        have hf1' : ∃ oa n c, f1 = .slice oa n c := by obtain ⟨oa, n, c, rfl, _⟩ := hf1; exact ⟨_, _, _, rfl⟩
        obtain ⟨f1a, f1n, f1c, rfl⟩ := hf1'
        have hl1' : ∃ oa n c, l1 = .slice oa n c := by obtain ⟨oa, n, c, rfl, _⟩ := hl1; exact ⟨_, _, _, rfl⟩
        obtain ⟨l1a, l1n, l1c, rfl⟩ := hl1'
        have R1 := R.sub a1 e1x ho1
        have z1x := e1x.size
        have LB1 := LB.ext e1x (R.loc _ hL4') (R.loc _ hL6')
        have k9 := k9.ext e1x (R.loc _ hL9')
        have hf := hf.mv (R.subQ e1x ho1)
        have hl := hl.mv (R.subQ e1x ho1)
        refine RW.op0 rfl rfl rfl (OpX.storeBlk H.sz124 rfl rfl k11 rfl (by first | decide | exact of_decide_eq_true rfl | (simp; done) | (simp; omega)) (by first | decide | simp [Value.oneCell'])) ?_
        rintro _ g3 ⟨rfl, k11, x3, z3x⟩
        have k11 : Blk g3 g1.size 124 [.bool out.1.null, .slice f1a f1n f1c, .slice l1a l1n l1c] := k11
        have e13 : Ext0 g1 g3 := Ext0.only e2x x3 (Nat.le_refl _)
        have R3' := R1.ext0 e13
        have LB3 := LB1.ext0 e13
        have k9 := k9.ext0 e13
        have hf := hf.mv (Mv.ext0 e13)
        have hl := hl.mv (Mv.ext0 e13)
        have hf1 : SlR .bool g3 (ruQ O rb vs1 vb L5) _ out.1.first := SlR.mv hf1 (Mv.ext0 e13)
        have hl1 : SlR .bool g3 (ruQ O rb vs1 vb L5) _ out.1.last := SlR.mv hl1 (Mv.ext0 e13)
        refine RW.done rfl ?_
        refine G.sub (ρ' := [(0, _), (2, _), (4, _), (6, _), (9, _), (10, _), (11, _), (56, _)]) ⟨rfl, rfl, rfl, rfl, rfl, rfl, rfl, rfl, trivial⟩ ?_
        refine G.seq rfl ?_
        refine G.reg Tryd.func63 rfl ?_
        refine RW.pureS rfl rfl rfl rfl (OpP.move rfl) ?_
        refine RW.pureS rfl rfl rfl rfl (OpP.fieldAddr (off := 2) Tryd.underlying124 rfl rfl H.sz55 rfl) ?_
        refine RW.pureS rfl rfl rfl rfl (OpP.load H.ag55 rfl (k9.cell (i := 2) rfl)) ?_
        refine RW.pureS rfl rfl rfl rfl (OpP.fieldAddr (off := 1) Tryd.underlying124 rfl rfl H.sz55 rfl) ?_
        refine RW.pureS rfl rfl rfl rfl (OpP.load H.ag55 rfl (k11.cell (i := 1) rfl)) ?_
        refine RW.opS rfl rfl rfl rfl (OpX.call (vs := [_, _, _]) Tryd.func81 rfl H.nm81 rfl (CallsH.toX (follow_calls R3'.at_ (fun b hb => R3'.qlt b (.inr hb)) (SlR.less hl (fun _ k => .inl k)) (SlR.less hf1 (fun _ k => .inl k)) hokx.2.1 hpok.last hokx.1.first hn))) ?_
        rintro _ g4 ⟨a4, e4x⟩
        have R4 := R3'.fol a4 e4x
        have z4x := e4x.size
        have n11 : ¬ but vb.ownBlock g1.size := fun k => by have := hvb _ k.symm; omega
        have k11 := k11.ext e4x n11
        have LB4 := LB3.ext e4x (fun k => R3'.loc _ hL4' (.inr (.inr k))) (fun k => R3'.loc _ hL6' (.inr (.inr k)))
        have k9 := k9.ext e4x (fun k => R3'.loc _ hL9' (.inr (.inr k)))
        have hf := hf.mv (R3'.folQ e4x)
        have hl := hl.mv (R3'.folQ e4x)
        have hf1 := hf1.mv (R3'.folQ e4x)
        have hl1 := hl1.mv (R3'.folQ e4x)
        have hcpok := catPart_ok hpok hokx.1
        have hcfok := follow_ok (S := out.2.1) hpok.last hokx.1.first hokx.2.1
        have hg1n : ¬ g1.size = h3.size := by omega
        refine RW.done rfl ?_
        refine G.sub (ρ' := [(0, _), (2, _), (4, _), (6, _), (9, _), (10, _), (11, _), (56, _)]) ⟨rfl, rfl, rfl, rfl, rfl, rfl, rfl, rfl, trivial⟩ ?_
        refine G.seq rfl ?_
        refine G.seq rfl ?_
        refine G.reg Tryd.func63 rfl ?_
        refine RW.pureS rfl rfl rfl rfl (OpP.fieldAddr (off := 0) Tryd.underlying124 rfl rfl H.sz4 rfl) ?_
        refine RW.pureS rfl rfl rfl rfl (OpP.load H.ag4 rfl (k9.cell (i := 0) rfl)) ?_
        refine RW.done rfl ?_
        refine G.sub (ρ' := [(0, _), (2, _), (4, _), (6, _), (9, _), (10, _), (11, _), (56, _), (74, _)]) ⟨rfl, rfl, rfl, rfl, rfl, rfl, rfl, rfl, rfl, trivial⟩ ?_
        have st1 : ∀ (f2a : Option Addr) (f2n f2c : Nat) (h' : Heap) (ρ' : Env), Sub [(0, .pointer (some ⟨rb, 0, none⟩)), (2, .int .i64 (n : Nat)), (4, .pointer (some ⟨h.size, 0, none⟩)), (6, .pointer (some ⟨h1.size, 0, none⟩)), (9, .pointer (some ⟨h3.size, 0, none⟩)), (10, .int .i64 (i : Nat)), (11, .pointer (some ⟨g1.size, 0, none⟩))] ρ' → RuL O rb vs vb vl h L5 h5.size h' vs1 (out.2.1, followB p.last out.1.first out.2.2) → LocB h.size h1.size (ndC 2 s (.slice oa kn kc)) h' → Blk h' h3.size 124 [.bool p.null, .slice f2a f2n f2c, .slice la ln lc] → Blk h' g1.size 124 [.bool out.1.null, .slice f1a f1n f1c, .slice l1a l1n l1c] → SlR .bool h' (ruQ O rb vs1 vb L5) (.slice f2a f2n f2c) (catPart p out.1).first → SlR .bool h' (ruQ O rb vs1 vb L5) (.slice la ln lc) p.last → SlR .bool h' (ruQ O rb vs1 vb L5) (.slice l1a l1n l1c) out.1.last → G Tryd.prog 63 Tryd.f63 [.code [1, 1, 1, 0, 0, 1, 0, 0, 1, 0, 1, 0, 1, 1, 1, 0, 1, 0, 1, 1], .blk 2, .code [1, 1, 0, 0, 1, 0, 1, 0, 1, 1, 1, 0, 1, 0, 1, 1], .loop [0, 0, 1, 0, 1, 0, 1, 1, 1, 0, 1, 0, 1, 1], .blk 1, .code [1, 1, 0, 1, 1, 1, 0, 1, 0, 1, 1], .blk 0, .code [1, 1, 1]] ρ' h' (Ret (LayRV O rb h vs vb vl tgt)) := by
          rintro f2a f2n f2c g5 ρ' hsub R6 LB6 k9 k11 hf2 hl hl1
          refine G.sub (ρ' := [(0, .pointer (some ⟨rb, 0, none⟩)), (2, .int .i64 (n : Nat)), (4, .pointer (some ⟨h.size, 0, none⟩)), (6, .pointer (some ⟨h1.size, 0, none⟩)), (9, .pointer (some ⟨h3.size, 0, none⟩)), (10, .int .i64 (i : Nat)), (11, .pointer (some ⟨g1.size, 0, none⟩))]) hsub ?_
          refine G.seq rfl ?_
          refine G.seq rfl ?_
          refine G.reg Tryd.func63 rfl ?_
          refine RW.pureS rfl rfl rfl rfl (OpP.fieldAddr (off := 0) Tryd.underlying124 rfl rfl H.sz4 rfl) ?_
          refine RW.pureS rfl rfl rfl rfl (OpP.load H.ag4 rfl (k11.cell (i := 0) rfl)) ?_
          refine RW.done rfl ?_
          refine G.sub (ρ' := [(0, _), (2, _), (4, _), (6, _), (9, _), (10, _), (11, _), (82, _)]) ⟨rfl, rfl, rfl, rfl, rfl, rfl, rfl, rfl, trivial⟩ ?_
          have st2 : ∀ (f2a : Option Addr) (f2n f2c : Nat) (l2a : Option Addr) (l2n l2c : Nat) (h' : Heap) (ρ' : Env), Sub [(0, .pointer (some ⟨rb, 0, none⟩)), (2, .int .i64 (n : Nat)), (4, .pointer (some ⟨h.size, 0, none⟩)), (6, .pointer (some ⟨h1.size, 0, none⟩)), (9, .pointer (some ⟨h3.size, 0, none⟩)), (10, .int .i64 (i : Nat)), (11, .pointer (some ⟨g1.size, 0, none⟩))] ρ' → RuL O rb vs vb vl h L5 h5.size h' vs1 (out.2.1, followB p.last out.1.first out.2.2) → LocB h.size h1.size (ndC 2 s (.slice oa kn kc)) h' → Blk h' h3.size 124 [.bool p.null, .slice f2a f2n f2c, .slice l2a l2n l2c] → Blk h' g1.size 124 [.bool out.1.null, .slice f1a f1n f1c, .slice l1a l1n l1c] → SlR .bool h' (ruQ O rb vs1 vb L5) (.slice f2a f2n f2c) (catPart p out.1).first → SlR .bool h' (ruQ O rb vs1 vb L5) (.slice l2a l2n l2c) (catPart p out.1).last → G Tryd.prog 63 Tryd.f63 [.code [1, 1, 1, 1, 0, 0, 1, 0, 0, 1, 0, 1, 0, 1, 1, 1, 0, 1, 0, 1, 1], .blk 2, .code [1, 1, 0, 0, 1, 0, 1, 0, 1, 1, 1, 0, 1, 0, 1, 1], .loop [0, 0, 1, 0, 1, 0, 1, 1, 1, 0, 1, 0, 1, 1], .blk 1, .code [1, 1, 0, 1, 1, 1, 0, 1, 0, 1, 1], .blk 0, .code [1, 1, 1]] ρ' h' (Ret (LayRV O rb h vs vb vl tgt)) := by
            rintro f2a f2n f2c l2a l2n l2c g5 ρ' hsub R6 LB6 k9 k11 hf2 hl2
            refine G.sub (ρ' := [(0, .pointer (some ⟨rb, 0, none⟩)), (2, .int .i64 (n : Nat)), (4, .pointer (some ⟨h.size, 0, none⟩)), (6, .pointer (some ⟨h1.size, 0, none⟩)), (9, .pointer (some ⟨h3.size, 0, none⟩)), (10, .int .i64 (i : Nat)), (11, .pointer (some ⟨g1.size, 0, none⟩))]) hsub ?_
            refine G.reg Tryd.func63 rfl ?_
            refine RW.pureS rfl rfl rfl rfl (OpP.fieldAddr (off := 0) Tryd.underlying124 rfl rfl H.sz4 rfl) ?_
            refine RW.pureS rfl rfl rfl rfl (OpP.load H.ag4 rfl (k9.cell (i := 0) rfl)) ?_
            refine RW.pureS rfl rfl rfl rfl (OpP.move rfl) ?_
            refine RW.split (d := 94) rfl (fun hg => ?_) (fun hg => ?_)
            · refine RW.pureS rfl rfl rfl rfl (OpP.fieldAddr (off := 0) Tryd.underlying124 rfl rfl H.sz4 rfl) ?_
              refine RW.pureS rfl rfl rfl rfl (OpP.load H.ag4 rfl (k11.cell (i := 0) rfl)) ?_
              refine RW.pureS rfl rfl rfl rfl (OpP.pickT rfl rfl) ?_
              refine RW.pureS rfl rfl rfl rfl (OpP.fieldAddr (off := 0) Tryd.underlying124 rfl rfl H.sz4 rfl) ?_
              refine RW.op0 rfl rfl rfl (OpX.storeOne H.sz4 rfl rfl k9 (by first | decide | exact of_decide_eq_true rfl | (simp; done) | (simp; omega)) rfl) ?_
              rintro _ g7 ⟨rfl, k9', x7, z7⟩
              refine RW.done rfl ?_
              refine G.sub (ρ' := [(0, _), (2, _), (4, _), (6, _), (9, _), (10, _), (11, _)]) ⟨rfl, rfl, rfl, rfl, rfl, rfl, rfl, trivial⟩ ?_
              refine G.blkEnd ?_
              refine G.reg Tryd.func63 rfl ?_
              refine RW.pureS rfl rfl rfl rfl (OpP.move rfl) ?_
              refine RW.pureS rfl rfl rfl rfl (OpP.add64 rfl rfl ⟨by omega, by omega⟩) ?_
              refine RW.pureS rfl rfl rfl rfl (OpP.assign rfl) ?_
              refine RW.done rfl ?_
              refine G.sub (ρ' := [(0, _), (2, _), (4, _), (6, _), (9, _), (10, _), (11, _)]) ⟨rfl, rfl, rfl, rfl, rfl, rfl, rfl, trivial⟩ ?_
              exact ih2 (i + 1) _ _ ⟨rfl, rfl, rfl, rfl, rfl, rfl, trivial⟩ ⟨by omega, vs1, catPart p out.1, _, _, _, _, _, _, _, R6.put x7 hL9', LB6.ext x7 (by show ¬ _ = _; omega) (by show ¬ _ = _; omega), by simp only [catPart, hg, Bool.true_and]; exact k9', hf2.mv (R6.putQ x7 hL9'), hl2.mv (R6.putQ x7 hL9'), hcpok, hcfok, by show out.2.1.length + _ ≤ n; omega, hcon⟩ (by omega)
            · refine RW.skipS rfl rfl rfl rfl ?_
              refine RW.skipS rfl rfl rfl rfl ?_
              refine RW.pureS rfl rfl rfl rfl (OpP.pickF rfl rfl) ?_
              refine RW.pureS rfl rfl rfl rfl (OpP.fieldAddr (off := 0) Tryd.underlying124 rfl rfl H.sz4 rfl) ?_
              refine RW.op0 rfl rfl rfl (OpX.storeOne H.sz4 rfl rfl k9 (by first | decide | exact of_decide_eq_true rfl | (simp; done) | (simp; omega)) rfl) ?_
              rintro _ g7 ⟨rfl, k9', x7, z7⟩
              refine RW.done rfl ?_
              refine G.sub (ρ' := [(0, _), (2, _), (4, _), (6, _), (9, _), (10, _), (11, _)]) ⟨rfl, rfl, rfl, rfl, rfl, rfl, rfl, trivial⟩ ?_
              refine G.blkEnd ?_
              refine G.reg Tryd.func63 rfl ?_
              refine RW.pureS rfl rfl rfl rfl (OpP.move rfl) ?_
              refine RW.pureS rfl rfl rfl rfl (OpP.add64 rfl rfl ⟨by omega, by omega⟩) ?_
              refine RW.pureS rfl rfl rfl rfl (OpP.assign rfl) ?_
              refine RW.done rfl ?_
              refine G.sub (ρ' := [(0, _), (2, _), (4, _), (6, _), (9, _), (10, _), (11, _)]) ⟨rfl, rfl, rfl, rfl, rfl, rfl, rfl, trivial⟩ ?_
              exact ih2 (i + 1) _ _ ⟨rfl, rfl, rfl, rfl, rfl, rfl, trivial⟩ ⟨by omega, vs1, catPart p out.1, _, _, _, _, _, _, _, R6.put x7 hL9', LB6.ext x7 (by show ¬ _ = _; omega) (by show ¬ _ = _; omega), by simp only [catPart, hg, Bool.false_and]; exact k9', hf2.mv (R6.putQ x7 hL9'), hl2.mv (R6.putQ x7 hL9'), hcpok, hcfok, by show out.2.1.length + _ ≤ n; omega, hcon⟩ (by omega)
          refine G.cond rfl rfl (fun hg => ?_) (fun hg => ?_)
          · refine G.reg Tryd.func63 rfl ?_
            refine RW.pureS rfl rfl rfl rfl (OpP.fieldAddr (off := 2) Tryd.underlying124 rfl rfl H.sz55 rfl) ?_
            refine RW.pureS rfl rfl rfl rfl (OpP.load H.ag55 rfl (k9.cell (i := 2) rfl)) ?_
            refine RW.pureS rfl rfl rfl rfl (OpP.fieldAddr (off := 2) Tryd.underlying124 rfl rfl H.sz55 rfl) ?_
            refine RW.pureS rfl rfl rfl rfl (OpP.load H.ag55 rfl (k11.cell (i := 2) rfl)) ?_
            refine RW.opS rfl rfl rfl rfl (OpX.call (vs := [_, _]) Tryd.func64 rfl H.nm64 rfl (CallsH.toX (or_calls hl hl1 (by rw [hpok.last, hokx.1.last]; exact Nat.le_refl _) (by rw [hpok.last]; exact hn)))) ?_
            rintro w5 g6 ⟨ho6, e6x⟩
            have R7 := R6.ext0 e6x
            obtain ⟨wa, wc, rfl, _⟩ := (show OwnH g6 g5.size 4 1 w5 (orB p.last out.1.last).length ((orB p.last out.1.last).map Value.bool) from ho6).open
            have hl2 : SlR .bool g6 (ruQ O rb vs1 vb L5) _ (orB p.last out.1.last) := OwE.read (h1 := fun _ => rfl) ho6 (fun b hb k => by have := R6.qlt b k; omega)
            have z6x := e6x.size
            refine RW.pureS rfl rfl rfl rfl (OpP.fieldAddr (off := 2) Tryd.underlying124 rfl rfl H.sz55 rfl) ?_
            refine RW.op0 rfl rfl rfl (OpX.storeOne H.sz55 rfl rfl (k9.ext0 e6x) (by first | decide | exact of_decide_eq_true rfl | (simp; done) | (simp; omega)) rfl) ?_
            rintro _ g7 ⟨rfl, k9', x7, z7⟩
            refine RW.done rfl ?_
            refine G.sub (ρ' := [(0, _), (2, _), (4, _), (6, _), (9, _), (10, _), (11, _), (82, _)]) ⟨rfl, rfl, rfl, rfl, rfl, rfl, rfl, rfl, trivial⟩ ?_
            exact st2 _ _ _ _ _ _ _ _ ⟨rfl, rfl, rfl, rfl, rfl, rfl, rfl, trivial⟩ (R7.put x7 hL9') ((LB6.ext0 e6x).ext x7 (by show ¬ _ = _; omega) (by show ¬ _ = _; omega)) k9' ((k11.ext0 e6x).ext x7 (by show ¬ _ = _; omega)) ((hf2.mv (Mv.ext0 e6x)).mv (R7.putQ x7 hL9')) (by simp only [catPart, hg, if_true]; exact hl2.mv (R7.putQ x7 hL9'))
          · refine G.reg Tryd.func63 rfl ?_
            refine RW.pureS rfl rfl rfl rfl (OpP.fieldAddr (off := 2) Tryd.underlying124 rfl rfl H.sz55 rfl) ?_
            refine RW.pureS rfl rfl rfl rfl (OpP.load H.ag55 rfl (k11.cell (i := 2) rfl)) ?_
            refine RW.pureS rfl rfl rfl rfl (OpP.fieldAddr (off := 2) Tryd.underlying124 rfl rfl H.sz55 rfl) ?_
            refine RW.op0 rfl rfl rfl (OpX.storeOne H.sz55 rfl rfl k9 (by first | decide | exact of_decide_eq_true rfl | (simp; done) | (simp; omega)) rfl) ?_
            rintro _ g7 ⟨rfl, k9', x7, z7⟩
            refine RW.done rfl ?_
            refine G.sub (ρ' := [(0, _), (2, _), (4, _), (6, _), (9, _), (10, _), (11, _), (82, _)]) ⟨rfl, rfl, rfl, rfl, rfl, rfl, rfl, rfl, trivial⟩ ?_
            exact st2 _ _ _ _ _ _ _ _ ⟨rfl, rfl, rfl, rfl, rfl, rfl, rfl, trivial⟩ (R6.put x7 hL9') (LB6.ext x7 (by show ¬ _ = _; omega) (by show ¬ _ = _; omega)) k9' (k11.ext x7 (by show ¬ _ = _; omega)) (hf2.mv (R6.putQ x7 hL9')) (by simp only [catPart, hg]; exact hl1.mv (R6.putQ x7 hL9'))
        refine G.cond rfl rfl (fun hg => ?_) (fun hg => ?_)
        · refine G.reg Tryd.func63 rfl ?_
          refine RW.pureS rfl rfl rfl rfl (OpP.fieldAddr (off := 1) Tryd.underlying124 rfl rfl H.sz55 rfl) ?_
          refine RW.pureS rfl rfl rfl rfl (OpP.load H.ag55 rfl (k9.cell (i := 1) rfl)) ?_
          refine RW.pureS rfl rfl rfl rfl (OpP.fieldAddr (off := 1) Tryd.underlying124 rfl rfl H.sz55 rfl) ?_
          refine RW.pureS rfl rfl rfl rfl (OpP.load H.ag55 rfl (k11.cell (i := 1) rfl)) ?_
          refine RW.opS rfl rfl rfl rfl (OpX.call (vs := [_, _]) Tryd.func64 rfl H.nm64 rfl (CallsH.toX (or_calls hf hf1 (by rw [hpok.first, hokx.1.first]; exact Nat.le_refl _) (by rw [hpok.first]; exact hn)))) ?_
          rintro w5 g6 ⟨ho6, e6x⟩
          have R7 := R4.ext0 e6x
          obtain ⟨wa, wc, rfl, _⟩ := (show OwnH g6 g4.size 4 1 w5 (orB p.first out.1.first).length ((orB p.first out.1.first).map Value.bool) from ho6).open
          have hf2 : SlR .bool g6 (ruQ O rb vs1 vb L5) _ (orB p.first out.1.first) := OwE.read (h1 := fun _ => rfl) ho6 (fun b hb k => by have := R4.qlt b k; omega)
          have z6x := e6x.size
          refine RW.pureS rfl rfl rfl rfl (OpP.fieldAddr (off := 1) Tryd.underlying124 rfl rfl H.sz55 rfl) ?_
          refine RW.op0 rfl rfl rfl (OpX.storeOne H.sz55 rfl rfl (k9.ext0 e6x) (by first | decide | exact of_decide_eq_true rfl | (simp; done) | (simp; omega)) rfl) ?_
          rintro _ g7 ⟨rfl, k9', x7, z7⟩
          refine RW.done rfl ?_
          refine G.sub (ρ' := [(0, _), (2, _), (4, _), (6, _), (9, _), (10, _), (11, _), (56, _), (74, _)]) ⟨rfl, rfl, rfl, rfl, rfl, rfl, rfl, rfl, rfl, trivial⟩ ?_
          exact st1 _ _ _ _ _ ⟨rfl, rfl, rfl, rfl, rfl, rfl, rfl, trivial⟩ (R7.put x7 hL9') ((LB4.ext0 e6x).ext x7 (by show ¬ _ = _; omega) (by show ¬ _ = _; omega)) k9' ((k11.ext0 e6x).ext x7 (by show ¬ _ = _; omega)) (by simp only [catPart, hg, if_true]; exact hf2.mv (R7.putQ x7 hL9')) ((hl.mv (Mv.ext0 e6x)).mv (R7.putQ x7 hL9')) ((hl1.mv (Mv.ext0 e6x)).mv (R7.putQ x7 hL9'))
        · refine G.skip rfl ?_
          exact st1 _ _ _ _ _ ⟨rfl, rfl, rfl, rfl, rfl, rfl, rfl, trivial⟩ R4 LB4 k9 k11 (by simp only [catPart, hg]; exact hf) hl hl1
      · have hnil : kids.drop i = [] := List.drop_of_length_le (by omega)
        rw [hnil, gluCat] at hcon
        refine G.exit rfl rfl ?_
        refine G.seq rfl ?_
        refine G.reg Tryd.func63 rfl ?_
        refine RW.pureS rfl rfl rfl rfl (OpP.loadRowN H.ag124 H.sz124 rfl k9.row (by first | rfl | simp)) ?_
        refine RW.op0 rfl rfl rfl (OpX.storeBlk H.sz124 rfl rfl LB.k6 rfl (by first | decide | exact of_decide_eq_true rfl | (simp; done) | (simp; omega)) (by first | decide | simp [Value.oneCell'])) ?_
        rintro _ g9 ⟨rfl, hk9, hx9, hz9⟩
        refine RW.done rfl ?_
        refine G.sub (ρ' := [(0, _), (2, _), (4, _), (6, _), (9, _), (10, _), (56, _)]) ⟨rfl, rfl, rfl, rfl, rfl, rfl, rfl, trivial⟩ ?_
        have hk9 : Blk g9 h1.size 124 [.bool p.null, .slice fa fn fc, .slice la ln lc] := hk9
        refine G.retC Tryd.func63 rfl (.cons (ResOk.rowN H.ag124 H.sz124 rfl (hk9.row) (by first | rfl | simp)) (.nil)) ?_
        subst hcon
        exact ⟨_, rfl, (R.put hx9 hL6').fin (hf.mv (R.putQ hx9 hL6')) (hl.mv (R.putQ hx9 hL6'))⟩
    · have h2k' : ¬ k = 2 := kkR h2k
      refine G.seq rfl ?_
      refine G.reg Tryd.func63 rfl ?_
      refine RW.pureS rfl rfl rfl rfl (OpP.eqlInt rfl rfl) ?_
      refine RW.pureS rfl rfl rfl rfl (OpP.assign rfl) ?_
      refine RW.done rfl ?_
      refine G.sub (ρ' := [(0, _), (1, _), (2, _), (4, _), (6, _), (7, _), (20, _), (21, _), (47, _), (100, _)]) ⟨rfl, rfl, rfl, rfl, rfl, rfl, rfl, rfl, rfl, rfl, trivial⟩ ?_
      refine G.ite rfl rfl (fun h3k => ?_) (fun h3k => ?_)
      · obtain rfl : k = 3 := by omega
        have hglu : glu n (.mk 3 s kids) st = gluAlt n kids ⟨false, nob n, nob n⟩ st := by rw [glu]; simp
        rw [hglu]
        generalize htgt : gluAlt n kids ⟨false, nob n, nob n⟩ st = tgt
        rw [if_neg (by decide), Nat.zero_add] at hroom
        refine G.seq rfl ?_
        refine G.reg Tryd.func63 rfl ?_
        refine RW.pureS rfl rfl rfl rfl (OpP.move rfl) ?_
        refine RW.pureS rfl rfl rfl rfl (OpP.move rfl) ?_
        refine RW.pureS rfl rfl rfl rfl (OpP.build (H.bd124_0_1_2 _ _ _ _ _ _ _) rfl) ?_
        refine RW.opS rfl rfl rfl rfl (OpX.allocN H.zr124) ?_
        rintro _ h4 ⟨rfl, k9, e4, z4⟩
        refine RW.op0 rfl rfl rfl (OpX.storeBlk H.sz124 rfl rfl k9 rfl (by first | decide | exact of_decide_eq_true rfl | (simp; done) | (simp; omega)) (by first | decide | simp [Value.oneCell'])) ?_
        rintro _ h5 ⟨rfl, k9, x5, z5⟩
        have k9 : Blk h5 h3.size 124 [.bool false, .slice (some ⟨h2.size, 0, none⟩) n n, .slice (some ⟨h2.size, 0, none⟩) n n] := k9
        have e35 : Ext0 h3 h5 := Ext0.only e4 x5 (Nat.le_refl _)
        have e05 := e03.trans e35
        generalize hL5e : (fun b => L2 b ∨ b = Array.size h3 : Nat → Prop) = L5
        have hL5 : ∀ b, L5 b → h.size ≤ b ∧ b < h5.size := by rw [← hL5e]; rintro b (k | k); (have := hL2 b k; omega); omega
        have hL4' : L5 h.size := by rw [← hL5e]; exact .inl hLn
        have hL6' : L5 h1.size := by rw [← hL5e]; exact .inl hLp
        have hL9' : L5 h3.size := by rw [← hL5e]; exact .inr rfl
        have R5 : RuL O rb vs vb vl h L5 h5.size h5 vs st := ⟨hr.ext (O' := ruO O L5) e05 (fun _ _ k => k) (fun _ _ k => k.elim) (fun b hb k => k.elim id (fun k => by have := hL5 b k; omega)), e05.mono (fun _ _ k => k.elim), fun b hb => .inl hb, Nat.le_refl _, by omega, hltM, hO, hL5⟩
        have hnb3 : SlR .bool h3 (ruQ O rb vs vb L2) (.slice (some ⟨h2.size, 0, none⟩) n n) (nob n) := OwE.read (h1 := fun _ => rfl) q7 (fun b hb k => by
          rcases k with k | k | k
          · have := hltM b k; omega
          · have := hO b k; omega
          · rw [← hLe] at k; rcases k with k | k <;> omega)
        have hnb5 : SlR .bool h5 (ruQ O rb vs vb L5) (.slice (some ⟨h2.size, 0, none⟩) n n) (nob n) := hnb3.mv ⟨e35.size, fun b hb hn => ⟨e35.block b hb (fun k => k), by
          rintro (k | k | k)
          · exact hn (.inl k)
          · exact hn (.inr (.inl k))
          · rw [← hL5e] at k
            rcases k with k | k
            · exact hn (.inr (.inr k))
            · omega⟩⟩
        have LB5 : LocB h.size h1.size (ndC 3 s (.slice oa kn kc)) h5 := ⟨q4.ext0 e35, q6.ext0 e35⟩
        refine RW.done rfl ?_
        refine G.sub (ρ' := [(0, _), (1, _), (2, _), (4, _), (6, _), (7, _), (12, _), (20, _), (21, _), (47, _), (100, _)]) ⟨rfl, rfl, rfl, rfl, rfl, rfl, rfl, rfl, rfl, rfl, rfl, trivial⟩ ?_
        refine G.seq rfl ?_
        refine G.seq rfl ?_
        refine G.reg Tryd.func63 rfl ?_
        refine RW.pureS rfl rfl rfl rfl (OpP.assign rfl) ?_
        refine RW.done rfl ?_
        refine G.sub (ρ' := [(0, _), (1, _), (2, _), (4, _), (6, _), (7, _), (12, _), (13, _), (20, _), (21, _), (47, _), (100, _)]) ⟨rfl, rfl, rfl, rfl, rfl, rfl, rfl, rfl, rfl, rfl, rfl, rfl, trivial⟩ ?_
        refine G.block rfl rfl ?_
        refine G.loop (σ := Nat) (fun i => [(0, .pointer (some ⟨rb, 0, none⟩)), (2, .int .i64 (n : Nat)), (4, .pointer (some ⟨h.size, 0, none⟩)), (6, .pointer (some ⟨h1.size, 0, none⟩)), (12, .pointer (some ⟨h3.size, 0, none⟩)), (13, .int .i64 (i : Nat))]) (fun i h' => i ≤ kn ∧ ∃ vs' p fa fn fc la ln lc stc, RuL O rb vs vb vl h L5 h5.size h' vs' stc ∧ LocB h.size h1.size (ndC 3 s (.slice oa kn kc)) h' ∧ Blk h' h3.size 124 [.bool p.null, .slice fa fn fc, .slice la ln lc] ∧ SlR .bool h' (ruQ O rb vs' vb L5) (.slice fa fn fc) p.first ∧ SlR .bool h' (ruQ O rb vs' vb L5) (.slice la ln lc) p.last ∧ PartOk n p ∧ RuOk n stc ∧ stc.1.length + cntL (kids.drop i) ≤ n ∧ gluAlt n (kids.drop i) p stc = tgt) (fun i => kn - i) (0) rfl ⟨rfl, rfl, rfl, rfl, rfl, rfl, trivial⟩ ⟨Nat.zero_le _, vs, ⟨false, nob n, nob n⟩, _, _, _, _, _, _, st, R5, LB5, k9, hnb5, hnb5, nob_ok n false, hok, hroom, htgt⟩ ?_
        rintro i g ⟨hi, vs', p, fa, fn, fc, la, ln, lc, stc, R, LB, k9, hf, hl, hpok, hcok, hcroom, hcon⟩ ih2
        have hvb := hr.ownB
        have hL5s : Array.size h3 < Array.size h5 := (hL5 _ hL9').2
        refine G.seq rfl ?_
        refine G.seq rfl ?_
        refine G.reg Tryd.func63 rfl ?_
        refine RW.pureS rfl rfl rfl rfl (OpP.move rfl) ?_
        refine RW.pureS rfl rfl rfl rfl (OpP.fieldAddr (off := 5) Tryd.underlying94 rfl rfl H.sz92 rfl) ?_
        refine RW.pureS rfl rfl rfl rfl (OpP.load H.ag92 rfl (LB.k4.cell (i := 5) rfl)) ?_
        refine RW.pureS rfl rfl rfl rfl (OpP.lenSlice Tryd.underlying92 rfl) ?_
        refine RW.pureS rfl rfl rfl rfl (OpP.lss rfl rfl) ?_
        refine RW.done rfl ?_
        refine G.sub (ρ' := [(0, _), (2, _), (4, _), (6, _), (12, _), (13, _), (109, _)]) ⟨rfl, rfl, rfl, rfl, rfl, rfl, rfl, trivial⟩ ?_
        refine G.ite rfl rfl (fun hlt => ?_) (fun hlt => ?_)
        · have hik : i < kids.length := by omega
          obtain ⟨x, hx⟩ : ∃ x, kids[i]? = some x := ⟨_, List.getElem?_eq_getElem hik⟩
          have hdr : kids.drop i = x :: kids.drop (i + 1) := by
            obtain ⟨hi', rfl⟩ := List.getElem?_eq_some_iff.1 hx
            exact List.drop_eq_getElem_cons hi'
          rw [hdr, gluAlt] at hcon
          rw [hdr] at hcroom
          simp only [cntL] at hcroom
          have hszx := szL_mem hx
          have hwx := wfL_mem hwl hx
          have hokx := glu_ok n x stc hcok
          have hroomx := hokx.2.2.2 hwx
          obtain ⟨b, o, cs, ha, hob, hrow, hnd⟩ := (hsl.mv R.old).get i x hx
          obtain ⟨w2, rfl, -⟩ := NdAt.open hnd
          have hgz := R.size
          refine G.skip rfl ?_
          refine G.seq rfl ?_
          refine G.block rfl rfl ?_
          refine G.seq rfl ?_
          refine G.reg Tryd.func63 rfl ?_
          refine RW.pureS rfl rfl rfl rfl (OpP.move rfl) ?_
          refine RW.pureS rfl rfl rfl rfl (OpP.fieldAddr (off := 5) Tryd.underlying94 rfl rfl H.sz92 rfl) ?_
          refine RW.pureS rfl rfl rfl rfl (OpP.load H.ag92 rfl (LB.k4.cell (i := 5) rfl)) ?_
          refine RW.pureS rfl rfl rfl rfl (OpP.move rfl) ?_
          refine RW.pureS rfl rfl rfl rfl (OpP.indexSlice Tryd.underlying92 H.sz94 rfl rfl i rfl ha (by omega)) ?_
          refine RW.pureS rfl rfl rfl rfl (OpP.loadRowN H.ag94 H.sz94 rfl hrow (by first | rfl | simp)) ?_
          refine RW.pureS rfl rfl rfl rfl (OpP.move rfl) ?_
          refine RW.opS rfl rfl rfl rfl (OpX.call (vs := [_, _, _]) Tryd.func63 rfl H.nm63 rfl (CallsH.toX (ih (x := x) (O := ruO O L5) (by omega) R.at_ (fun b hb => R.qlt b (.inr hb)) hnd hwx hcok (by omega) hn))) ?_
          rintro _ g1 ⟨vs1, f1, l1, rfl, a1, hf1, hl1, e1x, ho1⟩
          refine RW.opS rfl rfl rfl rfl (OpX.allocN H.zr124) ?_
          rintro _ g2 ⟨rfl, k11, e2x, z2x⟩
          generalize glu n x stc = out at *
          have hf1' : ∃ oa n c, f1 = .slice oa n c := by obtain ⟨oa, n, c, rfl, _⟩ := hf1; exact ⟨_, _, _, rfl⟩
          obtain ⟨f1a, f1n, f1c, rfl⟩ := hf1'
          have hl1' : ∃ oa n c, l1 = .slice oa n c := by obtain ⟨oa, n, c, rfl, _⟩ := hl1; exact ⟨_, _, _, rfl⟩
          obtain ⟨l1a, l1n, l1c, rfl⟩ := hl1'
          have R1 := R.sub a1 e1x ho1
          have z1x := e1x.size
          have LB1 := LB.ext e1x (R.loc _ hL4') (R.loc _ hL6')
          have k9 := k9.ext e1x (R.loc _ hL9')
          have hf := hf.mv (R.subQ e1x ho1)
          have hl := hl.mv (R.subQ e1x ho1)
          refine RW.op0 rfl rfl rfl (OpX.storeBlk H.sz124 rfl rfl k11 rfl (by first | decide | exact of_decide_eq_true rfl | (simp; done) | (simp; omega)) (by first | decide | simp [Value.oneCell'])) ?_
          rintro _ g3 ⟨rfl, k11, x3, z3x⟩
          have k11 : Blk g3 g1.size 124 [.bool out.1.null, .slice f1a f1n f1c, .slice l1a l1n l1c] := k11
          have e13 : Ext0 g1 g3 := Ext0.only e2x x3 (Nat.le_refl _)
          have R3' := R1.ext0 e13
          have LB3 := LB1.ext0 e13
          have k9 := k9.ext0 e13
          have hf := hf.mv (Mv.ext0 e13)
          have hl := hl.mv (Mv.ext0 e13)
          have hf1 : SlR .bool g3 (ruQ O rb vs1 vb L5) _ out.1.first := SlR.mv hf1 (Mv.ext0 e13)
          have hl1 : SlR .bool g3 (ruQ O rb vs1 vb L5) _ out.1.last := SlR.mv hl1 (Mv.ext0 e13)
          have hcpok := altPart_ok hpok hokx.1
          have hg1n : ¬ g1.size = h3.size := by omega
          have wmask : ∀ {ga gb : Heap} {w : Value} {xs : List Bool}, RuL O rb vs vb vl h L5 h5.size ga vs1 out.2 → OwE Value.bool gb ga.size 4 w xs → SlR .bool gb (ruQ O rb vs1 vb L5) w xs := fun R ho => OwE.read (h1 := fun _ => rfl) ho (fun b hb k => by have := R.qlt b k; omega)
          have hgl : ∀ {ga gb : Heap}, Ext0 ga gb → Ext (fun b => g3.size ≤ b) ga gb := fun e => e.mono (fun _ _ k => k.elim)
          have lf : p.first.length ≤ out.1.first.length := by rw [hpok.first, hokx.1.first]; exact Nat.le_refl _
          have ll : p.last.length ≤ out.1.last.length := by rw [hpok.last, hokx.1.last]; exact Nat.le_refl _
          have lfn : p.first.length ≤ 1000000 := by rw [hpok.first]; exact hn
          have lln : p.last.length ≤ 1000000 := by rw [hpok.last]; exact hn
          refine RW.done rfl ?_
          refine G.sub (ρ' := [(0, _), (2, _), (4, _), (6, _), (12, _), (13, _), (14, _), (109, _)]) ⟨rfl, rfl, rfl, rfl, rfl, rfl, rfl, rfl, trivial⟩ ?_
          refine G.draw (fun b => Array.size g3 ≤ b) (fun i => Nat.blt i 17) (sz := 18) (listed := #[false, false, false, false, false, false, false, false, false, false, false, false, false, false, false, false, false, false]) Tryd.func63 H.mixed rfl rfl rfl ?_
          refine RD.takeS 0 (listed' := #[true, false, false, false, false, false, false, false, false, false, false, false, false, false, false, false, false, false]) rfl (by kernel_rfl) (by kernel_rfl) (by kernel_rfl) rfl rfl rfl (fun h' e => OpP.fieldAddr (off := 0) Tryd.underlying124 rfl rfl H.sz4 rfl) rfl ?_
          refine RD.takeS 1 (listed' := #[true, true, false, false, false, false, false, false, false, false, false, false, false, false, false, false, false, false]) rfl (by kernel_rfl) (by kernel_rfl) (by kernel_rfl) rfl rfl rfl (fun h' e => OpP.load H.ag4 rfl (e.old (k9.cell (i := 0) rfl))) rfl ?_
          refine RD.takeS 2 (listed' := #[true, true, true, false, false, false, false, false, false, false, false, false, false, false, false, false, false, false]) rfl (by kernel_rfl) (by kernel_rfl) (by kernel_rfl) rfl rfl rfl (fun h' e => OpP.move rfl) rfl ?_
          refine RD.takeS 6 (listed' := #[true, true, true, false, false, false, true, false, false, false, false, false, false, false, false, false, false, false]) rfl (by kernel_rfl) (by kernel_rfl) (by kernel_rfl) rfl rfl rfl (fun h' e => OpP.fieldAddr (off := 1) Tryd.underlying124 rfl rfl H.sz55 rfl) rfl ?_
          refine RD.split (d := 122) rfl (fun hg => ?_) (fun hg => ?_)
          · refine RD.skipS 3 (listed' := #[true, true, true, true, false, false, true, false, false, false, false, false, false, false, false, false, false, false]) rfl (by kernel_rfl) (by kernel_rfl) (by kernel_rfl) rfl rfl rfl rfl ?_
            refine RD.skipS 4 (listed' := #[true, true, true, true, true, false, true, false, false, false, false, false, false, false, false, false, false, false]) rfl (by kernel_rfl) (by kernel_rfl) (by kernel_rfl) rfl rfl rfl rfl ?_
            refine RD.takeS 5 (listed' := #[true, true, true, true, true, true, true, false, false, false, false, false, false, false, false, false, false, false]) rfl (by kernel_rfl) (by kernel_rfl) (by kernel_rfl) rfl rfl rfl (fun h' e => OpP.pickT rfl rfl) rfl ?_
            refine RD.takeS 7 (listed' := #[true, true, true, true, true, true, true, true, false, false, false, false, false, false, false, false, false, false]) rfl (by kernel_rfl) (by kernel_rfl) (by kernel_rfl) rfl rfl rfl (fun h' e => OpP.load H.ag55 rfl (e.old (k9.cell (i := 1) rfl))) rfl ?_
            refine RD.takeS 8 (listed' := #[true, true, true, true, true, true, true, true, true, false, false, false, false, false, false, false, false, false]) rfl (by kernel_rfl) (by kernel_rfl) (by kernel_rfl) rfl rfl rfl (fun h' e => OpP.fieldAddr (off := 1) Tryd.underlying124 rfl rfl H.sz55 rfl) rfl ?_
            refine RD.takeS 9 (listed' := #[true, true, true, true, true, true, true, true, true, true, false, false, false, false, false, false, false, false]) rfl (by kernel_rfl) (by kernel_rfl) (by kernel_rfl) rfl rfl rfl (fun h' e => OpP.load H.ag55 rfl (e.old (k11.cell (i := 1) rfl))) rfl ?_
            refine RD.takeS 11 (listed' := #[true, true, true, true, true, true, true, true, true, true, false, true, false, false, false, false, false, false]) rfl (by kernel_rfl) (by kernel_rfl) (by kernel_rfl) rfl rfl rfl (fun h' e => OpP.fieldAddr (off := 2) Tryd.underlying124 rfl rfl H.sz55 rfl) rfl ?_
            refine RD.takeS 12 (listed' := #[true, true, true, true, true, true, true, true, true, true, false, true, true, false, false, false, false, false]) rfl (by kernel_rfl) (by kernel_rfl) (by kernel_rfl) rfl rfl rfl (fun h' e => OpP.load H.ag55 rfl (e.old (k9.cell (i := 2) rfl))) rfl ?_
            refine RD.takeS 13 (listed' := #[true, true, true, true, true, true, true, true, true, true, false, true, true, true, false, false, false, false]) rfl (by kernel_rfl) (by kernel_rfl) (by kernel_rfl) rfl rfl rfl (fun h' e => OpP.fieldAddr (off := 2) Tryd.underlying124 rfl rfl H.sz55 rfl) rfl ?_
            refine RD.takeS 14 (listed' := #[true, true, true, true, true, true, true, true, true, true, false, true, true, true, true, false, false, false]) rfl (by kernel_rfl) (by kernel_rfl) (by kernel_rfl) rfl rfl rfl (fun h' e => OpP.load H.ag55 rfl (e.old (k11.cell (i := 2) rfl))) rfl ?_
            refine RD.oneS 10 (listed' := #[true, true, true, true, true, true, true, true, true, true, true, true, true, true, true, false, false, false]) rfl (by kernel_rfl) rfl rfl rfl (OpX.call (vs := [_, _]) Tryd.func64 rfl H.nm64 rfl (CallsH.toX (or_calls hf hf1 lf lfn))) rfl ?_
            rintro w5 g5 ⟨ho5, e5x⟩
            refine ⟨fun _ => hgl e5x, ?_⟩
            refine RD.oneS 15 (listed' := #[true, true, true, true, true, true, true, true, true, true, true, true, true, true, true, true, false, false]) rfl (by kernel_rfl) rfl rfl rfl (OpX.call (vs := [_, _]) Tryd.func64 rfl H.nm64 rfl (CallsH.toX (or_calls (hl.mv (Mv.ext0 e5x)) (hl1.mv (Mv.ext0 e5x)) ll lln))) rfl ?_
            rintro w6 g6 ⟨ho6, e6x⟩
            refine ⟨fun _ => hgl e6x, ?_⟩
            obtain ⟨wa, wc, rfl, _⟩ := (show OwnH g5 g3.size 4 1 w5 (orB p.first out.1.first).length ((orB p.first out.1.first).map Value.bool) from ho5).open
            obtain ⟨ua, uc, rfl, _⟩ := (show OwnH g6 g5.size 4 1 w6 (orB p.last out.1.last).length ((orB p.last out.1.last).map Value.bool) from ho6).open
            have R5x := R3'.ext0 e5x
            have R6x := R5x.ext0 e6x
            have hf2 := (wmask R3' ho5).mv (Mv.ext0 e6x)
            have hl2 := wmask R5x ho6
            have e36x := e5x.trans e6x
            refine RD.takeS 16 (listed' := #[true, true, true, true, true, true, true, true, true, true, true, true, true, true, true, true, true, false]) rfl (by kernel_rfl) (by kernel_rfl) (by kernel_rfl) rfl rfl rfl (fun h' e => OpP.build (H.bd124_0_1_2 _ _ _ _ _ _ _) rfl) rfl ?_
            refine RD.one0 17 (listed' := #[true, true, true, true, true, true, true, true, true, true, true, true, true, true, true, true, true, true]) rfl (by kernel_rfl) rfl rfl (OpX.storeBlk H.sz124 rfl rfl (k9.ext0 e36x) rfl (by first | decide | exact of_decide_eq_true rfl | (simp; done) | (simp; omega)) (by first | decide | simp [Value.oneCell'])) rfl ?_
            rintro _ g7 ⟨rfl, k9', x7, z7⟩
            refine ⟨fun hk => (nomatch hk), ?_⟩
            have k9' : Blk g7 h3.size 124 [.bool true, .slice wa (orB p.first out.1.first).length wc, .slice ua (orB p.last out.1.last).length uc] := k9'
            refine RD.done (by kernel_rfl) ?_
            refine G.sub (ρ' := [(0, _), (2, _), (4, _), (6, _), (12, _), (13, _), (14, _), (109, _)]) ⟨rfl, rfl, rfl, rfl, rfl, rfl, rfl, rfl, trivial⟩ ?_
            refine G.blkEnd ?_
            refine G.reg Tryd.func63 rfl ?_
            refine RW.pureS rfl rfl rfl rfl (OpP.move rfl) ?_
            refine RW.pureS rfl rfl rfl rfl (OpP.add64 rfl rfl ⟨by omega, by omega⟩) ?_
            refine RW.pureS rfl rfl rfl rfl (OpP.assign rfl) ?_
            refine RW.done rfl ?_
            refine G.sub (ρ' := [(0, _), (2, _), (4, _), (6, _), (12, _), (13, _), (14, _), (109, _)]) ⟨rfl, rfl, rfl, rfl, rfl, rfl, rfl, rfl, trivial⟩ ?_
            exact ih2 (i + 1) _ _ ⟨rfl, rfl, rfl, rfl, rfl, rfl, trivial⟩ ⟨by omega, vs1, altPart p out.1, _, _, _, _, _, _, _, R6x.put x7 hL9', (LB3.ext0 e36x).ext x7 (by show ¬ _ = _; omega) (by show ¬ _ = _; omega), by simp only [altPart, hg, Bool.true_or]; exact k9', hf2.mv (R6x.putQ x7 hL9'), hl2.mv (R6x.putQ x7 hL9'), hcpok, hokx.2.1, by omega, hcon⟩ (by omega)
          · refine RD.takeS 3 (listed' := #[true, true, true, true, false, false, true, false, false, false, false, false, false, false, false, false, false, false]) rfl (by kernel_rfl) (by kernel_rfl) (by kernel_rfl) rfl rfl rfl (fun h' e => OpP.fieldAddr (off := 0) Tryd.underlying124 rfl rfl H.sz4 rfl) rfl ?_
            refine RD.takeS 4 (listed' := #[true, true, true, true, true, false, true, false, false, false, false, false, false, false, false, false, false, false]) rfl (by kernel_rfl) (by kernel_rfl) (by kernel_rfl) rfl rfl rfl (fun h' e => OpP.load H.ag4 rfl (e.old (k11.cell (i := 0) rfl))) rfl ?_
            refine RD.takeS 5 (listed' := #[true, true, true, true, true, true, true, false, false, false, false, false, false, false, false, false, false, false]) rfl (by kernel_rfl) (by kernel_rfl) (by kernel_rfl) rfl rfl rfl (fun h' e => OpP.pickF rfl rfl) rfl ?_
            refine RD.takeS 7 (listed' := #[true, true, true, true, true, true, true, true, false, false, false, false, false, false, false, false, false, false]) rfl (by kernel_rfl) (by kernel_rfl) (by kernel_rfl) rfl rfl rfl (fun h' e => OpP.load H.ag55 rfl (e.old (k9.cell (i := 1) rfl))) rfl ?_
            refine RD.takeS 8 (listed' := #[true, true, true, true, true, true, true, true, true, false, false, false, false, false, false, false, false, false]) rfl (by kernel_rfl) (by kernel_rfl) (by kernel_rfl) rfl rfl rfl (fun h' e => OpP.fieldAddr (off := 1) Tryd.underlying124 rfl rfl H.sz55 rfl) rfl ?_
            refine RD.takeS 9 (listed' := #[true, true, true, true, true, true, true, true, true, true, false, false, false, false, false, false, false, false]) rfl (by kernel_rfl) (by kernel_rfl) (by kernel_rfl) rfl rfl rfl (fun h' e => OpP.load H.ag55 rfl (e.old (k11.cell (i := 1) rfl))) rfl ?_
            refine RD.takeS 11 (listed' := #[true, true, true, true, true, true, true, true, true, true, false, true, false, false, false, false, false, false]) rfl (by kernel_rfl) (by kernel_rfl) (by kernel_rfl) rfl rfl rfl (fun h' e => OpP.fieldAddr (off := 2) Tryd.underlying124 rfl rfl H.sz55 rfl) rfl ?_
            refine RD.takeS 12 (listed' := #[true, true, true, true, true, true, true, true, true, true, false, true, true, false, false, false, false, false]) rfl (by kernel_rfl) (by kernel_rfl) (by kernel_rfl) rfl rfl rfl (fun h' e => OpP.load H.ag55 rfl (e.old (k9.cell (i := 2) rfl))) rfl ?_
            refine RD.takeS 13 (listed' := #[true, true, true, true, true, true, true, true, true, true, false, true, true, true, false, false, false, false]) rfl (by kernel_rfl) (by kernel_rfl) (by kernel_rfl) rfl rfl rfl (fun h' e => OpP.fieldAddr (off := 2) Tryd.underlying124 rfl rfl H.sz55 rfl) rfl ?_
            refine RD.takeS 14 (listed' := #[true, true, true, true, true, true, true, true, true, true, false, true, true, true, true, false, false, false]) rfl (by kernel_rfl) (by kernel_rfl) (by kernel_rfl) rfl rfl rfl (fun h' e => OpP.load H.ag55 rfl (e.old (k11.cell (i := 2) rfl))) rfl ?_
            refine RD.oneS 10 (listed' := #[true, true, true, true, true, true, true, true, true, true, true, true, true, true, true, false, false, false]) rfl (by kernel_rfl) rfl rfl rfl (OpX.call (vs := [_, _]) Tryd.func64 rfl H.nm64 rfl (CallsH.toX (or_calls hf hf1 lf lfn))) rfl ?_
            rintro w5 g5 ⟨ho5, e5x⟩
            refine ⟨fun _ => hgl e5x, ?_⟩
            refine RD.oneS 15 (listed' := #[true, true, true, true, true, true, true, true, true, true, true, true, true, true, true, true, false, false]) rfl (by kernel_rfl) rfl rfl rfl (OpX.call (vs := [_, _]) Tryd.func64 rfl H.nm64 rfl (CallsH.toX (or_calls (hl.mv (Mv.ext0 e5x)) (hl1.mv (Mv.ext0 e5x)) ll lln))) rfl ?_
            rintro w6 g6 ⟨ho6, e6x⟩
            refine ⟨fun _ => hgl e6x, ?_⟩
            obtain ⟨wa, wc, rfl, _⟩ := (show OwnH g5 g3.size 4 1 w5 (orB p.first out.1.first).length ((orB p.first out.1.first).map Value.bool) from ho5).open
            obtain ⟨ua, uc, rfl, _⟩ := (show OwnH g6 g5.size 4 1 w6 (orB p.last out.1.last).length ((orB p.last out.1.last).map Value.bool) from ho6).open
            have R5x := R3'.ext0 e5x
            have R6x := R5x.ext0 e6x
            have hf2 := (wmask R3' ho5).mv (Mv.ext0 e6x)
            have hl2 := wmask R5x ho6
            have e36x := e5x.trans e6x
            refine RD.takeS 16 (listed' := #[true, true, true, true, true, true, true, true, true, true, true, true, true, true, true, true, true, false]) rfl (by kernel_rfl) (by kernel_rfl) (by kernel_rfl) rfl rfl rfl (fun h' e => OpP.build (H.bd124_0_1_2 _ _ _ _ _ _ _) rfl) rfl ?_
            refine RD.one0 17 (listed' := #[true, true, true, true, true, true, true, true, true, true, true, true, true, true, true, true, true, true]) rfl (by kernel_rfl) rfl rfl (OpX.storeBlk H.sz124 rfl rfl (k9.ext0 e36x) rfl (by first | decide | exact of_decide_eq_true rfl | (simp; done) | (simp; omega)) (by first | decide | simp [Value.oneCell'])) rfl ?_
            rintro _ g7 ⟨rfl, k9', x7, z7⟩
            refine ⟨fun hk => (nomatch hk), ?_⟩
            have k9' : Blk g7 h3.size 124 [.bool out.1.null, .slice wa (orB p.first out.1.first).length wc, .slice ua (orB p.last out.1.last).length uc] := k9'
            refine RD.done (by kernel_rfl) ?_
            refine G.sub (ρ' := [(0, _), (2, _), (4, _), (6, _), (12, _), (13, _), (14, _), (109, _)]) ⟨rfl, rfl, rfl, rfl, rfl, rfl, rfl, rfl, trivial⟩ ?_
            refine G.blkEnd ?_
            refine G.reg Tryd.func63 rfl ?_
            refine RW.pureS rfl rfl rfl rfl (OpP.move rfl) ?_
            refine RW.pureS rfl rfl rfl rfl (OpP.add64 rfl rfl ⟨by omega, by omega⟩) ?_
            refine RW.pureS rfl rfl rfl rfl (OpP.assign rfl) ?_
            refine RW.done rfl ?_
            refine G.sub (ρ' := [(0, _), (2, _), (4, _), (6, _), (12, _), (13, _), (14, _), (109, _)]) ⟨rfl, rfl, rfl, rfl, rfl, rfl, rfl, rfl, trivial⟩ ?_
            exact ih2 (i + 1) _ _ ⟨rfl, rfl, rfl, rfl, rfl, rfl, trivial⟩ ⟨by omega, vs1, altPart p out.1, _, _, _, _, _, _, _, R6x.put x7 hL9', (LB3.ext0 e36x).ext x7 (by show ¬ _ = _; omega) (by show ¬ _ = _; omega), by simp only [altPart, hg, Bool.false_or]; exact k9', hf2.mv (R6x.putQ x7 hL9'), hl2.mv (R6x.putQ x7 hL9'), hcpok, hokx.2.1, by omega, hcon⟩ (by omega)
        · have hnil : kids.drop i = [] := List.drop_of_length_le (by omega)
          rw [hnil, gluAlt] at hcon
          refine G.exit rfl rfl ?_
          refine G.seq rfl ?_
          refine G.reg Tryd.func63 rfl ?_
          refine RW.pureS rfl rfl rfl rfl (OpP.loadRowN H.ag124 H.sz124 rfl k9.row (by first | rfl | simp)) ?_
          refine RW.op0 rfl rfl rfl (OpX.storeBlk H.sz124 rfl rfl LB.k6 rfl (by first | decide | exact of_decide_eq_true rfl | (simp; done) | (simp; omega)) (by first | decide | simp [Value.oneCell'])) ?_
          rintro _ g9 ⟨rfl, hk9, hx9, hz9⟩
          refine RW.done rfl ?_
          refine G.sub (ρ' := [(0, _), (2, _), (4, _), (6, _), (12, _), (13, _), (109, _)]) ⟨rfl, rfl, rfl, rfl, rfl, rfl, rfl, trivial⟩ ?_
          have hk9 : Blk g9 h1.size 124 [.bool p.null, .slice fa fn fc, .slice la ln lc] := hk9
          refine G.retC Tryd.func63 rfl (.cons (ResOk.rowN H.ag124 H.sz124 rfl (hk9.row) (by first | rfl | simp)) (.nil)) ?_
          subst hcon
          exact ⟨_, rfl, (R.put hx9 hL6').fin (hf.mv (R.putQ hx9 hL6')) (hl.mv (R.putQ hx9 hL6'))⟩
      · have h3k' : ¬ k = 3 := kkR h3k
        refine G.seq rfl ?_
        refine G.seq rfl ?_
        refine G.reg Tryd.func63 rfl ?_
        refine RW.pureS rfl rfl rfl rfl (OpP.eqlInt rfl rfl) ?_
        refine RW.pureS rfl rfl rfl rfl (OpP.assign rfl) ?_
        refine RW.done rfl ?_
        refine G.sub (ρ' := [(0, _), (1, _), (2, _), (4, _), (6, _), (7, _), (20, _), (21, _), (47, _), (100, _), (138, _)]) ⟨rfl, rfl, rfl, rfl, rfl, rfl, rfl, rfl, rfl, rfl, rfl, trivial⟩ ?_
        have st45 : ∀ (b45 : Bool) (h' : Heap) (ρ' : Env), Sub [(0, .pointer (some ⟨rb, 0, none⟩)), (2, .int .i64 (n : Nat)), (4, .pointer (some ⟨h.size, 0, none⟩)), (6, .pointer (some ⟨h1.size, 0, none⟩)), (7, .slice (some ⟨h2.size, 0, none⟩) n n), (20, .int .i64 (k : Nat)), (138, .bool b45)] ρ' → h' = h3 → b45 = decide (k = 4 ∨ k = 5) → G Tryd.prog 63 Tryd.f63 [.code [1, 1, 1, 1, 1, 1, 1, 0, 1, 0, 1, 1], .blk 0, .code [1, 1, 1]] ρ' h' (Ret (LayRV O rb h vs vb vl (glu n (.mk k s kids) st))) := by
          rintro b45 h3' ρ' hsub rfl hb45
          refine G.sub (ρ' := [(0, .pointer (some ⟨rb, 0, none⟩)), (2, .int .i64 (n : Nat)), (4, .pointer (some ⟨h.size, 0, none⟩)), (6, .pointer (some ⟨h1.size, 0, none⟩)), (7, .slice (some ⟨h2.size, 0, none⟩) n n), (20, .int .i64 (k : Nat)), (138, .bool b45)]) hsub ?_
          refine G.cond rfl rfl (fun h45 => ?_) (fun h45 => ?_)
          · have hk45 : k = 4 ∨ k = 5 := by rw [h45] at hb45; exact of_decide_eq_true hb45.symm
            have hone : kids.length = 1 := by
              rcases hk45 with rfl | rfl <;> (simp [wfN] at hw; exact hw.1)
            obtain ⟨x, rfl⟩ : ∃ x, kids = [x] := by match kids, hone with | [x], _ => exact ⟨x, rfl⟩
            have hkn1 : kn = 1 := by simpa using hkn.symm
            have hszx : szN x ≤ szL [x] := by simp [szL]
            have hcx : cnt x ≤ cntL [x] := by simp [cntL]
            have hwx : wfN x = true := by simpa [wfL] using hwl
            have hglu : glu n (.mk k s [x]) st = (⟨(glu n x st).1.null || k == 4, (glu n x st).1.first, (glu n x st).1.last⟩, ((glu n x st).2.1, followB (glu n x st).1.last (glu n x st).1.first (glu n x st).2.2)) := by rw [glu]; simp [gluOne, h1k', h2k', h3k', hk45]
            rw [hglu]
            have hokx := glu_ok n x st hok
            obtain ⟨b, o, cs, ha, hob, hrow, hnd⟩ := (hsl.mv (Mv.ext0 e03)).get 0 x rfl
            obtain ⟨w2, rfl, -⟩ := NdAt.open hnd
            have hO3 : ∀ b, ruO O L2 b → b < h3'.size := fun b hb => R3.qlt b (.inr hb)
            refine G.seq rfl ?_
            refine G.reg Tryd.func63 rfl ?_
            refine RW.pureS rfl rfl rfl rfl (OpP.move rfl) ?_
            refine RW.pureS rfl rfl rfl rfl (OpP.fieldAddr (off := 5) Tryd.underlying94 rfl rfl H.sz92 rfl) ?_
            refine RW.pureS rfl rfl rfl rfl (OpP.load H.ag92 rfl (q4.cell (i := 5) rfl)) ?_
            refine RW.pureS rfl rfl rfl rfl (OpP.indexSlice Tryd.underlying92 H.sz94 rfl rfl 0 rfl ha (by omega)) ?_
            refine RW.pureS rfl rfl rfl rfl (OpP.loadRowN H.ag94 H.sz94 rfl hrow (by first | rfl | simp)) ?_
            refine RW.pureS rfl rfl rfl rfl (OpP.move rfl) ?_
            refine RW.opS rfl rfl rfl rfl (OpX.call (vs := [_, _, _]) Tryd.func63 rfl H.nm63 rfl (CallsH.toX (ih (x := x) (O := ruO O L2) (by omega) R3.at_ hO3 hnd hwx hok (by omega) hn))) ?_
            rintro _ h5 ⟨vs5, f5, l5, rfl, a5, hf5, hl5, e5, ho5⟩
            refine RW.opS rfl rfl rfl rfl (OpX.allocN H.zr124) ?_
            rintro _ h6 ⟨rfl, k15, e6, z6⟩
            generalize glu n x st = out at *
            have hf1 : ∃ oa n c, f5 = .slice oa n c := by obtain ⟨oa, n, c, rfl, _⟩ := hf5; exact ⟨_, _, _, rfl⟩
            obtain ⟨fa, fn, fc, rfl⟩ := hf1
            have hl1 : ∃ oa n c, l5 = .slice oa n c := by obtain ⟨oa, n, c, rfl, _⟩ := hl5; exact ⟨_, _, _, rfl⟩
            obtain ⟨la, ln, lc, rfl⟩ := hl1
            have R5 := R3.sub a5 e5 ho5
            have z5 := e5.size
            have q4 := (q4.ext e5 (R3.loc _ hLn)).ext0 e6
            have q6 := (q6.ext e5 (R3.loc _ hLp)).ext0 e6
            refine RW.op0 rfl rfl rfl (OpX.storeBlk H.sz124 rfl rfl k15 rfl (by first | decide | exact of_decide_eq_true rfl | (simp; done) | (simp; omega)) (by first | decide | simp [Value.oneCell'])) ?_
            rintro _ h7 ⟨rfl, k15, x7, z7⟩
            have k15 : Blk h7 h5.size 124 [.bool out.1.null, .slice fa fn fc, .slice la ln lc] := k15
            have e57 : Ext0 h5 h7 := Ext0.only e6 x7 (Nat.le_refl _)
            have q4 := q4.ext x7 (by show ¬ _ = _; omega)
            have q6 := q6.ext x7 (by show ¬ _ = _; omega)
            have R7 := R5.ext0 e57
            have hf7 : SlR .bool h7 (ruQ O rb vs5 vb L2) _ out.1.first := SlR.mv hf5 (Mv.ext0 e57)
            have hl7 : SlR .bool h7 (ruQ O rb vs5 vb L2) _ out.1.last := SlR.mv hl5 (Mv.ext0 e57)
            refine RW.done rfl ?_
            refine G.sub (ρ' := [(0, _), (2, _), (4, _), (6, _), (7, _), (15, _), (20, _), (138, _)]) ⟨rfl, rfl, rfl, rfl, rfl, rfl, rfl, rfl, trivial⟩ ?_
            refine G.seq rfl ?_
            refine G.reg Tryd.func63 rfl ?_
            refine RW.pureS rfl rfl rfl rfl (OpP.move rfl) ?_
            refine RW.pureS rfl rfl rfl rfl (OpP.fieldAddr (off := 2) Tryd.underlying124 rfl rfl H.sz55 rfl) ?_
            refine RW.pureS rfl rfl rfl rfl (OpP.load H.ag55 rfl (k15.cell (i := 2) rfl)) ?_
            refine RW.pureS rfl rfl rfl rfl (OpP.fieldAddr (off := 1) Tryd.underlying124 rfl rfl H.sz55 rfl) ?_
            refine RW.pureS rfl rfl rfl rfl (OpP.load H.ag55 rfl (k15.cell (i := 1) rfl)) ?_
            refine RW.opS rfl rfl rfl rfl (OpX.call (vs := [_, _, _]) Tryd.func81 rfl H.nm81 rfl (CallsH.toX (follow_calls R7.at_ (fun b hb => R7.qlt b (.inr hb)) (SlR.less hl7 (fun _ k => .inl k)) (SlR.less hf7 (fun _ k => .inl k)) hokx.2.1 hokx.1.last hokx.1.first hn))) ?_
            rintro _ h8 ⟨a8, e8⟩
            have R8 := R7.fol a8 e8
            have hf8 := hf7.mv (R7.folQ e8)
            have hl8 := hl7.mv (R7.folQ e8)
            have hvb := hr.ownB
            have k15 := k15.ext e8 (fun k => by have := hvb _ k.symm; omega)
            have q4 := q4.ext e8 (fun k => by have := hvb _ k.symm; omega)
            have q6 := q6.ext e8 (fun k => by have := hvb _ k.symm; omega)
            refine RW.done rfl ?_
            refine G.sub (ρ' := [(0, _), (2, _), (4, _), (6, _), (7, _), (15, _), (20, _), (138, _)]) ⟨rfl, rfl, rfl, rfl, rfl, rfl, rfl, rfl, trivial⟩ ?_
            refine G.seq rfl ?_
            refine G.reg Tryd.func63 rfl ?_
            refine RW.pureS rfl rfl rfl rfl (OpP.fieldAddr (off := 0) Tryd.underlying124 rfl rfl H.sz4 rfl) ?_
            refine RW.pureS rfl rfl rfl rfl (OpP.load H.ag4 rfl (k15.cell (i := 0) rfl)) ?_
            refine RW.pureS rfl rfl rfl rfl (OpP.move rfl) ?_
            refine RW.split (d := 156) rfl (fun hg => ?_) (fun hg => ?_)
            · refine RW.skipS rfl rfl rfl rfl ?_
              refine RW.skipS rfl rfl rfl rfl ?_
              refine RW.skipS rfl rfl rfl rfl ?_
              refine RW.pureS rfl rfl rfl rfl (OpP.pickT rfl rfl) ?_
              refine RW.pureS rfl rfl rfl rfl (OpP.fieldAddr (off := 1) Tryd.underlying124 rfl rfl H.sz55 rfl) ?_
              refine RW.pureS rfl rfl rfl rfl (OpP.load H.ag55 rfl (k15.cell (i := 1) rfl)) ?_
              refine RW.pureS rfl rfl rfl rfl (OpP.fieldAddr (off := 2) Tryd.underlying124 rfl rfl H.sz55 rfl) ?_
              refine RW.pureS rfl rfl rfl rfl (OpP.load H.ag55 rfl (k15.cell (i := 2) rfl)) ?_
              refine RW.pureS rfl rfl rfl rfl (OpP.build (H.bd124_0_1_2 _ _ _ _ _ _ _) rfl) ?_
              refine RW.op0 rfl rfl rfl (OpX.storeBlk H.sz124 rfl rfl q6 rfl (by first | decide | exact of_decide_eq_true rfl | (simp; done) | (simp; omega)) (by first | decide | simp [Value.oneCell'])) ?_
              rintro _ h9 ⟨rfl, hk9, hx9, hz9⟩
              refine RW.done rfl ?_
              refine G.sub (ρ' := [(0, _), (2, _), (4, _), (6, _), (7, _), (15, _), (20, _), (138, _)]) ⟨rfl, rfl, rfl, rfl, rfl, rfl, rfl, rfl, trivial⟩ ?_
              have hk9 : Blk h9 h1.size 124 [.bool true, .slice fa fn fc, .slice la ln lc] := hk9
              refine G.retC Tryd.func63 rfl (.cons (ResOk.rowN H.ag124 H.sz124 rfl (hk9.row) (by first | rfl | simp)) (.nil)) ?_
              have R9 := R8.put hx9 hLp
              have hfin := R9.fin (p := ⟨out.1.null || k == 4, out.1.first, out.1.last⟩) (hf8.mv (R8.putQ hx9 hLp)) (hl8.mv (R8.putQ hx9 hLp))
              simp only [hg, Bool.true_or] at hfin ⊢
              exact ⟨_, rfl, hfin⟩
            · refine RW.pureS rfl rfl rfl rfl (OpP.fieldAddr (off := 0) Tryd.underlying94 rfl rfl H.sz3 rfl) ?_
              refine RW.pureS rfl rfl rfl rfl (OpP.load H.ag3 rfl (q4.cell (i := 0) rfl)) ?_
              refine RW.pureS rfl rfl rfl rfl (OpP.eqlInt rfl rfl) ?_
              refine RW.pureS rfl rfl rfl rfl (OpP.pickF rfl rfl) ?_
              refine RW.pureS rfl rfl rfl rfl (OpP.fieldAddr (off := 1) Tryd.underlying124 rfl rfl H.sz55 rfl) ?_
              refine RW.pureS rfl rfl rfl rfl (OpP.load H.ag55 rfl (k15.cell (i := 1) rfl)) ?_
              refine RW.pureS rfl rfl rfl rfl (OpP.fieldAddr (off := 2) Tryd.underlying124 rfl rfl H.sz55 rfl) ?_
              refine RW.pureS rfl rfl rfl rfl (OpP.load H.ag55 rfl (k15.cell (i := 2) rfl)) ?_
              refine RW.pureS rfl rfl rfl rfl (OpP.build (H.bd124_0_1_2 _ _ _ _ _ _ _) rfl) ?_
              refine RW.op0 rfl rfl rfl (OpX.storeBlk H.sz124 rfl rfl q6 rfl (by first | decide | exact of_decide_eq_true rfl | (simp; done) | (simp; omega)) (by first | decide | simp [Value.oneCell'])) ?_
              rintro _ h9 ⟨rfl, hk9, hx9, hz9⟩
              refine RW.done rfl ?_
              refine G.sub (ρ' := [(0, _), (2, _), (4, _), (6, _), (7, _), (15, _), (20, _), (138, _)]) ⟨rfl, rfl, rfl, rfl, rfl, rfl, rfl, rfl, trivial⟩ ?_
              have hk9 : Blk h9 h1.size 124 [.bool (decide ((k : Int) = 4)), .slice fa fn fc, .slice la ln lc] := hk9
              refine G.retC Tryd.func63 rfl (.cons (ResOk.rowN H.ag124 H.sz124 rfl (hk9.row) (by first | rfl | simp)) (.nil)) ?_
              have R9 := R8.put hx9 hLp
              have hfin := R9.fin (p := ⟨out.1.null || k == 4, out.1.first, out.1.last⟩) (hf8.mv (R8.putQ hx9 hLp)) (hl8.mv (R8.putQ hx9 hLp))
              have hkd : (k == 4) = decide ((k : Int) = 4) := by rcases hk45 with rfl | rfl <;> rfl
              simp only [hg, Bool.false_or, hkd] at hfin ⊢
              exact ⟨_, rfl, hfin⟩
          · have hk45 : ¬ (k = 4 ∨ k = 5) := by rw [h45] at hb45; exact of_decide_eq_false hb45.symm
            refine G.seq rfl ?_
            refine G.reg Tryd.func63 rfl ?_
            refine RW.pureS rfl rfl rfl rfl (OpP.eqlInt rfl rfl) ?_
            refine RW.pureS rfl rfl rfl rfl (OpP.assign rfl) ?_
            refine RW.done rfl ?_
            refine G.sub (ρ' := [(0, _), (2, _), (4, _), (6, _), (7, _), (20, _), (138, _), (166, _)]) ⟨rfl, rfl, rfl, rfl, rfl, rfl, rfl, rfl, trivial⟩ ?_
            refine G.ite rfl rfl (fun h6k => ?_) (fun h6k => ?_)
            · obtain rfl : k = 6 := by omega
              have hone : kids.length = 1 := by simp [wfN] at hw; exact hw.1
              obtain ⟨x, rfl⟩ : ∃ x, kids = [x] := by match kids, hone with | [x], _ => exact ⟨x, rfl⟩
              have hkn1 : kn = 1 := by simpa using hkn.symm
              have hszx : szN x ≤ szL [x] := by simp [szL]
              have hcx : cnt x ≤ cntL [x] := by simp [cntL]
              have hwx : wfN x = true := by simpa [wfL] using hwl
              have hglu : glu n (.mk 6 s [x]) st = (⟨true, (glu n x st).1.first, (glu n x st).1.last⟩, (glu n x st).2) := by rw [glu]; simp [gluOne]
              rw [hglu]
              have hokx := glu_ok n x st hok
              obtain ⟨b, o, cs, ha, hob, hrow, hnd⟩ := (hsl.mv (Mv.ext0 e03)).get 0 x rfl
              obtain ⟨w2, rfl, -⟩ := NdAt.open hnd
              have hO3 : ∀ b, ruO O L2 b → b < h3'.size := fun b hb => R3.qlt b (.inr hb)
              refine G.seq rfl ?_
              refine G.reg Tryd.func63 rfl ?_
              refine RW.pureS rfl rfl rfl rfl (OpP.move rfl) ?_
              refine RW.pureS rfl rfl rfl rfl (OpP.fieldAddr (off := 5) Tryd.underlying94 rfl rfl H.sz92 rfl) ?_
              refine RW.pureS rfl rfl rfl rfl (OpP.load H.ag92 rfl (q4.cell (i := 5) rfl)) ?_
              refine RW.pureS rfl rfl rfl rfl (OpP.indexSlice Tryd.underlying92 H.sz94 rfl rfl 0 rfl ha (by omega)) ?_
              refine RW.pureS rfl rfl rfl rfl (OpP.loadRowN H.ag94 H.sz94 rfl hrow (by first | rfl | simp)) ?_
              refine RW.pureS rfl rfl rfl rfl (OpP.move rfl) ?_
              refine RW.opS rfl rfl rfl rfl (OpX.call (vs := [_, _, _]) Tryd.func63 rfl H.nm63 rfl (CallsH.toX (ih (x := x) (O := ruO O L2) (by omega) R3.at_ hO3 hnd hwx hok (by omega) hn))) ?_
              rintro _ h5 ⟨vs5, f5, l5, rfl, a5, hf5, hl5, e5, ho5⟩
              refine RW.opS rfl rfl rfl rfl (OpX.allocN H.zr124) ?_
              rintro _ h6 ⟨rfl, k15, e6, z6⟩
              generalize glu n x st = out at *
              have hf1 : ∃ oa n c, f5 = .slice oa n c := by obtain ⟨oa, n, c, rfl, _⟩ := hf5; exact ⟨_, _, _, rfl⟩
              obtain ⟨fa, fn, fc, rfl⟩ := hf1
              have hl1 : ∃ oa n c, l5 = .slice oa n c := by obtain ⟨oa, n, c, rfl, _⟩ := hl5; exact ⟨_, _, _, rfl⟩
              obtain ⟨la, ln, lc, rfl⟩ := hl1
              have R5 := R3.sub a5 e5 ho5
              have z5 := e5.size
              have q6 := (q6.ext e5 (R3.loc _ hLp)).ext0 e6
              refine RW.op0 rfl rfl rfl (OpX.storeBlk H.sz124 rfl rfl k15 rfl (by first | decide | exact of_decide_eq_true rfl | (simp; done) | (simp; omega)) (by first | decide | simp [Value.oneCell'])) ?_
              rintro _ h7 ⟨rfl, k15, x7, z7⟩
              have k15 : Blk h7 h5.size 124 [.bool out.1.null, .slice fa fn fc, .slice la ln lc] := k15
              have e57 : Ext0 h5 h7 := Ext0.only e6 x7 (Nat.le_refl _)
              have q6 := q6.ext x7 (by show ¬ _ = _; omega)
              have R7 := R5.ext0 e57
              have hf7 : SlR .bool h7 (ruQ O rb vs5 vb L2) _ out.1.first := SlR.mv hf5 (Mv.ext0 e57)
              have hl7 : SlR .bool h7 (ruQ O rb vs5 vb L2) _ out.1.last := SlR.mv hl5 (Mv.ext0 e57)
              refine RW.done rfl ?_
              refine G.sub (ρ' := [(0, _), (2, _), (4, _), (6, _), (7, _), (16, _), (20, _), (138, _), (166, _)]) ⟨rfl, rfl, rfl, rfl, rfl, rfl, rfl, rfl, rfl, trivial⟩ ?_
              refine G.seq rfl ?_
              refine G.reg Tryd.func63 rfl ?_
              refine RW.pureS rfl rfl rfl rfl (OpP.fieldAddr (off := 1) Tryd.underlying124 rfl rfl H.sz55 rfl) ?_
              refine RW.pureS rfl rfl rfl rfl (OpP.load H.ag55 rfl (k15.cell (i := 1) rfl)) ?_
              refine RW.pureS rfl rfl rfl rfl (OpP.fieldAddr (off := 2) Tryd.underlying124 rfl rfl H.sz55 rfl) ?_
              refine RW.pureS rfl rfl rfl rfl (OpP.load H.ag55 rfl (k15.cell (i := 2) rfl)) ?_
              refine RW.pureS rfl rfl rfl rfl (OpP.build (H.bd124_0_1_2 _ _ _ _ _ _ _) rfl) ?_
              refine RW.op0 rfl rfl rfl (OpX.storeBlk H.sz124 rfl rfl q6 rfl (by first | decide | exact of_decide_eq_true rfl | (simp; done) | (simp; omega)) (by first | decide | simp [Value.oneCell'])) ?_
              rintro _ h9 ⟨rfl, hk9, hx9, hz9⟩
              refine RW.done rfl ?_
              refine G.sub (ρ' := [(0, _), (2, _), (4, _), (6, _), (7, _), (16, _), (20, _), (138, _), (166, _)]) ⟨rfl, rfl, rfl, rfl, rfl, rfl, rfl, rfl, rfl, trivial⟩ ?_
              have hk9 : Blk h9 h1.size 124 [.bool true, .slice fa fn fc, .slice la ln lc] := hk9
              refine G.retC Tryd.func63 rfl (.cons (ResOk.rowN H.ag124 H.sz124 rfl (hk9.row) (by first | rfl | simp)) (.nil)) ?_
              have R9 := R7.put hx9 hLp
              exact ⟨_, rfl, R9.fin (p := ⟨true, out.1.first, out.1.last⟩) (hf7.mv (R7.putQ hx9 hLp)) (hl7.mv (R7.putQ hx9 hLp))⟩
            · have h6k' : ¬ k = 6 := kkR h6k
              have hglu : glu n (.mk k s kids) st = (⟨true, nob n, nob n⟩, st) := by rw [glu]; simp [h1k', h2k', h3k', hk45, h6k']
              rw [hglu]
              refine G.skip rfl ?_
              refine G.blkEnd ?_
              refine G.seq rfl ?_
              refine G.reg Tryd.func63 rfl ?_
              refine RW.pureS rfl rfl rfl rfl (OpP.move rfl) ?_
              refine RW.pureS rfl rfl rfl rfl (OpP.move rfl) ?_
              refine RW.pureS rfl rfl rfl rfl (OpP.build (H.bd124_0_1_2 _ _ _ _ _ _ _) rfl) ?_
              refine RW.op0 rfl rfl rfl (OpX.storeBlk H.sz124 rfl rfl q6 rfl (by first | decide | exact of_decide_eq_true rfl | (simp; done) | (simp; omega)) (by first | decide | simp [Value.oneCell'])) ?_
              rintro _ h9 ⟨rfl, hk9, hx9, hz9⟩
              refine RW.done rfl ?_
              refine G.sub (ρ' := [(0, _), (2, _), (4, _), (6, _), (7, _), (20, _), (138, _), (166, _)]) ⟨rfl, rfl, rfl, rfl, rfl, rfl, rfl, rfl, trivial⟩ ?_
              have hk9 : Blk h9 h1.size 124 [.bool true, .slice (some ⟨h2.size, 0, none⟩) n n, .slice (some ⟨h2.size, 0, none⟩) n n] := hk9
              refine G.retC Tryd.func63 rfl (.cons (ResOk.rowN H.ag124 H.sz124 rfl (hk9.row) (by first | rfl | simp)) (.nil)) ?_
              have R9 := R3.put hx9 hLp
              have hnb : SlR .bool h3' (ruQ O rb vs vb L2) (.slice (some ⟨h2.size, 0, none⟩) n n) (nob n) := OwE.read (h1 := fun _ => rfl) q7 (fun b hb k => by
                rcases k with k | k | k
                · have := hltM b k; omega
                · have := hO b k; omega
                · rw [← hLe] at k; rcases k with k | k <;> omega)
              exact ⟨_, rfl, R9.fin (p := ⟨true, nob n, nob n⟩) (hnb.mv (R3.putQ hx9 hLp)) (hnb.mv (R3.putQ hx9 hLp))⟩
        refine G.ite rfl rfl (fun h4k => ?_) (fun h4k => ?_)
        · have h4k' : k = 4 := by omega
          refine G.skip rfl ?_
          exact st45 (decide ((k : Int) = 4)) _ _ ⟨rfl, rfl, rfl, rfl, rfl, rfl, rfl, trivial⟩ rfl (by simp [h4k'])
        · have h4k' : ¬ k = 4 := kkR h4k
          refine G.reg Tryd.func63 rfl ?_
          refine RW.pureS rfl rfl rfl rfl (OpP.eqlInt rfl rfl) ?_
          refine RW.pureS rfl rfl rfl rfl (OpP.assign rfl) ?_
          refine RW.done rfl ?_
          refine G.sub (ρ' := [(0, _), (1, _), (2, _), (4, _), (6, _), (7, _), (20, _), (21, _), (47, _), (100, _), (138, _)]) ⟨rfl, rfl, rfl, rfl, rfl, rfl, rfl, rfl, rfl, rfl, rfl, trivial⟩ ?_
          exact st45 (decide ((k : Int) = 5)) _ _ ⟨rfl, rfl, rfl, rfl, rfl, rfl, rfl, trivial⟩ rfl (by simp only [decide_eq_decide]; omega)

theorem layR_ok : ∀ m, LayROk m := by
  intro m
  induction m with
  | zero => intro x h O rb vs vb vl w st n hsz; have := szN_pos x; omega
  | succ m ih => exact layR_kind ih

end Go.Proofs.YtlegopbpofofgaaDoor

/- The rule of a node. -/
namespace Go.Proofs.YtlegopbpofofgaaDoor
open Go Go.Lw
set_option maxRecDepth 20000

def eSet : Elt Nat := .record 4 (by decide) encSet (fun _ => rfl) (fun x v hv => by simp [encSet] at hv; rcases hv with rfl | rfl | rfl | rfl <;> rfl)

/-- A rule that is made: it is read alone. -/
def RuRd (h : Heap) (O : Nat → Prop) (rb : Nat) (r : RuP) : Prop :=
  ∃ vs vb vl, ¬ O rb ∧ Blk h rb 57 [vs, vb, vl] ∧ SlR eSet h O vs r.sets ∧ SlR eRow h O vb r.behind ∧ SlR .bool h O vl r.last
theorem RuRd.mv {h h' : Heap} {O O' : Nat → Prop} {rb : Nat} {r : RuP} (k : RuRd h O rb r) (m : Mv O O' h h') : RuRd h' O' rb r := by
  obtain ⟨vs, vb, vl, ho, hk, h1, h2, h3⟩ := k
  have hm := m.block rb hk.lt ho
  exact ⟨vs, vb, vl, hm.2, hm.1.trans hk, h1.mv m, h2.mv m, h3.mv m⟩

theorem of_calls {h : Heap} {O : Nat → Prop} {x : Nd} {w : Value} (hx : NdAt h O (ndC x.kind x.set w) x) (hw : wfN x = true) (hsz : szN x ≤ 500000) :
    CallsH Tryd.prog 43 #[.agg (ndC x.kind x.set w).toArray] h (Ret fun r h' => ∃ rb, r = .pointer (some ⟨rb, 0, none⟩) ∧ RuRd h' (fun b => b < h.size) rb (ofP x) ∧ Ext0 h h') := by
  have hcs := cnt_sz x
  have hx := hx.mv (O' := fun b => O b ∨ h.size ≤ b) ⟨Nat.le_refl _, fun b hb hn => ⟨rfl, fun k => k.elim hn (fun k => by omega)⟩⟩
  refine CallsH.of Tryd.func43 rfl rfl ?_
  refine G.seq rfl ?_
  refine G.reg Tryd.func43 rfl ?_
  refine RW.opS rfl rfl rfl rfl (OpX.boxN rfl) ?_
  rintro _ h1 ⟨rfl, k1, e1, z1⟩
  have k1 : Blk h1 h.size 94 (ndC x.kind x.set w) := k1
  refine RW.pureS rfl rfl rfl rfl (OpP.assign rfl) ?_
  refine RW.done rfl ?_
  refine G.sub (ρ' := [(0, _), (1, _), (2, _)]) ⟨rfl, rfl, rfl, trivial⟩ ?_
  refine G.seq rfl ?_
  refine G.reg Tryd.func43 rfl ?_
  refine RW.pureS rfl rfl rfl rfl (OpP.loadRowN H.ag94 H.sz94 rfl k1.row (by first | rfl | simp)) ?_
  refine RW.opS rfl rfl rfl rfl (OpX.call (vs := [_]) Tryd.func62 rfl H.nm62 rfl (CallsH.toX (count_ok _ (x := x) (Nat.le_refl _) (by omega) (hx.ext0 e1)))) ?_
  rintro _ h2 ⟨rfl, e2⟩
  refine RW.pureS rfl rfl rfl rfl (OpP.add64 rfl rfl ⟨by omega, by omega⟩) ?_
  refine RW.pureS rfl rfl rfl rfl (OpP.assign rfl) ?_
  refine RW.done rfl ?_
  refine G.sub (ρ' := [(0, _), (1, _), (2, _), (3, _)]) ⟨rfl, rfl, rfl, rfl, trivial⟩ ?_
  refine G.seq rfl ?_
  refine G.reg Tryd.func43 rfl ?_
  refine RW.pureS rfl rfl rfl rfl (OpP.build (H.bd60_ ) rfl) ?_
  refine RW.opS rfl rfl rfl rfl (OpX.buildRec (cs := [_, _, _, _]) Tryd.underlying53 H.el60 rfl rfl (by decide)) ?_
  rintro _ _ ⟨rfl, rfl⟩
  refine RW.pureS rfl rfl rfl rfl (OpP.build (H.bd57_0 _ _ _) rfl) ?_
  refine RW.opS rfl rfl rfl rfl (OpX.boxN rfl) ?_
  rintro _ h4 ⟨rfl, k4, e4, z4⟩
  have q3 : OwR 4 encSet (h2.push (.cells #[.int .u64 0, .int .u64 0, .int .u64 0, .int .u64 0] 60)) 0 60 (.slice (some ⟨h2.size, 0, none⟩) 1 1) [0] := OwR.made1 (fun _ => rfl) h2 0 60 0 (Nat.zero_le _) (cs := [.int .u64 0, .int .u64 0, .int .u64 0, .int .u64 0]) (by simp [encSet, encW0])
  have e3 : Ext0 h2 (h2.push (.cells #[.int .u64 0, .int .u64 0, .int .u64 0, .int .u64 0] 60)) := Ext.push _ _ _
  have z3 : (h2.push (.cells #[.int .u64 0, .int .u64 0, .int .u64 0, .int .u64 0] 60)).size = h2.size + 1 := by simp
  generalize h2.push (.cells #[.int .u64 0, .int .u64 0, .int .u64 0, .int .u64 0] 60) = h3 at *
  have k4 : Blk h4 h3.size 57 [.slice (some ⟨h2.size, 0, none⟩) 1 1, .slice none 0 0, .slice none 0 0] := k4
  have hz2 := e2.size
  have e04 : Ext0 h h4 := ((e1.trans e2).trans e3).trans e4
  have a4 : RuAt h4 (fun b => b < h.size) h3.size (.slice (some ⟨h2.size, 0, none⟩) 1 1) (.slice none 0 0) (.slice none 0 0) ([0], []) :=
    ⟨k4, OwR.ext0 q3 e4, OwX.nil _ _ _ _ _, fun b _ hb => (by cases hb), fun hb => (by simp [Value.ownBlock] at hb; omega), fun hb => (by cases hb)⟩
  have k1 := ((k1.ext0 e2).ext0 e3).ext0 e4
  have hn : cnt x + 1 ≤ 1000000 := by omega
  generalize hnn : cnt x + 1 = n at *
  have hnn' : ((cnt x : Nat) : Int) + 1 = (n : Nat) := by omega
  rw [hnn']
  refine RW.pureS rfl rfl rfl rfl (OpP.assign rfl) ?_
  refine RW.done rfl ?_
  refine G.sub (ρ' := [(0, _), (1, _), (2, _), (3, _), (4, _)]) ⟨rfl, rfl, rfl, rfl, rfl, trivial⟩ ?_
  refine G.seq rfl ?_
  refine G.seq rfl ?_
  refine G.reg Tryd.func43 rfl ?_
  refine RW.pureS rfl rfl rfl rfl (OpP.assign rfl) ?_
  refine RW.done rfl ?_
  refine G.sub (ρ' := [(0, _), (1, _), (2, _), (3, _), (4, _), (5, _)]) ⟨rfl, rfl, rfl, rfl, rfl, rfl, trivial⟩ ?_
  refine G.block rfl rfl ?_
  refine G.loop (σ := Nat × Option Addr × Nat) (fun q => [(3, .int .i64 (n : Nat)), (4, .pointer (some ⟨h3.size, 0, none⟩)), (5, .int .i64 (q.1 : Nat)), (1, .pointer (some ⟨h.size, 0, none⟩))]) (fun q h' => q.1 ≤ n ∧ RuAt h' (fun b => b < h.size) h3.size (.slice (some ⟨h2.size, 0, none⟩) 1 1) (.slice q.2.1 q.1 q.2.2) (.slice none 0 0) ([0], List.replicate q.1 (nob n)) ∧ Ext0 h h' ∧ Blk h' h.size 94 (ndC x.kind x.set w) ∧ h4.size ≤ h'.size ∧ (∀ b, (Value.slice q.2.1 q.1 q.2.2).ownBlock = some b → h4.size ≤ b)) (fun q => n - q.1) ((0, none, 0)) rfl ⟨rfl, rfl, rfl, rfl, trivial⟩ ⟨Nat.zero_le _, a4, e04, k1, Nat.le_refl _, fun b hb => (by cases hb)⟩ ?_
  rintro ⟨i, ba, bc⟩ g ⟨hi, ag, eg, kg, hgz, hvn⟩ ih
  try dsimp only
  dsimp only at hi ag hvn
  have hown := ag.ownB
  refine G.seq rfl ?_
  refine G.seq rfl ?_
  refine G.reg Tryd.func43 rfl ?_
  refine RW.pureS rfl rfl rfl rfl (OpP.move rfl) ?_
  refine RW.pureS rfl rfl rfl rfl (OpP.move rfl) ?_
  refine RW.pureS rfl rfl rfl rfl (OpP.lss rfl rfl) ?_
  refine RW.done rfl ?_
  refine G.sub (ρ' := [(1, _), (3, _), (4, _), (5, _), (16, _)]) ⟨rfl, rfl, rfl, rfl, rfl, trivial⟩ ?_
  refine G.ite rfl rfl (fun hlt => ?_) (fun hlt => ?_)
  · have hin : i < n := by omega
    obtain ⟨css, hc1, hc2, hc3⟩ := id ag.rows
    simp only [List.length_replicate] at hc1 hc2
    have hrM1 : ¬ (but (Value.slice ba i bc).ownBlock h3.size ∨ Array.size g ≤ h3.size) := by
      rintro (k | k)
      · exact (hown _ k.symm).1 rfl
      · have := ag.blk.lt; omega
    have hlto : ∀ b, (but (Value.slice ba i bc).ownBlock b ∨ b = h3.size ∨ but (Value.slice (some ⟨h2.size, 0, none⟩) 1 1).ownBlock b ∨ b < h.size) → b < g.size := by
      rintro b (k | k | k | k)
      · exact (hown b k.symm).2
      · have := ag.blk.lt; omega
      · exact (ag.ownS b k.symm).2
      · have := eg.size; omega
    refine G.skip rfl ?_
    refine G.seq rfl ?_
    refine G.block rfl rfl ?_
    refine G.draw (fun b => but (Value.slice ba i bc).ownBlock b ∨ Array.size g ≤ b) (fun i => Nat.blt i 11) (sz := 12) (listed := #[false, false, false, false, false, false, false, false, false, false, false, false]) Tryd.func43 H.mixed rfl rfl rfl ?_
    refine RD.takeS 0 (listed' := #[true, false, false, false, false, false, false, false, false, false, false, false]) rfl (by kernel_rfl) (by kernel_rfl) (by kernel_rfl) rfl rfl rfl (fun h' e => OpP.move rfl) rfl ?_
    refine RD.takeS 1 (listed' := #[true, true, false, false, false, false, false, false, false, false, false, false]) rfl (by kernel_rfl) (by kernel_rfl) (by kernel_rfl) rfl rfl rfl (fun h' e => OpP.move rfl) rfl ?_
    refine RD.takeS 2 (listed' := #[true, true, true, false, false, false, false, false, false, false, false, false]) rfl (by kernel_rfl) (by kernel_rfl) (by kernel_rfl) rfl rfl rfl (fun h' e => OpP.nilCheck rfl) rfl ?_
    refine RD.takeS 3 (listed' := #[true, true, true, true, false, false, false, false, false, false, false, false]) rfl (by kernel_rfl) (by kernel_rfl) (by kernel_rfl) rfl rfl rfl (fun h' e => OpP.fieldAddr (off := 1) Tryd.underlying57 rfl rfl H.sz54 rfl) rfl ?_
    refine RD.takeS 4 (listed' := #[true, true, true, true, true, false, false, false, false, false, false, false]) rfl (by kernel_rfl) (by kernel_rfl) (by kernel_rfl) rfl rfl rfl (fun h' e => OpP.load H.ag54 rfl (e.cell hrM1 (ag.blk.cell (i := 1) rfl))) rfl ?_
    refine RD.takeS 5 (listed' := #[true, true, true, true, true, true, false, false, false, false, false, false]) rfl (by kernel_rfl) (by kernel_rfl) (by kernel_rfl) rfl rfl rfl (fun h' e => OpP.move rfl) rfl ?_
    refine RD.oneS 6 (listed' := #[true, true, true, true, true, true, true, false, false, false, false, false]) rfl (by kernel_rfl) rfl rfl rfl (OpX.makeOnes Tryd.underlying55 H.el4 H.zr4 rfl rfl rfl (by omega) (by decide)) rfl ?_
    rintro _ g5 ⟨rfl, k5, e5⟩
    refine ⟨fun _ => e5.mono (fun _ _ k => k.elim), ?_⟩
    have k5 : OwE Value.bool g5 g.size 4 (.slice (some ⟨g.size, 0, none⟩) n n) (nob n) := by unfold OwE nob; simpa using k5
    have z5 := e5.size
    have hc2' : OwnH g5 0 55 1 (.slice ba i bc) i css.flatten := OwnH.ext0' hc2 e5
    refine RD.oneS 7 (listed' := #[true, true, true, true, true, true, true, true, false, false, false, false]) rfl (by kernel_rfl) rfl rfl rfl (OpX.buildOnes (us := [_]) Tryd.underlying54 H.el55 rfl rfl (by decide) (by simp [Value.oneCell'])) rfl ?_
    rintro _ _ ⟨rfl, rfl⟩
    refine ⟨fun _ => by first | exact Ext.push _ _ _ | assumption, ?_⟩
    refine RD.oneS 8 (listed' := #[true, true, true, true, true, true, true, true, true, false, false, false]) rfl (by kernel_rfl) rfl rfl rfl (OpX.appendNew Tryd.underlying54 H.el55 rfl rfl (hc2') rfl rfl (by first | decide | simp [Value.oneCell']) (by omega) (by decide) (by omega)) rfl ?_
    rintro v2 g6 ⟨ho6, hx6, hx6', hv6⟩
    refine ⟨fun _ => hx6'.mono (fun _ _ k => .inl k), ?_⟩
    obtain ⟨oa2, c2, rfl, _⟩ := ho6.open
    have hrow6 : OwX eRow (fun b => b = h3.size ∨ but (Value.slice (some ⟨h2.size, 0, none⟩) 1 1).ownBlock b ∨ b < h.size) g6 0 55 (.slice oa2 (i + 1) c2) (List.replicate i (nob n) ++ [nob n]) :=
      OwX.pushed (e := eRow) (h := g5) (v := .slice ba i bc) (css := css) (cs := [.slice (some ⟨g.size, 0, none⟩) n n]) (by simpa using hc1) (fun j cs y a b => eRow.mv (hc3 j cs y a b) (Mv.ext0 e5)) (by rw [List.length_replicate]; exact ho6) hx6 hv6
        ⟨_, rfl, OwE.read (h1 := fun _ => rfl) k5 (fun b hb k => by have := hlto b k; omega)⟩
    rw [← List.replicate_succ'] at hrow6
    have z6 := hx6.size
    refine RD.oneS 9 (listed' := #[true, true, true, true, true, true, true, true, true, true, false, false]) rfl (by kernel_rfl) rfl rfl rfl (OpP.toX (OpP.nilCheck rfl)) rfl ?_
    rintro _ hq_ ⟨rfl, hqe_⟩
    replace hqe_ := hqe_.symm
    subst hqe_
    refine ⟨fun _ => Ext.refl _ _, ?_⟩
    refine RD.takeS 10 (listed' := #[true, true, true, true, true, true, true, true, true, true, true, false]) rfl (by kernel_rfl) (by kernel_rfl) (by kernel_rfl) rfl rfl rfl (fun h' e => OpP.fieldAddr (off := 1) Tryd.underlying57 rfl rfl H.sz54 rfl) rfl ?_
    refine RD.one0 11 (listed' := #[true, true, true, true, true, true, true, true, true, true, true, true]) rfl (by kernel_rfl) rfl rfl (OpX.storeOne H.sz54 rfl rfl ((ag.blk.ext0 e5).ext hx6 (fun k => (hown _ k.symm).1 rfl)) (by first | decide | exact of_decide_eq_true rfl | (simp; done) | (simp; omega)) rfl) rfl ?_
    rintro _ g7 ⟨rfl, k7, x7, z7⟩
    refine ⟨fun hk => (nomatch hk), ?_⟩
    have k7 : Blk g7 h3.size 57 [.slice (some ⟨h2.size, 0, none⟩) 1 1, .slice oa2 (i + 1) c2, .slice none 0 0] := k7
    have a7 : RuAt g7 (fun b => b < h.size) h3.size (.slice (some ⟨h2.size, 0, none⟩) 1 1) (.slice oa2 (i + 1) c2) (.slice none 0 0) ([0], List.replicate (i + 1) (nob n)) :=
      ⟨k7, OwnH.ext x7 (OwnH.ext hx6 (OwnH.ext0' ag.sets e5) (fun b hb k => ag.apart b hb k.symm)) (fun b hb (e : b = h3.size) => (ag.ownS b hb).1 e), hrow6.mv2 x7 (fun b hb (e : b = h3.size) => by
        rcases hv6 b hb with k | k
        · exact (hown b k).1 e
        · omega) (fun b _ k => .inl k) (fun b _ k => k), fun b hb hb2 => by
        have hbs := (ag.ownS b hb).2
        rcases hv6 b hb2 with k | k
        · exact ag.apart b hb k
        · omega, ag.ns, fun hb => by
        have := ag.blk.lt
        rcases hv6 _ hb with k | k
        · exact (hown _ k).1 rfl
        · omega⟩
    have e07 : Ext0 h g7 := ⟨by have := eg.size; omega, fun b hb k => by
      rw [x7.block b (by have := eg.size; omega) (by show ¬ _ = _; omega), hx6.block b (by have := eg.size; omega) (fun k2 => by have := hvn b k2.symm; omega), e5.block b (by have := eg.size; omega) (fun k => k)]
      exact eg.block b hb k⟩
    refine RD.done (by kernel_rfl) ?_
    refine G.sub (ρ' := [(1, _), (3, _), (4, _), (5, _), (16, _)]) ⟨rfl, rfl, rfl, rfl, rfl, trivial⟩ ?_
    refine G.blkEnd ?_
    refine G.reg Tryd.func43 rfl ?_
    refine RW.pureS rfl rfl rfl rfl (OpP.move rfl) ?_
    refine RW.pureS rfl rfl rfl rfl (OpP.add64 rfl rfl ⟨by omega, by omega⟩) ?_
    refine RW.pureS rfl rfl rfl rfl (OpP.assign rfl) ?_
    refine RW.done rfl ?_
    refine G.sub (ρ' := [(1, _), (3, _), (4, _), (5, _), (16, _)]) ⟨rfl, rfl, rfl, rfl, rfl, trivial⟩ ?_
    exact ih (i + 1, oa2, c2) _ _ ⟨rfl, rfl, rfl, rfl, trivial⟩ ⟨hin, a7, e07, ((kg.ext0 e5).ext hx6 (fun k2 => by have := hvn _ k2.symm; omega)).ext x7 (by show ¬ _ = _; omega), by omega, fun b hb => by
      rcases hv6 b hb with k | k
      · exact hvn b k
      · omega⟩ (by show n - (i + 1) < n - i; omega)
  · obtain rfl : i = n := by omega
    have hruok : RuOk i ([0], List.replicate i (nob i)) := ⟨by simp, fun b hb => by rw [(List.mem_replicate.1 hb).2]; exact nob_len _⟩
    have hvs : ∀ b, (Value.slice (some ⟨h2.size, 0, none⟩) 1 1).ownBlock = some b → b = h2.size := fun b hb => by simp [Value.ownBlock] at hb; omega
    have hnd : NdAt g (ruM h3.size (.slice (some ⟨h2.size, 0, none⟩) 1 1) (.slice ba i bc)) (ndC x.kind x.set w) x := hx.mv ⟨eg.size, fun b hb hn => ⟨eg.block b hb (fun k => k), by
      rintro (k | k | k)
      · omega
      · have := hvs b k.symm; omega
      · have := hvn b k.symm; omega⟩⟩
    refine G.exit rfl rfl ?_
    refine G.seq rfl ?_
    refine G.reg Tryd.func43 rfl ?_
    refine RW.pureS rfl rfl rfl rfl (OpP.move rfl) ?_
    refine RW.pureS rfl rfl rfl rfl (OpP.loadRowN H.ag94 H.sz94 rfl kg.row (by first | rfl | simp)) ?_
    refine RW.pureS rfl rfl rfl rfl (OpP.move rfl) ?_
    refine RW.opS rfl rfl rfl rfl (OpX.call (vs := [_, _, _]) Tryd.func63 rfl H.nm63 rfl (CallsH.toX (layR_ok (szN x) (x := x) (st := ([0], List.replicate i (nob i))) (n := i) (Nat.le_refl _) ag (fun b k => by have := eg.size; omega) hnd hw hruok (by show 1 + cnt x ≤ i; omega) hn))) ?_
    rintro _ g8 ⟨vs8, f8, l8, rfl, a8, hf8, hl8, e8, ho8⟩
    refine RW.opS rfl rfl rfl rfl (OpX.allocN H.zr124) ?_
    rintro _ g9 ⟨rfl, k6, e9, z9⟩
    have hglu := glu_ok i x ([0], List.replicate i (nob i)) hruok
    have hofe : ofP x = ⟨(glu i x ([0], List.replicate i (nob i))).2.1, (glu i x ([0], List.replicate i (nob i))).2.2.set 0 (glu i x ([0], List.replicate i (nob i))).1.first, (glu i x ([0], List.replicate i (nob i))).1.last.set 0 (glu i x ([0], List.replicate i (nob i))).1.null⟩ := by subst hnn; rfl
    rw [hofe]
    generalize glu i x ([0], List.replicate i (nob i)) = out at *
    obtain ⟨fa, fn, fc, rfl⟩ : ∃ oa n c, f8 = .slice oa n c := by obtain ⟨oa, n, c, rfl, _⟩ := hf8; exact ⟨_, _, _, rfl⟩
    obtain ⟨la, ln, lc, rfl⟩ : ∃ oa n c, l8 = .slice oa n c := by obtain ⟨oa, n, c, rfl, _⟩ := hl8; exact ⟨_, _, _, rfl⟩
    refine RW.op0 rfl rfl rfl (OpX.storeBlk H.sz124 rfl rfl k6 rfl (by first | decide | exact of_decide_eq_true rfl | (simp; done) | (simp; omega)) (by first | decide | simp [Value.oneCell'])) ?_
    rintro _ g10 ⟨rfl, k6, x10, z10⟩
    have k6 : Blk g10 g8.size 124 [.bool out.1.null, .slice fa fn fc, .slice la ln lc] := k6
    have e810 : Ext0 g8 g10 := Ext0.only e9 x10 (Nat.le_refl _)
    have a10 := a8.ext0 (O' := fun b => b < h.size) e810 (fun _ _ k => k)
    have hf10 := SlR.mv hf8 (Mv.ext0 e810)
    have hl10 := SlR.mv hl8 (Mv.ext0 e810)
    obtain ⟨row0, hrow0⟩ : ∃ r, out.2.2[0]? = some r := ⟨_, List.getElem?_eq_getElem (by have := hglu.2.1.rows; omega)⟩
    obtain ⟨gb, bc2, cs0, hvb, _, hgb2, hra, hfz, ⟨w0, rfl, _⟩, hput⟩ := a10.rows.put hrow0
    have hlen2 : out.2.2.length = i := hglu.2.1.rows
    rw [hlen2] at hvb
    cases hvb
    have z8 := e8.size
    have z810 := e810.size
    have hgz8 : h4.size ≤ g8.size := by omega
    have hvn' : h4.size ≤ gb := hvn gb rfl
    refine RW.done rfl ?_
    refine G.sub (ρ' := [(1, _), (3, _), (4, _), (5, _), (6, _), (16, _)]) ⟨rfl, rfl, rfl, rfl, rfl, rfl, trivial⟩ ?_
    refine G.seq rfl ?_
    refine G.draw (fun b => Array.size g10 ≤ b) (fun i => Nat.blt i 7) (sz := 8) (listed := #[false, false, false, false, false, false, false, false]) Tryd.func43 H.mixed rfl rfl rfl ?_
    refine RD.takeS 0 (listed' := #[true, false, false, false, false, false, false, false]) rfl (by kernel_rfl) (by kernel_rfl) (by kernel_rfl) rfl rfl rfl (fun h' e => OpP.move rfl) rfl ?_
    refine RD.takeS 1 (listed' := #[true, true, false, false, false, false, false, false]) rfl (by kernel_rfl) (by kernel_rfl) (by kernel_rfl) rfl rfl rfl (fun h' e => OpP.nilCheck rfl) rfl ?_
    refine RD.takeS 2 (listed' := #[true, true, true, false, false, false, false, false]) rfl (by kernel_rfl) (by kernel_rfl) (by kernel_rfl) rfl rfl rfl (fun h' e => OpP.fieldAddr (off := 1) Tryd.underlying57 rfl rfl H.sz54 rfl) rfl ?_
    refine RD.takeS 3 (listed' := #[true, true, true, true, false, false, false, false]) rfl (by kernel_rfl) (by kernel_rfl) (by kernel_rfl) rfl rfl rfl (fun h' e => OpP.load H.ag54 rfl (e.old (a10.blk.cell (i := 1) rfl))) rfl ?_
    refine RD.takeS 4 (listed' := #[true, true, true, true, true, false, false, false]) rfl (by kernel_rfl) (by kernel_rfl) (by kernel_rfl) rfl rfl rfl (fun h' e => OpP.fieldAddr (off := 1) Tryd.underlying124 rfl rfl H.sz55 rfl) rfl ?_
    refine RD.takeS 5 (listed' := #[true, true, true, true, true, true, false, false]) rfl (by kernel_rfl) (by kernel_rfl) (by kernel_rfl) rfl rfl rfl (fun h' e => OpP.load H.ag55 rfl (e.old (k6.cell (i := 1) rfl))) rfl ?_
    refine RD.takeS 6 (listed' := #[true, true, true, true, true, true, true, false]) rfl (by kernel_rfl) (by kernel_rfl) (by kernel_rfl) rfl rfl rfl (fun h' e => OpP.indexSlice Tryd.underlying54 H.sz55 rfl rfl 0 rfl rfl (by omega)) rfl ?_
    refine RD.one0 7 (listed' := #[true, true, true, true, true, true, true, true]) rfl (by kernel_rfl) rfl rfl (OpX.store H.sz55 rfl rfl rfl (hra 0 _ rfl) (hfz _)) rfl ?_
    rintro _ g11 ⟨rfl, hg11⟩
    refine ⟨fun hk => (nomatch hk), ?_⟩
    have hput := hput 0 (.slice fa fn fc) out.1.first (by decide) ⟨_, rfl, SlR.less hf10 (fun b k => by
      rcases k with k | k | k | k
      · exact .inl (.inr (.inr k))
      · exact .inl (.inl k)
      · exact .inl (.inr (.inl k))
      · exact .inr k)⟩
    have hput : OwX eRow (fun b => b = h3.size ∨ but vs8.ownBlock b ∨ b < h.size) g11 0 55 (.slice (some ⟨gb, 0, none⟩) i bc) (out.2.2.set 0 out.1.first) := by rw [hg11]; exact hput
    have x11 : Ext (fun b => b = gb) g10 g11 := by rw [hg11]; exact Ext.setC _ _ _ rfl
    have hgs : vs8.ownBlock ≠ some gb := fun e => a10.apart gb e rfl
    have hgr : gb ≠ h3.size := fun e => a10.nb (by subst e; rfl)
    have a11 : RuAt g11 (fun b => b < h.size) h3.size vs8 (.slice (some ⟨gb, 0, none⟩) i bc) (.slice none 0 0) (out.2.1, out.2.2.set 0 out.1.first) :=
      ⟨a10.blk.ext x11 (by show ¬ _ = _; omega), OwnH.ext x11 a10.sets (fun b hb e => hgs (by subst e; exact hb)), hput, a10.apart, a10.ns, a10.nb⟩
    have z11 := x11.size
    have hn6 : ¬ g8.size = gb := by have := (a8.ownB gb rfl).2; omega
    have k6 := k6.ext x11 hn6
    have hl11 := SlR.less (Q' := fun b => b = gb) hl10 (fun b k => .inl (.inr (.inr (by subst k; rfl))))
    have hl11 := hl11.mv (Mv.ofExt x11 (O' := fun b => b = gb) (fun b _ k => ⟨k, k⟩))
    obtain ⟨hll, hlrow, hlm⟩ := SlR.row hl11
    have hllen := hglu.1.last
    have hone : ∀ u ∈ out.1.last.map Value.bool, u.oneCell' = true := fun u hu => by simp at hu; rcases hu with ⟨_, rfl⟩ | ⟨_, rfl⟩ <;> rfl
    refine RD.done (by kernel_rfl) ?_
    refine G.sub (ρ' := [(1, _), (3, _), (4, _), (5, _), (6, _), (16, _)]) ⟨rfl, rfl, rfl, rfl, rfl, rfl, trivial⟩ ?_
    refine G.seq rfl ?_
    refine G.reg Tryd.func43 rfl ?_
    refine RW.pureS rfl rfl rfl rfl (OpP.move rfl) ?_
    refine RW.pureS rfl rfl rfl rfl (OpP.fieldAddr (off := 2) Tryd.underlying124 rfl rfl H.sz55 rfl) ?_
    refine RW.pureS rfl rfl rfl rfl (OpP.load H.ag55 rfl (k6.cell (i := 2) rfl)) ?_
    refine RW.opS rfl rfl rfl rfl (OpX.append Tryd.underlying55 H.el4 rfl rfl (OwnH.nil g11 g11.size 4 1) (by simp [hll]) hlrow hone (by simp only [maxLen]; omega) (by omega) (by omega)) ?_
    rintro wl g12 ⟨ho12, hx12, -, hv12⟩
    have ho12' : OwnH g12 g11.size 4 1 wl ln (out.1.last.map Value.bool) := by simpa using ho12
    have e12 : Ext0 g11 g12 := ext_but_none hx12
    obtain ⟨oal, cl, rfl, _⟩ := ho12'.open
    have z12 := e12.size
    refine RW.pureS rfl rfl rfl rfl (OpP.nilCheck rfl) ?_
    refine RW.pureS rfl rfl rfl rfl (OpP.fieldAddr (off := 2) Tryd.underlying57 rfl rfl H.sz55 rfl) ?_
    refine RW.op0 rfl rfl rfl (OpX.storeOne H.sz55 rfl rfl (a11.blk.ext0 e12) (by first | decide | exact of_decide_eq_true rfl | (simp; done) | (simp; omega)) rfl) ?_
    rintro _ g13 ⟨rfl, k13, x13, z13⟩
    have k13 : Blk g13 h3.size 57 [vs8, .slice (some ⟨gb, 0, none⟩) i bc, .slice oal ln cl] := k13
    have hr11 := a11.blk.lt
    have hol : OwE Value.bool g13 g11.size 4 (.slice oal ln cl) out.1.last := by
      unfold OwE
      rw [hll]
      exact OwnH.ext x13 ho12' (fun b hb (e : b = h3.size) => by have := (OwnH.lt ho12' hb).1; omega)
    obtain ⟨l0, hl0⟩ : ∃ y, out.1.last[0]? = some y := ⟨_, List.getElem?_eq_getElem (by omega)⟩
    obtain ⟨gl, cl', hvl, hgl1, hgl2, hlc, hlf, hlset⟩ := hol.at hl0
    rw [hll] at hvl
    cases hvl
    have hlset := hlset out.1.null
    have hn63 : ¬ g8.size = h3.size := by have := a8.blk.lt; omega
    have k6 := (k6.ext0 e12).ext x13 hn63
    refine RW.done rfl ?_
    refine G.sub (ρ' := [(1, _), (3, _), (4, _), (5, _), (6, _), (16, _)]) ⟨rfl, rfl, rfl, rfl, rfl, rfl, trivial⟩ ?_
    refine G.seq rfl ?_
    refine G.draw (fun b => Array.size g13 ≤ b) (fun i => Nat.blt i 7) (sz := 8) (listed := #[false, false, false, false, false, false, false, false]) Tryd.func43 H.mixed rfl rfl rfl ?_
    refine RD.takeS 0 (listed' := #[true, false, false, false, false, false, false, false]) rfl (by kernel_rfl) (by kernel_rfl) (by kernel_rfl) rfl rfl rfl (fun h' e => OpP.move rfl) rfl ?_
    refine RD.takeS 1 (listed' := #[true, true, false, false, false, false, false, false]) rfl (by kernel_rfl) (by kernel_rfl) (by kernel_rfl) rfl rfl rfl (fun h' e => OpP.nilCheck rfl) rfl ?_
    refine RD.takeS 2 (listed' := #[true, true, true, false, false, false, false, false]) rfl (by kernel_rfl) (by kernel_rfl) (by kernel_rfl) rfl rfl rfl (fun h' e => OpP.fieldAddr (off := 2) Tryd.underlying57 rfl rfl H.sz55 rfl) rfl ?_
    refine RD.takeS 3 (listed' := #[true, true, true, true, false, false, false, false]) rfl (by kernel_rfl) (by kernel_rfl) (by kernel_rfl) rfl rfl rfl (fun h' e => OpP.load H.ag55 rfl (e.old (k13.cell (i := 2) rfl))) rfl ?_
    refine RD.takeS 4 (listed' := #[true, true, true, true, true, false, false, false]) rfl (by kernel_rfl) (by kernel_rfl) (by kernel_rfl) rfl rfl rfl (fun h' e => OpP.fieldAddr (off := 0) Tryd.underlying124 rfl rfl H.sz4 rfl) rfl ?_
    refine RD.takeS 5 (listed' := #[true, true, true, true, true, true, false, false]) rfl (by kernel_rfl) (by kernel_rfl) (by kernel_rfl) rfl rfl rfl (fun h' e => OpP.load H.ag4 rfl (e.old (k6.cell (i := 0) rfl))) rfl ?_
    refine RD.takeS 6 (listed' := #[true, true, true, true, true, true, true, false]) rfl (by kernel_rfl) (by kernel_rfl) (by kernel_rfl) rfl rfl rfl (fun h' e => OpP.indexSlice Tryd.underlying55 H.sz4 rfl rfl 0 rfl rfl (by omega)) rfl ?_
    refine RD.one0 7 (listed' := #[true, true, true, true, true, true, true, true]) rfl (by kernel_rfl) rfl rfl (OpX.store H.sz4 rfl rfl rfl hlc hlf) rfl ?_
    rintro _ g14 ⟨rfl, hg14⟩
    refine ⟨fun hk => (nomatch hk), ?_⟩
    rw [← hg14] at hlset
    have x14 : Ext (fun b => b = gl) g13 g14 := by rw [hg14]; exact Ext.setC _ _ _ rfl
    refine RD.done (by kernel_rfl) ?_
    refine G.sub (ρ' := [(1, _), (3, _), (4, _), (5, _), (6, _), (16, _)]) ⟨rfl, rfl, rfl, rfl, rfl, rfl, trivial⟩ ?_
    refine G.seq rfl ?_
    refine G.reg Tryd.func43 rfl ?_
    refine RW.pureS rfl rfl rfl rfl (OpP.move rfl) ?_
    refine RW.pureS rfl rfl rfl rfl (OpP.assign rfl) ?_
    refine RW.done rfl ?_
    refine G.sub (ρ' := [(1, _), (2, _), (3, _), (4, _), (5, _), (6, _), (16, _)]) ⟨rfl, rfl, rfl, rfl, rfl, rfl, rfl, trivial⟩ ?_
    refine G.ret Tryd.func43 rfl rfl ?_
    have hlt11 : ∀ b, ruM h3.size vs8 (.slice (some ⟨gb, 0, none⟩) i bc) b → b < g11.size := by
      rintro b (k | k | k)
      · omega
      · exact (a11.ownS b k.symm).2
      · exact (a11.ownB b k.symm).2
    have e1114 : Ext (fun b => b = h3.size) g11 g14 := ⟨by have := x14.size; omega, fun b hb hn => by rw [x14.block b (by omega) (by omega), x13.block b (by omega) hn]; exact e12.block b hb (fun k => k)⟩
    have hss : ∀ b, vs8.ownBlock = some b → h.size ≤ b := fun b hb => by
      have := eg.size
      rcases ho8 b hb with k | k
      · have := hvs b k; omega
      · omega
    refine ⟨_, rfl, h3.size, rfl, ⟨vs8, _, _, by omega, k13.ext x14 (by show ¬ _ = _; omega), ?_, ?_, ?_⟩, ?_⟩
    · exact OwR.read (OwnH.raise (OwnH.ext e1114 a11.sets (fun b hb e => (a11.ownS b hb).1 e)) hss) (fun b hb k => by omega)
    · exact (a11.rows.mv2 e1114 (fun b hb (e : b = h3.size) => (a11.ownB b hb).1 e) (fun b _ k => .inl k) (fun b _ k => k)).read2 (fun b hb k => by have := hvn b hb; omega) (fun b _ k => .inr (.inr k))
    · exact OwE.read (h1 := fun _ => rfl) hlset (fun b hb k => by omega)
    · have hzg := eg.size
      refine ⟨by have := x14.size; omega, fun b hb k => ?_⟩
      rw [e1114.block b (by omega) (by omega), x11.block b (by omega) (by omega), e810.block b (by omega) (fun k => k), e8.block b (by omega) ?_]
      · exact eg.block b hb k
      · rintro (k | k | k)
        · omega
        · have := hvs b k.symm; omega
        · have := hvn b k.symm; omega

end Go.Proofs.YtlegopbpofofgaaDoor

/- Steps of the reference. -/
namespace Go.Proofs.YtlegopbpofofgaaDoor
open Go Go.Lw
set_option maxRecDepth 20000

theorem startR_calls {h : Heap} {O : Nat → Prop} {rb n : Nat} {r : RuP} (hr : RuRd h O rb r) (hok : RuleOk r n) (hn : n ≤ 1000000) :
    CallsH Tryd.prog 45 #[.pointer (some ⟨rb, 0, none⟩)] h (Ret fun v h' => OwE Value.bool h' h.size 4 v (startR r) ∧ Ext0 h h') := by
  obtain ⟨vs, vb, vl, ho, hk, h1, h2, h3⟩ := hr
  obtain ⟨sa, sn, sc, rfl, hs1, _⟩ := h1
  have hsl := hok.sets
  have hsp := hok.pos
  refine CallsH.of Tryd.func45 rfl rfl ?_
  refine G.seq rfl ?_
  refine G.reg Tryd.func45 rfl ?_
  refine RW.pureS rfl rfl rfl rfl (OpP.assign rfl) ?_
  refine RW.done rfl ?_
  refine G.sub (ρ' := [(0, _), (2, _)]) ⟨rfl, rfl, trivial⟩ ?_
  refine G.seq rfl ?_
  refine G.reg Tryd.func45 rfl ?_
  refine RW.pureS rfl rfl rfl rfl (OpP.move rfl) ?_
  refine RW.pureS rfl rfl rfl rfl (OpP.nilCheck rfl) ?_
  refine RW.pureS rfl rfl rfl rfl (OpP.fieldAddr (off := 0) Tryd.underlying57 rfl rfl H.sz53 rfl) ?_
  refine RW.pureS rfl rfl rfl rfl (OpP.load H.ag53 rfl (hk.cell (i := 0) rfl)) ?_
  refine RW.pureS rfl rfl rfl rfl (OpP.lenSlice Tryd.underlying53 rfl) ?_
  refine RW.opS rfl rfl rfl rfl (OpX.makeOnes Tryd.underlying55 H.el4 H.zr4 rfl rfl rfl (by omega) (by decide)) ?_
  rintro _ g1 ⟨rfl, k1, e1⟩
  have k1 : OwE Value.bool g1 h.size 4 (.slice (some ⟨h.size, 0, none⟩) sn sn) (nob r.sets.length) := by unfold OwE nob; rw [hs1]; simpa using k1
  obtain ⟨g', c', hv', _, _, hcell, hfz, hset⟩ := k1.at (i := 0) (x := false) (by unfold nob; rw [List.getElem?_replicate, if_pos (by omega)])
  rw [nob_len, hs1] at hv'
  cases hv'
  have hset := hset true
  refine RW.pureS rfl rfl rfl rfl (OpP.assign rfl) ?_
  refine RW.done rfl ?_
  refine G.sub (ρ' := [(0, _), (2, _), (3, _)]) ⟨rfl, rfl, rfl, trivial⟩ ?_
  refine G.seq rfl ?_
  refine G.reg Tryd.func45 rfl ?_
  refine RW.pureS rfl rfl rfl rfl (OpP.move rfl) ?_
  refine RW.pureS rfl rfl rfl rfl (OpP.indexSlice Tryd.underlying55 H.sz4 rfl rfl 0 rfl rfl (by omega)) ?_
  refine RW.op0 rfl rfl rfl (OpX.store H.sz4 rfl rfl rfl hcell hfz) ?_
  rintro _ g2 ⟨rfl, hg2⟩
  rw [← hg2] at hset
  refine RW.done rfl ?_
  refine G.sub (ρ' := [(0, _), (2, _), (3, _)]) ⟨rfl, rfl, rfl, trivial⟩ ?_
  refine G.seq rfl ?_
  refine G.reg Tryd.func45 rfl ?_
  refine RW.pureS rfl rfl rfl rfl (OpP.move rfl) ?_
  refine RW.pureS rfl rfl rfl rfl (OpP.assign rfl) ?_
  refine RW.done rfl ?_
  refine G.sub (ρ' := [(0, _), (2, _), (3, _)]) ⟨rfl, rfl, rfl, trivial⟩ ?_
  refine G.ret Tryd.func45 rfl rfl ?_
  exact ⟨_, rfl, hset, Ext0.only e1 (by rw [hg2]; exact Ext.setC _ _ _ rfl : Ext (fun b => b = h.size) g1 g2) (Nat.le_refl _)⟩

theorem anyR_calls {h : Heap} {O : Nat → Prop} {v : Value} {a : List Bool} (ha : SlR .bool h O v a) (hn : a.length ≤ 1000000) :
    CallsH Tryd.prog 46 #[v] h (Ret fun r h' => r = .bool (anyR a) ∧ h' = h) := by
  obtain ⟨oa, na, ca, rfl, hsa⟩ := ha.open
  have hna := hsa.len
  refine CallsH.of Tryd.func46 rfl rfl ?_
  refine G.seq rfl ?_
  refine G.reg Tryd.func46 rfl ?_
  refine RW.pureS rfl rfl rfl rfl (OpP.assign rfl) ?_
  refine RW.done rfl ?_
  refine G.sub (ρ' := [(0, _), (2, _)]) ⟨rfl, rfl, trivial⟩ ?_
  refine G.seq rfl ?_
  refine G.seq rfl ?_
  refine G.reg Tryd.func46 rfl ?_
  refine RW.pureS rfl rfl rfl rfl (OpP.assign rfl) ?_
  refine RW.done rfl ?_
  refine G.sub (ρ' := [(0, _), (2, _), (3, _)]) ⟨rfl, rfl, rfl, trivial⟩ ?_
  refine G.block rfl rfl ?_
  refine G.loop (σ := Nat) (fun i => [(0, .slice oa na ca), (3, .int .i64 (i : Nat))]) (fun i h' => i ≤ na ∧ h' = h ∧ anyR (a.drop i) = anyR a) (fun i => na - i) (0) rfl ⟨rfl, rfl, trivial⟩ ⟨Nat.zero_le _, rfl, rfl⟩ ?_
  rintro i g ⟨hi, rfl, hcon⟩ ih
  refine G.seq rfl ?_
  refine G.seq rfl ?_
  refine G.reg Tryd.func46 rfl ?_
  refine RW.pureS rfl rfl rfl rfl (OpP.move rfl) ?_
  refine RW.pureS rfl rfl rfl rfl (OpP.move rfl) ?_
  refine RW.pureS rfl rfl rfl rfl (OpP.lenSlice Tryd.underlying55 rfl) ?_
  refine RW.pureS rfl rfl rfl rfl (OpP.lss rfl rfl) ?_
  refine RW.done rfl ?_
  refine G.sub (ρ' := [(0, _), (3, _), (7, _)]) ⟨rfl, rfl, rfl, trivial⟩ ?_
  refine G.ite rfl rfl (fun hlt => ?_) (fun hlt => ?_)
  · obtain ⟨ba, oo, x, hoa, _, hx, hcx⟩ := hsa.at (show i < na by omega)
    have hd : a.drop i = x :: a.drop (i + 1) := by
      obtain ⟨hi', rfl⟩ := List.getElem?_eq_some_iff.1 hx
      exact List.drop_eq_getElem_cons hi'
    rw [hd] at hcon
    simp only [anyR, List.any_cons, id] at hcon
    refine G.skip rfl ?_
    refine G.seq rfl ?_
    refine G.block rfl rfl ?_
    refine G.seq rfl ?_
    refine G.reg Tryd.func46 rfl ?_
    refine RW.pureS rfl rfl rfl rfl (OpP.move rfl) ?_
    refine RW.pureS rfl rfl rfl rfl (OpP.move rfl) ?_
    refine RW.pureS rfl rfl rfl rfl (OpP.indexSlice Tryd.underlying55 H.sz4 rfl rfl i rfl hoa (by omega)) ?_
    refine RW.pureS rfl rfl rfl rfl (OpP.load H.ag4 rfl hcx) ?_
    refine RW.done rfl ?_
    refine G.sub (ρ' := [(0, _), (3, _), (7, _), (13, _)]) ⟨rfl, rfl, rfl, rfl, trivial⟩ ?_
    refine G.cond rfl rfl (fun hb => ?_) (fun hb => ?_)
    · subst hb
      refine G.seq rfl ?_
      refine G.reg Tryd.func46 rfl ?_
      refine RW.pureS rfl rfl rfl rfl (OpP.assign rfl) ?_
      refine RW.done rfl ?_
      refine G.sub (ρ' := [(0, _), (2, _), (3, _), (7, _), (13, _)]) ⟨rfl, rfl, rfl, rfl, rfl, trivial⟩ ?_
      refine G.ret Tryd.func46 rfl rfl ?_
      exact ⟨_, rfl, by rw [show anyR a = true by rw [anyR, ← hcon]; rfl]; rfl, rfl⟩
    · subst hb
      refine G.skip rfl ?_
      refine G.blkEnd ?_
      refine G.reg Tryd.func46 rfl ?_
      refine RW.pureS rfl rfl rfl rfl (OpP.move rfl) ?_
      refine RW.pureS rfl rfl rfl rfl (OpP.add64 rfl rfl ⟨by omega, by omega⟩) ?_
      refine RW.pureS rfl rfl rfl rfl (OpP.assign rfl) ?_
      refine RW.done rfl ?_
      refine G.sub (ρ' := [(0, _), (3, _), (7, _), (13, _)]) ⟨rfl, rfl, rfl, rfl, trivial⟩ ?_
      exact ih (i + 1) _ _ ⟨rfl, rfl, trivial⟩ ⟨by omega, rfl, by rw [anyR, anyR, ← hcon]; rfl⟩ (by omega)
  · have hd : a.drop i = [] := List.drop_of_length_le (by omega)
    rw [hd] at hcon
    refine G.exit rfl rfl ?_
    refine G.seq rfl ?_
    refine G.reg Tryd.func46 rfl ?_
    refine RW.pureS rfl rfl rfl rfl (OpP.assign rfl) ?_
    refine RW.done rfl ?_
    refine G.sub (ρ' := [(0, _), (2, _), (3, _), (7, _)]) ⟨rfl, rfl, rfl, rfl, trivial⟩ ?_
    refine G.ret Tryd.func46 rfl rfl ?_
    exact ⟨_, rfl, by rw [← hcon]; rfl, rfl⟩

theorem endsR_drop (r : RuP) (a : List Bool) : endsR r a = (List.zipWith (· && ·) a r.last).any id := rfl

theorem endsR_calls {h : Heap} {O Oa : Nat → Prop} {rb n : Nat} {r : RuP} {v : Value} {a : List Bool} (hr : RuRd h O rb r) (hok : RuleOk r n) (ha : SlR .bool h Oa v a) (hal : a.length = r.sets.length) (hn : n ≤ 1000000) :
    CallsH Tryd.prog 47 #[.pointer (some ⟨rb, 0, none⟩), v] h (Ret fun u h' => u = .bool (endsR r a) ∧ h' = h) := by
  obtain ⟨vs, vb, vl, ho, hk, h1, h2, h3⟩ := hr
  obtain ⟨la, ln, lc, rfl, hsl⟩ := h3.open
  obtain ⟨oa, na, ca, rfl, hsa⟩ := ha.open
  have hna := hsa.len
  have hln := hsl.len
  have hss := hok.sets
  have hll := hok.last
  refine CallsH.of Tryd.func47 rfl rfl ?_
  refine G.seq rfl ?_
  refine G.reg Tryd.func47 rfl ?_
  refine RW.pureS rfl rfl rfl rfl (OpP.assign rfl) ?_
  refine RW.done rfl ?_
  refine G.sub (ρ' := [(0, _), (1, _), (4, _)]) ⟨rfl, rfl, rfl, trivial⟩ ?_
  refine G.seq rfl ?_
  refine G.seq rfl ?_
  refine G.reg Tryd.func47 rfl ?_
  refine RW.pureS rfl rfl rfl rfl (OpP.assign rfl) ?_
  refine RW.done rfl ?_
  refine G.sub (ρ' := [(0, _), (1, _), (4, _), (5, _)]) ⟨rfl, rfl, rfl, rfl, trivial⟩ ?_
  refine G.block rfl rfl ?_
  refine G.loop (σ := Nat) (fun i => [(0, .pointer (some ⟨rb, 0, none⟩)), (1, .slice oa na ca), (5, .int .i64 (i : Nat))]) (fun i h' => i ≤ na ∧ h' = h ∧ (List.zipWith (· && ·) (a.drop i) (r.last.drop i)).any id = endsR r a) (fun i => na - i) (0) rfl ⟨rfl, rfl, rfl, trivial⟩ ⟨Nat.zero_le _, rfl, rfl⟩ ?_
  rintro i g ⟨hi, rfl, hcon⟩ ih
  refine G.seq rfl ?_
  refine G.seq rfl ?_
  refine G.reg Tryd.func47 rfl ?_
  refine RW.pureS rfl rfl rfl rfl (OpP.move rfl) ?_
  refine RW.pureS rfl rfl rfl rfl (OpP.move rfl) ?_
  refine RW.pureS rfl rfl rfl rfl (OpP.lenSlice Tryd.underlying55 rfl) ?_
  refine RW.pureS rfl rfl rfl rfl (OpP.lss rfl rfl) ?_
  refine RW.done rfl ?_
  refine G.sub (ρ' := [(0, _), (1, _), (5, _), (9, _)]) ⟨rfl, rfl, rfl, rfl, trivial⟩ ?_
  refine G.ite rfl rfl (fun hlt => ?_) (fun hlt => ?_)
  · obtain ⟨ba, oo, x, hoa, _, hx, hcx⟩ := hsa.at (show i < na by omega)
    obtain ⟨bl, ol, y, hol, _, hy, hcy⟩ := hsl.at (show i < ln by omega)
    have hd : a.drop i = x :: a.drop (i + 1) := by
      obtain ⟨hi', rfl⟩ := List.getElem?_eq_some_iff.1 hx
      exact List.drop_eq_getElem_cons hi'
    have hd2 : r.last.drop i = y :: r.last.drop (i + 1) := by
      obtain ⟨hi', rfl⟩ := List.getElem?_eq_some_iff.1 hy
      exact List.drop_eq_getElem_cons hi'
    rw [hd, hd2] at hcon
    simp only [List.zipWith_cons_cons, List.any_cons, id] at hcon
    refine G.skip rfl ?_
    refine G.seq rfl ?_
    refine G.block rfl rfl ?_
    refine G.seq rfl ?_
    refine G.regTo1 [(24, .bool (x && y))] [(0, _), (1, _), (5, _), (9, _)] ⟨rfl, rfl, rfl, rfl, trivial⟩ Tryd.func47 rfl ?_ ?_
    · refine RW.pureS rfl rfl rfl rfl (OpP.move rfl) ?_
      refine RW.pureS rfl rfl rfl rfl (OpP.move rfl) ?_
      refine RW.pureS rfl rfl rfl rfl (OpP.indexSlice Tryd.underlying55 H.sz4 rfl rfl i rfl hoa (by omega)) ?_
      refine RW.pureS rfl rfl rfl rfl (OpP.load H.ag4 rfl hcx) ?_
      refine RW.pureS rfl rfl rfl rfl (OpP.move rfl) ?_
      refine RW.split (d := 16) rfl (fun hg => ?_) (fun hg => ?_)
      · refine RW.pureS rfl rfl rfl rfl (OpP.move rfl) ?_
        refine RW.pureS rfl rfl rfl rfl (OpP.nilCheck rfl) ?_
        refine RW.pureS rfl rfl rfl rfl (OpP.fieldAddr (off := 2) Tryd.underlying57 rfl rfl H.sz55 rfl) ?_
        refine RW.pureS rfl rfl rfl rfl (OpP.load H.ag55 rfl (hk.cell (i := 2) rfl)) ?_
        refine RW.pureS rfl rfl rfl rfl (OpP.move rfl) ?_
        refine RW.pureS rfl rfl rfl rfl (OpP.indexSlice Tryd.underlying55 H.sz4 rfl rfl i rfl hol (by omega)) ?_
        refine RW.pureS rfl rfl rfl rfl (OpP.load H.ag4 rfl hcy) ?_
        refine RW.pureS rfl rfl rfl rfl (OpP.pickT rfl rfl) ?_
        refine RW.done rfl ?_
        exact ⟨rfl, at_bool rfl (by simp [hg]), rfl, rfl, rfl, rfl, trivial⟩
      · refine RW.skipS rfl rfl rfl rfl ?_
        refine RW.skipS rfl rfl rfl rfl ?_
        refine RW.skipS rfl rfl rfl rfl ?_
        refine RW.skipS rfl rfl rfl rfl ?_
        refine RW.skipS rfl rfl rfl rfl ?_
        refine RW.skipS rfl rfl rfl rfl ?_
        refine RW.skipS rfl rfl rfl rfl ?_
        refine RW.pureS rfl rfl rfl rfl (OpP.pickF rfl rfl) ?_
        refine RW.done rfl ?_
        exact ⟨rfl, at_bool rfl (by simp [hg]), rfl, rfl, rfl, rfl, trivial⟩
    · refine G.cond rfl rfl (fun hb => ?_) (fun hb => ?_)
      · refine G.seq rfl ?_
        refine G.reg Tryd.func47 rfl ?_
        refine RW.pureS rfl rfl rfl rfl (OpP.assign rfl) ?_
        refine RW.done rfl ?_
        refine G.sub (ρ' := [(0, _), (1, _), (4, _), (5, _), (9, _), (24, _)]) ⟨rfl, rfl, rfl, rfl, rfl, rfl, trivial⟩ ?_
        refine G.ret Tryd.func47 rfl rfl ?_
        rw [hb] at hcon
        exact ⟨_, rfl, by rw [← hcon]; rfl, rfl⟩
      · rw [hb, Bool.false_or] at hcon
        refine G.skip rfl ?_
        refine G.blkEnd ?_
        refine G.reg Tryd.func47 rfl ?_
        refine RW.pureS rfl rfl rfl rfl (OpP.move rfl) ?_
        refine RW.pureS rfl rfl rfl rfl (OpP.add64 rfl rfl ⟨by omega, by omega⟩) ?_
        refine RW.pureS rfl rfl rfl rfl (OpP.assign rfl) ?_
        refine RW.done rfl ?_
        refine G.sub (ρ' := [(0, _), (1, _), (5, _), (9, _), (24, _)]) ⟨rfl, rfl, rfl, rfl, rfl, trivial⟩ ?_
        exact ih (i + 1) _ _ ⟨rfl, rfl, rfl, trivial⟩ ⟨by omega, rfl, hcon⟩ (by omega)
  · have hd : a.drop i = [] := List.drop_of_length_le (by omega)
    rw [hd] at hcon
    refine G.exit rfl rfl ?_
    refine G.seq rfl ?_
    refine G.reg Tryd.func47 rfl ?_
    refine RW.pureS rfl rfl rfl rfl (OpP.assign rfl) ?_
    refine RW.done rfl ?_
    refine G.sub (ρ' := [(0, _), (1, _), (4, _), (5, _), (9, _)]) ⟨rfl, rfl, rfl, rfl, rfl, trivial⟩ ?_
    refine G.ret Tryd.func47 rfl rfl ?_
    exact ⟨_, rfl, by rw [← hcon]; rfl, rfl⟩

theorem andB_at (c : UInt8) : ∀ (k : Nat) (out : List Bool) (sets : List Nat) (q : Nat) (o : Bool) (s : Nat), out[q]? = some o → sets[q]? = some s → (andB c k out sets)[q]? = some (o && decide (0 < k + q) && s.testBit c.toNat)
  | k, [], sets, q, o, s, h, _ => by simp at h
  | k, _ :: out, [], q, o, s, _, h => by simp at h
  | k, x :: out, y :: sets, 0, o, s, h1, h2 => by simp at h1 h2; subst h1 h2; simp [andB]
  | k, x :: out, y :: sets, q + 1, o, s, h1, h2 => by
    rw [andB]
    simp only [List.getElem?_cons_succ] at h1 h2 ⊢
    rw [andB_at c (k + 1) out sets q o s h1 h2, show k + 1 + q = k + (q + 1) by omega]

theorem stepR_calls {h : Heap} {O Oa : Nat → Prop} {rb n : Nat} {r : RuP} {v : Value} {a : List Bool} (c : UInt8) (hr : RuRd h O rb r) (hok : RuleOk r n) (ha : SlR .bool h Oa v a) (hal : a.length = r.sets.length) (hn : n ≤ 1000000) :
    CallsH Tryd.prog 48 #[.pointer (some ⟨rb, 0, none⟩), v, .int .u8 (c.toNat : Nat)] h (Ret fun u h' => OwE Value.bool h' h.size 4 u (stepR r a c) ∧ Ext0 h h') := by
  obtain ⟨vs, vb, vl, ho, hk, h1, h2, h3⟩ := hr
  obtain ⟨ba, bn, bc, rfl, hsb⟩ := h2.open
  obtain ⟨sa, sn, sc, rfl, hss⟩ := h1.open
  obtain ⟨oa, na, ca, rfl, hsa⟩ := ha.open
  have hna := hsa.len
  have hbn := hsb.len
  have hsn := hss.len
  have hsl := hok.sets
  have hrows := hok.rows
  subst hna
  refine CallsH.of Tryd.func48 rfl rfl ?_
  refine G.seq rfl ?_
  refine G.reg Tryd.func48 rfl ?_
  refine RW.pureS rfl rfl rfl rfl (OpP.assign rfl) ?_
  refine RW.done rfl ?_
  refine G.sub (ρ' := [(0, _), (1, _), (2, _), (6, _)]) ⟨rfl, rfl, rfl, rfl, trivial⟩ ?_
  refine G.seq rfl ?_
  refine G.reg Tryd.func48 rfl ?_
  refine RW.pureS rfl rfl rfl rfl (OpP.move rfl) ?_
  refine RW.pureS rfl rfl rfl rfl (OpP.lenSlice Tryd.underlying55 rfl) ?_
  refine RW.opS rfl rfl rfl rfl (OpX.makeOnes Tryd.underlying55 H.el4 H.zr4 rfl rfl rfl (by omega) (by decide)) ?_
  rintro _ h1 ⟨rfl, k1, e1⟩
  have k1 : OwE Value.bool h1 h.size 4 (.slice (some ⟨h.size, 0, none⟩) a.length a.length) (nob a.length) := by unfold OwE nob; simpa using k1
  have hbl : ∀ b ∈ r.behind, (nob a.length).length ≤ b.length := fun b hb => by rw [hok.each b hb, nob_len]; omega
  have hol := orsB_len a r.behind (nob a.length) hbl
  rw [nob_len] at hol
  generalize htgt : orsB a r.behind (nob a.length) = tgt at hol
  refine RW.pureS rfl rfl rfl rfl (OpP.assign rfl) ?_
  refine RW.done rfl ?_
  refine G.sub (ρ' := [(0, _), (1, _), (2, _), (6, _), (7, _)]) ⟨rfl, rfl, rfl, rfl, rfl, trivial⟩ ?_
  refine G.seq rfl ?_
  refine G.seq rfl ?_
  refine G.reg Tryd.func48 rfl ?_
  refine RW.pureS rfl rfl rfl rfl (OpP.assign rfl) ?_
  refine RW.done rfl ?_
  refine G.sub (ρ' := [(0, _), (1, _), (2, _), (6, _), (7, _), (8, _)]) ⟨rfl, rfl, rfl, rfl, rfl, rfl, trivial⟩ ?_
  refine G.block rfl rfl ?_
  refine G.loop (σ := Nat × Value × List Bool) (fun q => [(0, .pointer (some ⟨rb, 0, none⟩)), (1, .slice oa a.length ca), (2, .int .u8 (c.toNat : Nat)), (7, q.2.1), (8, .int .i64 (q.1 : Nat))]) (fun q h' => q.1 ≤ a.length ∧ Ext0 h h' ∧ OwE Value.bool h' h.size 4 q.2.1 q.2.2 ∧ q.2.2.length = a.length ∧ orsB (a.drop q.1) (r.behind.drop q.1) q.2.2 = tgt) (fun q => a.length - q.1) ((0, _, nob a.length)) rfl ⟨rfl, rfl, rfl, rfl, rfl, trivial⟩ ⟨Nat.zero_le _, e1, k1, nob_len _, htgt⟩ ?_
  rintro ⟨i, ov, cur⟩ g ⟨hi, eg, hov, hcl, hcon⟩ ih
  try dsimp only
  dsimp only at hi hov hcl hcon
  have hkg := hk.ext0 eg
  have hzg := eg.size
  refine G.seq rfl ?_
  refine G.seq rfl ?_
  refine G.reg Tryd.func48 rfl ?_
  refine RW.pureS rfl rfl rfl rfl (OpP.move rfl) ?_
  refine RW.pureS rfl rfl rfl rfl (OpP.move rfl) ?_
  refine RW.pureS rfl rfl rfl rfl (OpP.lenSlice Tryd.underlying55 rfl) ?_
  refine RW.pureS rfl rfl rfl rfl (OpP.lss rfl rfl) ?_
  refine RW.done rfl ?_
  refine G.sub (ρ' := [(0, _), (1, _), (2, _), (7, _), (8, _), (16, _)]) ⟨rfl, rfl, rfl, rfl, rfl, rfl, trivial⟩ ?_
  refine G.ite rfl rfl (fun hlt => ?_) (fun hlt => ?_)
  · have hia : i < a.length := by omega
    obtain ⟨b1, o1, x, hoa, _, hx, hcx⟩ := (hsa.mv (Mv.ext0 eg)).at hia
    obtain ⟨row, hrow⟩ : ∃ row, r.behind[i]? = some row := ⟨_, List.getElem?_eq_getElem (by omega)⟩
    have hrl := hok.each row (List.mem_of_getElem? hrow)
    have hd : a.drop i = x :: a.drop (i + 1) := by
      obtain ⟨hi', rfl⟩ := List.getElem?_eq_some_iff.1 hx
      exact List.drop_eq_getElem_cons hi'
    have hd2 : r.behind.drop i = row :: r.behind.drop (i + 1) := by
      obtain ⟨hi', rfl⟩ := List.getElem?_eq_some_iff.1 hrow
      exact List.drop_eq_getElem_cons hi'
    rw [hd, hd2, orsB] at hcon
    refine G.skip rfl ?_
    refine G.seq rfl ?_
    refine G.block rfl rfl ?_
    refine G.seq rfl ?_
    refine G.reg Tryd.func48 rfl ?_
    refine RW.pureS rfl rfl rfl rfl (OpP.move rfl) ?_
    refine RW.pureS rfl rfl rfl rfl (OpP.move rfl) ?_
    refine RW.pureS rfl rfl rfl rfl (OpP.indexSlice Tryd.underlying55 H.sz4 rfl rfl i rfl hoa (by omega)) ?_
    refine RW.pureS rfl rfl rfl rfl (OpP.load H.ag4 rfl hcx) ?_
    refine RW.done rfl ?_
    refine G.sub (ρ' := [(0, _), (1, _), (2, _), (7, _), (8, _), (16, _), (22, _)]) ⟨rfl, rfl, rfl, rfl, rfl, rfl, rfl, trivial⟩ ?_
    refine G.cond rfl rfl (fun hb => ?_) (fun hb => ?_)
    · rw [if_pos hb] at hcon
      obtain ⟨b2, o2, cs2, hba, _, hra, ⟨w, rfl, hw⟩⟩ := (hsb.mv (Mv.ext0 eg)).get i row hrow
      refine G.reg Tryd.func48 rfl ?_
      refine RW.pureS rfl rfl rfl rfl (OpP.move rfl) ?_
      refine RW.pureS rfl rfl rfl rfl (OpP.move rfl) ?_
      refine RW.pureS rfl rfl rfl rfl (OpP.nilCheck rfl) ?_
      refine RW.pureS rfl rfl rfl rfl (OpP.fieldAddr (off := 1) Tryd.underlying57 rfl rfl H.sz54 rfl) ?_
      refine RW.pureS rfl rfl rfl rfl (OpP.load H.ag54 rfl (hkg.cell (i := 1) rfl)) ?_
      refine RW.pureS rfl rfl rfl rfl (OpP.move rfl) ?_
      refine RW.pureS rfl rfl rfl rfl (OpP.indexSlice Tryd.underlying54 H.sz55 rfl rfl i rfl hba (by omega)) ?_
      refine RW.pureS rfl rfl rfl rfl (OpP.load H.ag55 rfl (hra 0 _ rfl)) ?_
      refine RW.opS rfl rfl rfl rfl (OpX.call (vs := [_, _]) Tryd.func64 rfl H.nm64 rfl (CallsH.toX (or_calls (OwE.read (O := fun _ => False) (h1 := fun _ => rfl) hov (fun _ _ k => k)) hw (by omega) (by omega)))) ?_
      rintro w5 g5 ⟨ho5, e5⟩
      refine RW.pureS rfl rfl rfl rfl (OpP.assign rfl) ?_
      refine RW.done rfl ?_
      refine G.sub (ρ' := [(0, _), (1, _), (2, _), (7, _), (8, _), (16, _), (22, _)]) ⟨rfl, rfl, rfl, rfl, rfl, rfl, rfl, trivial⟩ ?_
      refine G.blkEnd ?_
      refine G.reg Tryd.func48 rfl ?_
      refine RW.pureS rfl rfl rfl rfl (OpP.move rfl) ?_
      refine RW.pureS rfl rfl rfl rfl (OpP.add64 rfl rfl ⟨by omega, by omega⟩) ?_
      refine RW.pureS rfl rfl rfl rfl (OpP.assign rfl) ?_
      refine RW.done rfl ?_
      refine G.sub (ρ' := [(0, _), (1, _), (2, _), (7, _), (8, _), (16, _), (22, _)]) ⟨rfl, rfl, rfl, rfl, rfl, rfl, rfl, trivial⟩ ?_
      exact ih (i + 1, w5, orB cur row) _ _ ⟨rfl, rfl, rfl, rfl, rfl, trivial⟩ ⟨hia, eg.trans e5, OwnH.lower ho5 (by omega), by show (orB cur row).length = _; simp [orB]; omega, hcon⟩ (by show a.length - (i + 1) < a.length - i; omega)
    · rw [if_neg (by rw [hb]; decide)] at hcon
      refine G.skip rfl ?_
      refine G.blkEnd ?_
      refine G.reg Tryd.func48 rfl ?_
      refine RW.pureS rfl rfl rfl rfl (OpP.move rfl) ?_
      refine RW.pureS rfl rfl rfl rfl (OpP.add64 rfl rfl ⟨by omega, by omega⟩) ?_
      refine RW.pureS rfl rfl rfl rfl (OpP.assign rfl) ?_
      refine RW.done rfl ?_
      refine G.sub (ρ' := [(0, _), (1, _), (2, _), (7, _), (8, _), (16, _), (22, _)]) ⟨rfl, rfl, rfl, rfl, rfl, rfl, rfl, trivial⟩ ?_
      exact ih (i + 1, ov, cur) _ _ ⟨rfl, rfl, rfl, rfl, rfl, trivial⟩ ⟨hia, eg, hov, hcl, hcon⟩ (by show a.length - (i + 1) < a.length - i; omega)
  · have hd : a.drop i = [] := List.drop_of_length_le (by omega)
    have hz : orsB [] (r.behind.drop i) cur = cur := by simp [orsB]
    rw [hd, hz] at hcon
    subst hcon
    generalize hfin : andB c 0 cur r.sets = fin
    have hfl : fin.length = a.length := by rw [← hfin, andB_len _ _ _ _ (by omega)]; exact hcl
    obtain ⟨ova, ovc, rfl, _⟩ := (show OwnH g h.size 4 1 ov cur.length (cur.map Value.bool) from hov).open
    refine G.exit rfl rfl ?_
    refine G.seq rfl ?_
    refine G.seq rfl ?_
    refine G.reg Tryd.func48 rfl ?_
    refine RW.pureS rfl rfl rfl rfl (OpP.assign rfl) ?_
    refine RW.done rfl ?_
    refine G.sub (ρ' := [(0, _), (1, _), (2, _), (7, _), (8, _), (9, _), (16, _)]) ⟨rfl, rfl, rfl, rfl, rfl, rfl, rfl, trivial⟩ ?_
    refine G.block rfl rfl ?_
    refine G.loop (σ := Nat) (fun i => [(0, .pointer (some ⟨rb, 0, none⟩)), (1, .slice oa a.length ca), (2, .int .u8 (c.toNat : Nat)), (7, .slice ova cur.length ovc), (9, .int .i64 (i : Nat))]) (fun i h' => i ≤ a.length ∧ Ext0 h h' ∧ OwE Value.bool h' h.size 4 (.slice ova cur.length ovc) (fin.take i ++ cur.drop i)) (fun i => a.length - i) (0) rfl ⟨rfl, rfl, rfl, rfl, rfl, trivial⟩ ⟨Nat.zero_le _, eg, by simpa using hov⟩ ?_
    rintro i g ⟨hi, eg, hov⟩ ih
    have hkg := hk.ext0 eg
    have hzg := eg.size
    refine G.seq rfl ?_
    refine G.seq rfl ?_
    refine G.reg Tryd.func48 rfl ?_
    refine RW.pureS rfl rfl rfl rfl (OpP.move rfl) ?_
    refine RW.pureS rfl rfl rfl rfl (OpP.move rfl) ?_
    refine RW.pureS rfl rfl rfl rfl (OpP.lenSlice Tryd.underlying55 rfl) ?_
    refine RW.pureS rfl rfl rfl rfl (OpP.lss rfl rfl) ?_
    refine RW.done rfl ?_
    refine G.sub (ρ' := [(0, _), (1, _), (2, _), (7, _), (9, _), (35, _)]) ⟨rfl, rfl, rfl, rfl, rfl, rfl, trivial⟩ ?_
    refine G.ite rfl rfl (fun hlt => ?_) (fun hlt => ?_)
    · have hia : i < a.length := by omega
      obtain ⟨x, hx⟩ : ∃ x, cur[i]? = some x := ⟨_, List.getElem?_eq_getElem (by omega)⟩
      obtain ⟨s, hs⟩ : ∃ s, r.sets[i]? = some s := ⟨_, List.getElem?_eq_getElem (by omega)⟩
      have hfa := andB_at c 0 cur r.sets i x s hx hs
      rw [hfin, Nat.zero_add] at hfa
      obtain ⟨hfi, hfv⟩ := List.getElem?_eq_some_iff.1 hfa
      obtain ⟨g', c', hv', hgb, _, hcell, hfz, hset⟩ := hov.at (by rw [mix_get hfl hia]; exact hx)
      rw [mix_len hfl hcl hi, ← hcl] at hv'
      cases hv'
      have hms := mix_set hfl hcl hia
      rw [hfv] at hms
      have hset := hset (x && decide (0 < i) && s.testBit c.toNat)
      rw [hms] at hset
      have fin2 : ∀ d, d = (x && decide (0 < i) && s.testBit c.toNat) → ∀ ga gb, Ext0 g ga → gb = setC ga ⟨g', 0 + i * 1, none⟩ (.bool d) → Ext0 h gb ∧ OwE Value.bool gb h.size 4 (.slice (some ⟨g', 0, none⟩) cur.length ovc) (fin.take (i + 1) ++ cur.drop (i + 1)) := by
        rintro d rfl ga gb ea rfl
        have hova := hov.ext0 ea
        obtain ⟨g2', c2', hv2, _, _, _, _, hset2⟩ := hova.at (by rw [mix_get hfl hia]; exact hx)
        rw [mix_len hfl hcl hi, ← hcl] at hv2
        cases hv2
        have hset2 := hset2 (x && decide (0 < i) && s.testBit c.toNat)
        rw [hms] at hset2
        exact ⟨Ext0.only (eg.trans ea) (Ext.setC (M := fun b => b = g') ga _ _ rfl) hgb, hset2⟩
      refine G.skip rfl ?_
      refine G.seq rfl ?_
      refine G.block rfl rfl ?_
      refine G.reg Tryd.func48 rfl ?_
      refine RW.pureS rfl rfl rfl rfl (OpP.move rfl) ?_
      refine RW.pureS rfl rfl rfl rfl (OpP.move rfl) ?_
      refine RW.pureS rfl rfl rfl rfl (OpP.move rfl) ?_
      refine RW.pureS rfl rfl rfl rfl (OpP.move rfl) ?_
      refine RW.pureS rfl rfl rfl rfl (OpP.indexSlice Tryd.underlying55 H.sz4 rfl rfl i rfl rfl (by omega)) ?_
      refine RW.pureS rfl rfl rfl rfl (OpP.load H.ag4 rfl hcell) ?_
      refine RW.pureS rfl rfl rfl rfl (OpP.move rfl) ?_
      refine RW.split (d := 44) rfl (fun hg => ?_) (fun hg => ?_)
      · refine RW.pureS rfl rfl rfl rfl (OpP.move rfl) ?_
        refine RW.pureS rfl rfl rfl rfl (OpP.gtr rfl rfl) ?_
        refine RW.pureS rfl rfl rfl rfl (OpP.pickT rfl rfl) ?_
        refine RW.pureS rfl rfl rfl rfl (OpP.move rfl) ?_
        refine RW.split (d := 48) rfl (fun hg2 => ?_) (fun hg2 => ?_)
        · have hg2' := of_decide_eq_true hg2
          obtain ⟨b3, o3, cs3, hsa3, _, hrow3, rfl⟩ := (hss.mv (Mv.ext0 eg)).get i s hs
          refine RW.pureS rfl rfl rfl rfl (OpP.move rfl) ?_
          refine RW.pureS rfl rfl rfl rfl (OpP.nilCheck rfl) ?_
          refine RW.pureS rfl rfl rfl rfl (OpP.fieldAddr (off := 0) Tryd.underlying57 rfl rfl H.sz53 rfl) ?_
          refine RW.pureS rfl rfl rfl rfl (OpP.load H.ag53 rfl (hkg.cell (i := 0) rfl)) ?_
          refine RW.pureS rfl rfl rfl rfl (OpP.move rfl) ?_
          refine RW.pureS rfl rfl rfl rfl (OpP.indexSlice Tryd.underlying53 H.sz60 rfl rfl i rfl hsa3 (by omega)) ?_
          refine RW.pureS rfl rfl rfl rfl (OpP.loadRowN H.ag60 H.sz60 rfl hrow3 (by first | rfl | simp)) ?_
          refine RW.pureS rfl rfl rfl rfl (OpP.move rfl) ?_
          refine RW.opS rfl rfl rfl rfl (OpX.call (vs := [_, _]) Tryd.func65 rfl H.nm65 rfl (CallsH.toX (hasR_calls s c))) ?_
          rintro _ g5 ⟨rfl, e5⟩
          obtain ⟨g5', c5', hv5, _, _, hcell5, hfz5, _⟩ := (hov.ext0 e5).at (by rw [mix_get hfl hia]; exact hx)
          rw [mix_len hfl hcl hi, ← hcl] at hv5
          cases hv5
          refine RW.pureS rfl rfl rfl rfl (OpP.pickT rfl rfl) ?_
          refine RW.pureS rfl rfl rfl rfl (OpP.indexSlice Tryd.underlying55 H.sz4 rfl rfl i rfl rfl (by omega)) ?_
          refine RW.op0 rfl rfl rfl (OpX.store H.sz4 rfl rfl rfl hcell5 hfz5) ?_
          rintro _ g6 ⟨rfl, hg6⟩
          refine RW.done rfl ?_
          refine G.sub (ρ' := [(0, _), (1, _), (2, _), (7, _), (9, _), (35, _)]) ⟨rfl, rfl, rfl, rfl, rfl, rfl, trivial⟩ ?_
          refine G.blkEnd ?_
          refine G.reg Tryd.func48 rfl ?_
          refine RW.pureS rfl rfl rfl rfl (OpP.move rfl) ?_
          refine RW.pureS rfl rfl rfl rfl (OpP.add64 rfl rfl ⟨by omega, by omega⟩) ?_
          refine RW.pureS rfl rfl rfl rfl (OpP.assign rfl) ?_
          refine RW.done rfl ?_
          refine G.sub (ρ' := [(0, _), (1, _), (2, _), (7, _), (9, _), (35, _)]) ⟨rfl, rfl, rfl, rfl, rfl, rfl, trivial⟩ ?_
          exact ih (i + 1) _ _ ⟨rfl, rfl, rfl, rfl, rfl, trivial⟩ ⟨hia, fin2 _ (by rw [hg, decide_eq_true (show 0 < i by omega)]; rfl) g5 g6 e5 hg6⟩ (by omega)
        · have hg2' := of_decide_eq_false hg2
          refine RW.skipS rfl rfl rfl rfl ?_
          refine RW.skipS rfl rfl rfl rfl ?_
          refine RW.skipS rfl rfl rfl rfl ?_
          refine RW.skipS rfl rfl rfl rfl ?_
          refine RW.skipS rfl rfl rfl rfl ?_
          refine RW.skipS rfl rfl rfl rfl ?_
          refine RW.skipS rfl rfl rfl rfl ?_
          refine RW.skipS rfl rfl rfl rfl ?_
          refine RW.skipS rfl rfl rfl rfl ?_
          refine RW.pureS rfl rfl rfl rfl (OpP.pickF rfl rfl) ?_
          refine RW.pureS rfl rfl rfl rfl (OpP.indexSlice Tryd.underlying55 H.sz4 rfl rfl i rfl rfl (by omega)) ?_
          refine RW.op0 rfl rfl rfl (OpX.store H.sz4 rfl rfl rfl hcell hfz) ?_
          rintro _ g6 ⟨rfl, hg6⟩
          refine RW.done rfl ?_
          refine G.sub (ρ' := [(0, _), (1, _), (2, _), (7, _), (9, _), (35, _)]) ⟨rfl, rfl, rfl, rfl, rfl, rfl, trivial⟩ ?_
          refine G.blkEnd ?_
          refine G.reg Tryd.func48 rfl ?_
          refine RW.pureS rfl rfl rfl rfl (OpP.move rfl) ?_
          refine RW.pureS rfl rfl rfl rfl (OpP.add64 rfl rfl ⟨by omega, by omega⟩) ?_
          refine RW.pureS rfl rfl rfl rfl (OpP.assign rfl) ?_
          refine RW.done rfl ?_
          refine G.sub (ρ' := [(0, _), (1, _), (2, _), (7, _), (9, _), (35, _)]) ⟨rfl, rfl, rfl, rfl, rfl, rfl, trivial⟩ ?_
          exact ih (i + 1) _ _ ⟨rfl, rfl, rfl, rfl, rfl, trivial⟩ ⟨hia, fin2 _ (by rw [decide_eq_false (show ¬ 0 < i by omega)]; simp) g g6 (Ext.refl _ _) hg6⟩ (by omega)
      · refine RW.skipS rfl rfl rfl rfl ?_
        refine RW.skipS rfl rfl rfl rfl ?_
        refine RW.pureS rfl rfl rfl rfl (OpP.pickF rfl rfl) ?_
        refine RW.pureS rfl rfl rfl rfl (OpP.move rfl) ?_
        refine RW.skipS rfl rfl rfl rfl ?_
        refine RW.skipS rfl rfl rfl rfl ?_
        refine RW.skipS rfl rfl rfl rfl ?_
        refine RW.skipS rfl rfl rfl rfl ?_
        refine RW.skipS rfl rfl rfl rfl ?_
        refine RW.skipS rfl rfl rfl rfl ?_
        refine RW.skipS rfl rfl rfl rfl ?_
        refine RW.skipS rfl rfl rfl rfl ?_
        refine RW.skipS rfl rfl rfl rfl ?_
        refine RW.pureS rfl rfl rfl rfl (OpP.pickF rfl rfl) ?_
        refine RW.pureS rfl rfl rfl rfl (OpP.indexSlice Tryd.underlying55 H.sz4 rfl rfl i rfl rfl (by omega)) ?_
        refine RW.op0 rfl rfl rfl (OpX.store H.sz4 rfl rfl rfl hcell hfz) ?_
        rintro _ g6 ⟨rfl, hg6⟩
        refine RW.done rfl ?_
        refine G.sub (ρ' := [(0, _), (1, _), (2, _), (7, _), (9, _), (35, _)]) ⟨rfl, rfl, rfl, rfl, rfl, rfl, trivial⟩ ?_
        refine G.blkEnd ?_
        refine G.reg Tryd.func48 rfl ?_
        refine RW.pureS rfl rfl rfl rfl (OpP.move rfl) ?_
        refine RW.pureS rfl rfl rfl rfl (OpP.add64 rfl rfl ⟨by omega, by omega⟩) ?_
        refine RW.pureS rfl rfl rfl rfl (OpP.assign rfl) ?_
        refine RW.done rfl ?_
        refine G.sub (ρ' := [(0, _), (1, _), (2, _), (7, _), (9, _), (35, _)]) ⟨rfl, rfl, rfl, rfl, rfl, rfl, trivial⟩ ?_
        exact ih (i + 1) _ _ ⟨rfl, rfl, rfl, rfl, rfl, trivial⟩ ⟨hia, fin2 _ (by rw [hg]; rfl) g g6 (Ext.refl _ _) hg6⟩ (by omega)
    · have hie : i = a.length := by omega
      rw [List.take_of_length_le (by omega), List.drop_of_length_le (by omega), List.append_nil] at hov
      refine G.exit rfl rfl ?_
      refine G.seq rfl ?_
      refine G.reg Tryd.func48 rfl ?_
      refine RW.pureS rfl rfl rfl rfl (OpP.move rfl) ?_
      refine RW.pureS rfl rfl rfl rfl (OpP.assign rfl) ?_
      refine RW.done rfl ?_
      refine G.sub (ρ' := [(0, _), (1, _), (2, _), (6, _), (7, _), (9, _), (35, _)]) ⟨rfl, rfl, rfl, rfl, rfl, rfl, rfl, trivial⟩ ?_
      refine G.ret Tryd.func48 rfl rfl ?_
      refine ⟨_, rfl, ?_, eg⟩
      rw [stepR, htgt, hfin]
      exact hov

end Go.Proofs.YtlegopbpofofgaaDoor

/- Rules of the reference. -/
namespace Go.Proofs.YtlegopbpofofgaaDoor
open Go Go.Lw
set_option maxRecDepth 20000

def eRu : Elt RuP := ⟨1, by decide, fun h O cs r => ∃ rb, cs = [.pointer (some ⟨rb, 0, none⟩)] ∧ RuRd h O rb r, fun h => by obtain ⟨rb, rfl, _⟩ := h; rfl, fun h => by
    obtain ⟨rb, rfl, _⟩ := h
    intro u hu
    simp at hu; subst hu; rfl, fun h m => by
    obtain ⟨rb, hc, hv⟩ := h; exact ⟨rb, hc, hv.mv m⟩⟩

def rulesE : List By → Int
  | [] => 0
  | s :: r => if (parseE s).2 ≠ 0 then (parseE s).2 else rulesE r
def rulesP (l : List By) : Int := if l.length = 0 ∨ 64 < l.length then 2 else if rulesE l ≠ 0 then rulesE l else if 2000 < totL l then 70 else 0
def rulesR (l : List By) : List RuP := l.map fun s => ofP (parseE s).1

/-- What Rules hands back. -/
def RulesV (h h' : Heap) (l : List By) (r : Value) : Prop :=
  ∃ v, r = .tuple #[v, .int .i64 (rulesP l)] ∧ (rulesP l = 0 → SlR eRu h' (fun b => b < h.size) v (rulesR l))

theorem rules_calls {h : Heap} {rv : Value} {rules : List By} (hr : SlR eBy h (fun _ => False) rv rules) (hrl : ∀ s ∈ rules, s.length ≤ 1000000) :
    CallsH Tryd.prog 17 #[rv] h (Ret fun r h' => RulesV h h' rules r ∧ Ext0 h h') := by
  obtain ⟨oa, kn, kc, rfl, hsl⟩ := id hr.open
  have hkn := hsl.len
  have hkc := hsl.le
  have hcap := hsl.cap
  generalize htgt : rulesE rules = tgt
  refine CallsH.of Tryd.func17 rfl rfl ?_
  refine G.seq rfl ?_
  refine G.reg Tryd.func17 rfl ?_
  refine RW.pureS rfl rfl rfl rfl (OpP.assign rfl) ?_
  refine RW.pureS rfl rfl rfl rfl (OpP.assign rfl) ?_
  refine RW.done rfl ?_
  refine G.sub (ρ' := [(0, _), (2, _), (3, _)]) ⟨rfl, rfl, rfl, trivial⟩ ?_
  refine G.seq rfl ?_
  refine G.seq rfl ?_
  refine G.regTo1 [(16, .bool (decide (kn = 0 ∨ 64 < kn)))] [(0, _), (2, _), (3, _)] ⟨rfl, rfl, rfl, trivial⟩ Tryd.func17 rfl ?_ ?_
  · refine RW.pureS rfl rfl rfl rfl (OpP.move rfl) ?_
    refine RW.pureS rfl rfl rfl rfl (OpP.lenSlice Tryd.underlying22 rfl) ?_
    refine RW.pureS rfl rfl rfl rfl (OpP.eqlInt rfl rfl) ?_
    refine RW.pureS rfl rfl rfl rfl (OpP.move rfl) ?_
    refine RW.split (d := 12) rfl (fun hg => ?_) (fun hg => ?_)
    · refine RW.skipS rfl rfl rfl rfl ?_
      refine RW.skipS rfl rfl rfl rfl ?_
      refine RW.skipS rfl rfl rfl rfl ?_
      refine RW.pureS rfl rfl rfl rfl (OpP.pickT rfl rfl) ?_
      refine RW.done rfl ?_
      exact ⟨rfl, at_bool rfl (by have := of_decide_eq_true hg; simp; omega), rfl, rfl, rfl, trivial⟩
    · refine RW.pureS rfl rfl rfl rfl (OpP.move rfl) ?_
      refine RW.pureS rfl rfl rfl rfl (OpP.lenSlice Tryd.underlying22 rfl) ?_
      refine RW.pureS rfl rfl rfl rfl (OpP.gtr rfl rfl) ?_
      refine RW.pureS rfl rfl rfl rfl (OpP.pickF rfl rfl) ?_
      refine RW.done rfl ?_
      exact ⟨rfl, at_bool rfl (by have := of_decide_eq_false hg; simp only [decide_eq_decide]; omega), rfl, rfl, rfl, trivial⟩
  · refine G.ite rfl rfl (fun hbig => ?_) (fun hbig => ?_)
    · refine G.seq rfl ?_
      refine G.reg Tryd.func17 rfl ?_
      refine RW.pureS rfl rfl rfl rfl (OpP.assign rfl) ?_
      refine RW.pureS rfl rfl rfl rfl (OpP.assign rfl) ?_
      refine RW.done rfl ?_
      refine G.sub (ρ' := [(0, _), (2, _), (3, _), (16, _)]) ⟨rfl, rfl, rfl, rfl, trivial⟩ ?_
      refine G.ret Tryd.func17 rfl rfl ?_
      have hp : rulesP rules = 2 := by unfold rulesP; rw [if_pos (by omega)]
      exact ⟨_, rfl, ⟨_, by rw [hp]; rfl, fun k => by rw [hp] at k; cases k⟩, Ext.refl _ _⟩
    · have hp : rulesP rules = if rulesE rules ≠ 0 then rulesE rules else if 2000 < totL rules then 70 else 0 := by unfold rulesP; rw [if_neg (by omega)]
      rw [htgt] at hp
      refine G.skip rfl ?_
      refine G.seq rfl ?_
      refine G.reg Tryd.func17 rfl ?_
      refine RW.pureS rfl rfl rfl rfl (OpP.assign rfl) ?_
      refine RW.done rfl ?_
      refine G.sub (ρ' := [(0, _), (2, _), (3, _), (4, _), (16, _)]) ⟨rfl, rfl, rfl, rfl, rfl, trivial⟩ ?_
      refine G.seq rfl ?_
      refine G.reg Tryd.func17 rfl ?_
      refine RW.pureS rfl rfl rfl rfl (OpP.assign rfl) ?_
      refine RW.done rfl ?_
      refine G.sub (ρ' := [(0, _), (2, _), (3, _), (4, _), (5, _), (16, _)]) ⟨rfl, rfl, rfl, rfl, rfl, rfl, trivial⟩ ?_
      refine G.seq rfl ?_
      refine G.seq rfl ?_
      refine G.reg Tryd.func17 rfl ?_
      refine RW.pureS rfl rfl rfl rfl (OpP.assign rfl) ?_
      refine RW.done rfl ?_
      refine G.sub (ρ' := [(0, _), (2, _), (3, _), (4, _), (5, _), (6, _), (16, _)]) ⟨rfl, rfl, rfl, rfl, rfl, rfl, rfl, trivial⟩ ?_
      refine G.block rfl rfl ?_
      refine G.loop (σ := Nat × Value) (fun q => [(0, .slice oa kn kc), (4, q.2), (5, .int .i64 (totL (rules.take q.1) : Nat)), (6, .int .i64 (q.1 : Nat))]) (fun q h' => q.1 ≤ kn ∧ Ext0 h h' ∧ OwX eRu (fun b => b < h.size) h' h.size 58 q.2 (rulesR (rules.take q.1)) ∧ totL (rules.take q.1) ≤ 200 * q.1 ∧ rulesE (rules.drop q.1) = tgt) (fun q => kn - q.1) ((0, .slice none 0 0)) rfl ⟨rfl, rfl, rfl, rfl, trivial⟩ ⟨Nat.zero_le _, Ext.refl _ _, OwX.nil _ _ _ _ _, by simp [totL], htgt⟩ ?_
      rintro ⟨i, ov⟩ g ⟨hi, eg, hov, htot, hcon⟩ ih
      try dsimp only
      dsimp only at hi hov htot hcon
      have hzg := eg.size
      refine G.seq rfl ?_
      refine G.seq rfl ?_
      refine G.reg Tryd.func17 rfl ?_
      refine RW.pureS rfl rfl rfl rfl (OpP.move rfl) ?_
      refine RW.pureS rfl rfl rfl rfl (OpP.move rfl) ?_
      refine RW.pureS rfl rfl rfl rfl (OpP.lenSlice Tryd.underlying22 rfl) ?_
      refine RW.pureS rfl rfl rfl rfl (OpP.lss rfl rfl) ?_
      refine RW.done rfl ?_
      refine G.sub (ρ' := [(0, _), (4, _), (5, _), (6, _), (20, _)]) ⟨rfl, rfl, rfl, rfl, rfl, trivial⟩ ?_
      refine G.ite rfl rfl (fun hlt => ?_) (fun hlt => ?_)
      · obtain ⟨s, hs⟩ : ∃ s, rules[i]? = some s := ⟨_, List.getElem?_eq_getElem (by omega)⟩
        have hdr : rules.drop i = s :: rules.drop (i + 1) := by
          obtain ⟨hi', rfl⟩ := List.getElem?_eq_some_iff.1 hs
          exact List.drop_eq_getElem_cons hi'
        rw [hdr, rulesE] at hcon
        obtain ⟨oa', n', c', hv', _, _, _, hget⟩ := id (hr.ext0 eg)
        cases hv'
        obtain ⟨b, o, cs, ha, hob, hrow, rfl⟩ := hget i s hs
        refine G.skip rfl ?_
        refine G.seq rfl ?_
        refine G.block rfl rfl ?_
        refine G.seq rfl ?_
        refine G.reg Tryd.func17 rfl ?_
        refine RW.pureS rfl rfl rfl rfl (OpP.move rfl) ?_
        refine RW.pureS rfl rfl rfl rfl (OpP.move rfl) ?_
        refine RW.pureS rfl rfl rfl rfl (OpP.indexSlice Tryd.underlying22 H.sz9 rfl rfl i rfl ha (by omega)) ?_
        refine RW.pureS rfl rfl rfl rfl (OpP.load H.ag9 rfl (hrow 0 _ rfl)) ?_
        refine RW.opS rfl rfl rfl rfl (OpX.call (vs := [_]) Tryd.func42 rfl H.nm42 rfl (CallsH.toX (parseR_calls s (hrl s (List.mem_of_getElem? hs))))) ?_
        rintro _ g1 ⟨⟨w, rfl, hnd⟩, e01⟩
        refine RW.pureS rfl rfl rfl rfl (OpP.move rfl) ?_
        refine RW.pureS rfl rfl rfl rfl (OpP.extract rfl rfl) ?_
        refine RW.pureS rfl rfl rfl rfl (OpP.extract rfl rfl) ?_
        refine RW.opS rfl rfl rfl rfl (OpX.allocN H.zr94) ?_
        rintro _ g2 ⟨rfl, k9, e12, z12⟩
        refine RW.op0 rfl rfl rfl (OpX.storeBlk H.sz94 rfl rfl k9 rfl (by first | decide | exact of_decide_eq_true rfl | (simp; done) | (simp; omega)) (NdAt.one hnd)) ?_
        rintro _ g3 ⟨rfl, k9', e23, z23⟩
        refine RW.pureS rfl rfl rfl rfl (OpP.assign rfl) ?_
        refine RW.done rfl ?_
        refine G.sub (ρ' := [(0, _), (4, _), (5, _), (6, _), (7, _), (8, _), (20, _)]) ⟨rfl, rfl, rfl, rfl, rfl, rfl, rfl, trivial⟩ ?_
        refine G.seq rfl ?_
        refine G.seq rfl ?_
        refine G.reg Tryd.func17 rfl ?_
        refine RW.pureS rfl rfl rfl rfl (OpP.move rfl) ?_
        refine RW.pureS rfl rfl rfl rfl (OpP.neqInt rfl rfl) ?_
        refine RW.done rfl ?_
        refine G.sub (ρ' := [(0, _), (4, _), (5, _), (6, _), (7, _), (8, _), (20, _), (32, _)]) ⟨rfl, rfl, rfl, rfl, rfl, rfl, rfl, rfl, trivial⟩ ?_
        have k9' : Blk g3 g1.size 94 (ndC (parseE s).1.kind (parseE s).1.set w) := k9'
        have e13 : Ext0 g1 g3 := Ext0.only e12 e23 (Nat.le_refl _)
        have z01 := e01.size
        have z13 := e13.size
        refine G.ite rfl rfl (fun herr => ?_) (fun herr => ?_)
        · rw [if_pos (by exact herr)] at hcon
          have hp' : rulesP rules = (parseE s).2 := by rw [hp, ← hcon, if_pos herr]
          refine G.seq rfl ?_
          refine G.reg Tryd.func17 rfl ?_
          refine RW.pureS rfl rfl rfl rfl (OpP.move rfl) ?_
          refine RW.pureS rfl rfl rfl rfl (OpP.assign rfl) ?_
          refine RW.pureS rfl rfl rfl rfl (OpP.assign rfl) ?_
          refine RW.done rfl ?_
          refine G.sub (ρ' := [(0, _), (2, _), (3, _), (4, _), (5, _), (6, _), (7, _), (8, _), (20, _), (32, _)]) ⟨rfl, rfl, rfl, rfl, rfl, rfl, rfl, rfl, rfl, rfl, trivial⟩ ?_
          refine G.ret Tryd.func17 rfl rfl ?_
          exact ⟨_, rfl, ⟨_, by rw [hp']; rfl, fun k => by rw [hp'] at k; exact absurd k herr⟩, (eg.trans e01).trans e13⟩
        · have h0 : (parseE s).2 = 0 := by simpa using herr
          rw [if_neg (by simpa using h0)] at hcon
          have hsmall := parseE_small h0
          obtain ⟨css, hc1, hc2, hc3⟩ := id hov
          have hrl2 : (rulesR (rules.take i)).length = i := by simp [rulesR]; omega
          refine G.skip rfl ?_
          refine G.seq rfl ?_
          refine G.reg Tryd.func17 rfl ?_
          refine RW.pureS rfl rfl rfl rfl (OpP.move rfl) ?_
          refine RW.pureS rfl rfl rfl rfl (OpP.loadRowN H.ag94 H.sz94 rfl k9'.row (by first | rfl | simp)) ?_
          refine RW.opS rfl rfl rfl rfl (OpX.call (vs := [_]) Tryd.func43 rfl H.nm43 rfl (CallsH.toX (of_calls (hnd.ext0 e13) hsmall.2.1 (by omega)))) ?_
          rintro _ g4 ⟨rb, rfl, hrd, e34⟩
          have z34 := e34.size
          have e04 : Ext0 g g4 := (e01.trans e13).trans e34
          refine RW.opS rfl rfl rfl rfl (OpX.buildOnes (us := [_]) Tryd.underlying28 H.el58 rfl rfl (by decide) (by simp [Value.oneCell'])) ?_
          rintro _ _ ⟨rfl, rfl⟩
          refine RW.opS rfl rfl rfl rfl (OpX.appendNew Tryd.underlying28 H.el58 rfl rfl ((hc2.ext0' e04)) rfl rfl (by first | decide | simp [Value.oneCell']) (by omega) (by decide) (by omega)) ?_
          rintro v2 g6 ⟨ho6, hx6, hx6', hv6⟩
          have htk : rules.take (i + 1) = rules.take i ++ [s] := by rw [List.take_add_one, hs]; rfl
          have hrt : rulesR (rules.take (i + 1)) = rulesR (rules.take i) ++ [ofP (parseE s).1] := by rw [htk]; simp [rulesR]
          have hown : ∀ b, ov.ownBlock = some b → h.size ≤ b ∧ b < g.size := fun b hb => hc2.lt hb
          have hrow6 : OwX eRu (fun b => b < h.size) g6 h.size 58 v2 (rulesR (rules.take (i + 1))) := by
            rw [hrt]
            exact OwX.pushed (h := g4) (v := ov) (css := css) (cs := [.pointer (some ⟨rb, 0, none⟩)]) hc1 (fun j cs y a b => eRu.mv (hc3 j cs y a b) (Mv.ext0 e04)) ho6 hx6 hv6 ⟨rb, rfl, hrd.mv ⟨Nat.le_refl _, fun b hb hn => ⟨rfl, fun k => hn (by
              rcases k with k | k
              · have := hown b k.symm; omega
              · omega)⟩⟩⟩
          have htt := totL_take hs
          have e06 : Ext0 h g6 := ⟨by have := hx6.size; omega, fun b hb k => by
            rw [hx6.block b (by omega) (fun k2 => by have := hown b k2.symm; omega), e04.block b (by omega) (fun k => k)]; exact eg.block b hb k⟩
          obtain ⟨oa', n', c', hv', _, _, _, hget⟩ := id (hr.ext0 e06)
          cases hv'
          obtain ⟨b, o, cs, ha, hob, hrow, rfl⟩ := hget i s hs
          have hv5 : ((totL (rules.take i) : Nat) : Int) + ((bs s).size : Nat) = (totL (rules.take (i + 1)) : Nat) := by rw [bs_size s]; omega
          have hbs := bs_size s
          refine RW.pureS rfl rfl rfl rfl (OpP.assign rfl) ?_
          refine RW.done rfl ?_
          refine G.sub (ρ' := [(0, _), (4, _), (5, _), (6, _), (7, _), (8, _), (20, _), (32, _)]) ⟨rfl, rfl, rfl, rfl, rfl, rfl, rfl, rfl, trivial⟩ ?_
          refine G.reg Tryd.func17 rfl ?_
          refine RW.pureS rfl rfl rfl rfl (OpP.move rfl) ?_
          refine RW.pureS rfl rfl rfl rfl (OpP.move rfl) ?_
          refine RW.pureS rfl rfl rfl rfl (OpP.move rfl) ?_
          refine RW.pureS rfl rfl rfl rfl (OpP.indexSlice Tryd.underlying22 H.sz9 rfl rfl i rfl ha (by omega)) ?_
          refine RW.pureS rfl rfl rfl rfl (OpP.load H.ag9 rfl (hrow 0 _ rfl)) ?_
          refine RW.pureS rfl rfl rfl rfl (OpP.lenString Tryd.underlying9 rfl) ?_
          refine RW.pureS rfl rfl rfl rfl (OpP.add64 rfl rfl ⟨by omega, by omega⟩) ?_
          refine RW.pureS rfl rfl rfl rfl (OpP.assign rfl) ?_
          refine RW.done rfl ?_
          refine G.sub (ρ' := [(0, _), (4, _), (5, _), (6, _), (7, _), (8, _), (20, _), (32, _)]) ⟨rfl, rfl, rfl, rfl, rfl, rfl, rfl, rfl, trivial⟩ ?_
          refine G.blkEnd ?_
          refine G.reg Tryd.func17 rfl ?_
          refine RW.pureS rfl rfl rfl rfl (OpP.move rfl) ?_
          refine RW.pureS rfl rfl rfl rfl (OpP.add64 rfl rfl ⟨by omega, by omega⟩) ?_
          refine RW.pureS rfl rfl rfl rfl (OpP.assign rfl) ?_
          refine RW.done rfl ?_
          refine G.sub (ρ' := [(0, _), (4, _), (5, _), (6, _), (7, _), (8, _), (20, _), (32, _)]) ⟨rfl, rfl, rfl, rfl, rfl, rfl, rfl, rfl, trivial⟩ ?_
          exact ih (i + 1, v2) _ _ ⟨rfl, rfl, by rw [← hv5]; rfl, rfl, trivial⟩ ⟨by show i + 1 ≤ kn; omega, e06, hrow6, by show totL (rules.take (i + 1)) ≤ 200 * (i + 1); omega, hcon⟩ (by show kn - (i + 1) < kn - i; omega)
      · have hie : i = rules.length := by omega
        subst hie
        rw [List.take_length] at hov htot
        have hnil : rules.drop rules.length = [] := List.drop_length
        rw [hnil, rulesE] at hcon
        subst hcon
        rw [if_neg (by decide)] at hp
        refine G.exit rfl rfl ?_
        refine G.seq rfl ?_
        refine G.seq rfl ?_
        refine G.reg Tryd.func17 rfl ?_
        refine RW.pureS rfl rfl rfl rfl (OpP.move rfl) ?_
        refine RW.pureS rfl rfl rfl rfl (OpP.gtr rfl rfl) ?_
        refine RW.done rfl ?_
        refine G.sub (ρ' := [(0, _), (4, _), (5, _), (6, _), (20, _), (47, _)]) ⟨rfl, rfl, rfl, rfl, rfl, rfl, trivial⟩ ?_
        refine G.ite rfl rfl (fun hlong => ?_) (fun hlong => ?_)
        · rw [List.take_length] at hlong
          have hp' : rulesP rules = 70 := by rw [hp, if_pos (by omega)]
          refine G.seq rfl ?_
          refine G.reg Tryd.func17 rfl ?_
          refine RW.pureS rfl rfl rfl rfl (OpP.assign rfl) ?_
          refine RW.pureS rfl rfl rfl rfl (OpP.assign rfl) ?_
          refine RW.done rfl ?_
          refine G.sub (ρ' := [(0, _), (2, _), (3, _), (4, _), (5, _), (6, _), (20, _), (47, _)]) ⟨rfl, rfl, rfl, rfl, rfl, rfl, rfl, rfl, trivial⟩ ?_
          refine G.ret Tryd.func17 rfl rfl ?_
          exact ⟨_, rfl, ⟨_, by rw [hp']; rfl, fun k => by rw [hp'] at k; cases k⟩, eg⟩
        · rw [List.take_length] at hlong
          have hp' : rulesP rules = 0 := by rw [hp, if_neg (by omega)]
          refine G.skip rfl ?_
          refine G.seq rfl ?_
          refine G.reg Tryd.func17 rfl ?_
          refine RW.pureS rfl rfl rfl rfl (OpP.move rfl) ?_
          refine RW.pureS rfl rfl rfl rfl (OpP.assign rfl) ?_
          refine RW.pureS rfl rfl rfl rfl (OpP.assign rfl) ?_
          refine RW.done rfl ?_
          refine G.sub (ρ' := [(0, _), (2, _), (3, _), (4, _), (5, _), (6, _), (20, _), (47, _)]) ⟨rfl, rfl, rfl, rfl, rfl, rfl, rfl, rfl, trivial⟩ ?_
          refine G.ret Tryd.func17 rfl rfl ?_
          exact ⟨_, rfl, ⟨_, by rw [hp']; rfl, fun _ => hov.read (fun b hb k => by omega) (fun b _ k => k)⟩, eg⟩

end Go.Proofs.YtlegopbpofofgaaDoor
