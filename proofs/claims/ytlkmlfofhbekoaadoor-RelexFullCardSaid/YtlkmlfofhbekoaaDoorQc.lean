/- Plain words, the logic of walks, and walks that the statement's proof leans on (part 3). -/
import Derived.Lib.DecodeN
import Derived.Lib.IndexMore
import Derived.Test.YtlkmlfofhbekoaaDoorQa
import Derived.Test.YtlkmlfofhbekoaaDoorQb

namespace Go.Proofs.YtlkmlfofhbekoaaDoor
open Go
def lexM (m : Int) (l : By) : Int × Int := if m = 0 then matchP ste0 53 l else if m = 1 then matchP ste1 10 l else if m = 2 then matchP ste2 11 l else (0, -1)
def kindT (m : Int) : List (Int × Int) := if m = 0 then [(1, 0), (2, 0), (3, 0), (5, 0), (11, 0), (11, 3), (9, 1), (7, 0), (8, 0), (6, 0)] else if m = 1 then [(9, 0), (10, 0), (9, 2), (9, 0)] else if m = 2 then [(11, 3), (11, 4), (11, 0), (11, 0)] else []
def findT (m n : Int) : Option (Int × Int) := if n < 0 then none else (kindT m)[n.toNat]?
def kindP (m n : Int) : Int := match findT m n with | some p => p.1 | none => 0
abbrev LSt := Int × Int
def afterP (s : LSt) (n : Int) : LSt := match findT s.1 n with
 | none => s
 | some p => if p.2 = 0 then s else if p.2 = 1 then (1, 0) else if p.2 = 3 then (2, min (max s.2 0) 16383 + 1) else if p.2 = 4 ∧ 1 < s.2 then (s.1, s.2 - 1) else (0, 0)
def wordsB : By := [32, 105, 102, 32, 101, 108, 115, 101, 32, 108, 101, 116, 32, 105, 110, 32, 102, 117, 110, 32, 116, 114, 117, 101, 32, 102, 97, 108, 115, 101, 32, 97, 110, 100, 32, 111, 114, 32, 110, 111, 116, 32]
def wordP (s : By) : Bool := decide (s ≠ []) && (!Lib.contains s [32] && Lib.contains wordsB (32 :: (s ++ [32])))
def runeN (l : By) : Nat := (Lib.decodeN l.length (l.getD 0 0).toNat (l.getD 1 0).toNat (l.getD 2 0).toNat (l.getD 3 0).toNat).2
def lenP (l : By) (m : Int) : Nat := if (lexM m l).1 = 0 then runeN l else (lexM m l).1.toNat
def kndP (l : By) (m : Int) : Int := if (lexM m l).1 = 0 then 0 else if kindP m (lexM m l).2 = 3 ∧ wordP (l.take (lexM m l).1.toNat) = true then 4 else kindP m (lexM m l).2
def nxtP (l : By) (st : LSt) : LSt := if (lexM st.1 l).1 = 0 then st else afterP st (lexM st.1 l).2
abbrev Tk := Int × Int × Int
def allG : Nat → By → Nat → LSt → List Tk × LSt
 | 0, _, _, st => ([], st)
 | n + 1, l, at_, st => if l = [] then ([], st) else
  (((kndP l st.1, (at_ : Int), ((at_ + lenP l st.1 : Nat) : Int)) : Tk) :: (allG n (l.drop (lenP l st.1)) (at_ + lenP l st.1) (nxtP l st)).1, (allG n (l.drop (lenP l st.1)) (at_ + lenP l st.1) (nxtP l st)).2)
def allP (s : By) : List Tk × LSt := allG s.length s 0 (0, 0)
theorem decodeN_ge (n b0 b1 b2 b3 : Nat) : 1 ≤ (Lib.decodeN n b0 b1 b2 b3).2 := by
 unfold Lib.decodeN
 repeat' split
 all_goals simp
theorem decodeN_le (n b0 b1 b2 b3 : Nat) (hn : 1 ≤ n) : (Lib.decodeN n b0 b1 b2 b3).2 ≤ n := by
 unfold Lib.decodeN
 repeat' split
 all_goals (simp only; omega)
theorem rune_len {l : By} (h : l ≠ []) : 1 ≤ runeN l ∧ runeN l ≤ l.length := ⟨decodeN_ge _ _ _ _ _, decodeN_le _ _ _ _ _ (List.length_pos_iff.2 h)⟩
theorem made0 : Made rules0 ste0 53 := makeP_made mk0
theorem made1 : Made rules1 ste1 10 := makeP_made mk1
theorem made2 : Made rules2 ste2 11 := makeP_made mk2
theorem lexM_len (m : Int) (l : By) : 0 ≤ (lexM m l).1 ∧ (lexM m l).1 ≤ l.length := by
 have key : ∀ {rules : List By} {ss : List Ste} {st : Nat}, Made rules ss st → 0 ≤ (matchP ss st l).1 ∧ (matchP ss st l).1 ≤ l.length := fun k => by
  rcases matchP_spec k l with ⟨e, _⟩ | ⟨n, r, e, hn, _⟩
  · rw [e]; simp
  · rw [e]; simp only; omega
 unfold lexM
 split
 · exact key made0
 · split
   · exact key made1
   · split
     · exact key made2
     · simp
theorem lenP_len {l : By} (h : l ≠ []) (m : Int) : 1 ≤ lenP l m ∧ lenP l m ≤ l.length := by
 have h1 := lexM_len m l
 have h2 := rune_len h
 unfold lenP
 split
 · exact h2
 · omega
theorem allG_more : ∀ (n k : Nat) (l : By) (a : Nat) (st : LSt), l.length ≤ n → l.length ≤ k → allG n l a st = allG k l a st
 | 0, 0, _, _, _, _, _ => rfl
 | 0, k + 1, l, a, st, h, _ => by
  have : l = [] := List.length_eq_zero_iff.1 (by omega)
  rw [allG, allG, if_pos this]
 | n + 1, 0, l, a, st, _, h => by
  have : l = [] := List.length_eq_zero_iff.1 (by omega)
  rw [allG, allG, if_pos this]
 | n + 1, k + 1, l, a, st, h1, h2 => by
  rw [allG, allG]
  by_cases hl : l = []
  · rw [if_pos hl, if_pos hl]
  · have := lenP_len hl st.1
    rw [if_neg hl, if_neg hl, allG_more n k _ _ _ (by rw [List.length_drop]; omega) (by rw [List.length_drop]; omega)]
theorem dmatch_more {d : Tab} : ∀ (l x : By) (s k : Nat) (b : Int × Int), (dmatchG d l s k b).2.2 < ((k + l.length : Nat) : Int) → dmatchG d (l ++ x) s k b = dmatchG d l s k b
 | [], x, s, k, b, h => by
  exfalso
  rw [dmatchG] at h
  split at h
  · simp only [List.length_nil, Nat.add_zero] at h; omega
  · simp only [List.length_nil, Nat.add_zero] at h; omega
 | c :: l, x, s, k, b, h => by
  rw [List.cons_append, dmatchG, dmatchG]
  rw [dmatchG] at h
  split
  · rename_i hp
    rw [if_pos hp] at h
    exact dmatch_more l x _ _ _ (by rw [List.length_cons] at h; rw [show k + 1 + l.length = k + (l.length + 1) by omega]; exact h)
  · rfl
theorem mode_more {rules : List By} {ss : List Ste} {st : Nat} (hm : makeP rules = .inr (ss, st)) {H : List (List Nat × Nat)} {tab reps : List UInt8} (hr : chkReps ss tab reps = true) (ha : chkAll ss H reps = true) (hs : htOf H (startP ss st) = some 0 ∧ startP ss st ≠ [] ∧ ¬ 0 ≤ acceptsP ss (startP ss st)) (hH : H.length ≤ 2000) :
 ∃ d, dmakeP ss st = .inr d ∧ (∀ l, (dmatchG d l 0 0 (0, -1)).2.2 ≤ (matchP ss st l).1 + 2) ∧ ∀ l x : By, (matchP ss st l).1 + 2 < l.length → matchP ss st (l ++ x) = matchP ss st l := by
 have hM := makeP_made hm
 have hmem := htOf_mem hs.1
 obtain ⟨d, hd⟩ := dmakeP_some (chk_shut hr ha) (by simpa using hH) (fun e => hs.2.1 (List.length_eq_zero_iff.1 e)) (List.mem_map.2 ⟨_, hmem, rfl⟩)
 obtain ⟨_, L, h1, h2, _⟩ := dmakeP_lists hd
 have hst := hM.stl
 have hmt := fun l => dmakeP_match hd (by omega) l
 have h2s : ∀ l, (dmatchG d l 0 0 (0, -1)).2.2 ≤ (dmatchG d l 0 0 (0, -1)).1 + 2 := fun l => steps_two h1 h2 hr ha l 0 0 (0, -1) _ 0 h1.first hmem (by rw [if_neg hs.2.2]; simp)
 have hmt1 : ∀ l, (dmatchG d l 0 0 (0, -1)).1 = (matchP ss st l).1 := fun l => by have := hmt l; rw [← this]
 refine ⟨d, hd, fun l => by rw [← hmt1]; exact h2s l, fun l x hlt => ?_⟩
 have := h2s l
 rw [hmt1] at this
 rw [← hmt (l ++ x), ← hmt l, dmatch_more l x 0 0 (0, -1) (by rw [Nat.zero_add]; omega)]
theorem ht_size : ht0.length ≤ 2000 ∧ ht1.length ≤ 2000 ∧ ht2.length ≤ 2000 := by decide
theorem lexM_more (m : Int) (l x : By) (h : (lexM m l).1 + 2 < l.length) : lexM m (l ++ x) = lexM m l := by
 obtain ⟨_, _, _, h0⟩ := mode_more mk0 chkR0 chkA0 chkS0 ht_size.1
 obtain ⟨_, _, _, h1⟩ := mode_more mk1 chkR1 chkA1 chkS1 ht_size.2.1
 obtain ⟨_, _, _, h2⟩ := mode_more mk2 chkR2 chkA2 chkS2 ht_size.2.2
 unfold lexM at h ⊢
 split
 · rename_i e; rw [if_pos e] at h; exact h0 l x h
 · rename_i e; rw [if_neg e] at h
   split
   · rename_i e; rw [if_pos e] at h; exact h1 l x h
   · rename_i e; rw [if_neg e] at h
     split
     · rename_i e; rw [if_pos e] at h; exact h2 l x h
     · rfl
theorem rune_more {l x : By} (h : 4 ≤ l.length) : runeN (l ++ x) = runeN l := by
 have hg : ∀ i, i < 4 → (l ++ x).getD i 0 = l.getD i 0 := fun i hi => by rw [List.getD_eq_getElem?_getD, List.getD_eq_getElem?_getD, List.getElem?_append_left (by omega)]
 unfold runeN
 rw [hg 0 (by decide), hg 1 (by decide), hg 2 (by decide), hg 3 (by decide), List.length_append]
 have key : ∀ n k b0 b1 b2 b3 : Nat, 4 ≤ n → Lib.decodeN (n + k) b0 b1 b2 b3 = Lib.decodeN n b0 b1 b2 b3 := fun n k b0 b1 b2 b3 hn => by
  have e1 : (1 < n + k) = (1 < n) := propext ⟨fun _ => by omega, fun _ => by omega⟩
  have e2 : (2 < n + k) = (2 < n) := propext ⟨fun _ => by omega, fun _ => by omega⟩
  have e3 : (3 < n + k) = (3 < n) := propext ⟨fun _ => by omega, fun _ => by omega⟩
  simp only [Lib.decodeN, e1, e2, e3]
 rw [key _ _ _ _ _ _ h]
theorem one_more {l : By} (h0 : l ≠ []) (x : By) (st : LSt) (h : lenP l st.1 + 2 < l.length) : lenP (l ++ x) st.1 = lenP l st.1 ∧ kndP (l ++ x) st.1 = kndP l st.1 ∧ nxtP (l ++ x) st = nxtP l st := by
 have hl := lexM_len st.1 l
 have hr := rune_len h0
 have hm : lexM st.1 (l ++ x) = lexM st.1 l := by
  refine lexM_more st.1 l x ?_
  unfold lenP at h
  split at h
  · omega
  · omega
 unfold lenP kndP nxtP
 rw [hm]
 unfold lenP at h
 split at h
 · rename_i e
   simp only [if_pos e]
   exact ⟨rune_more (by omega), trivial, trivial⟩
 · rename_i e
   simp only [if_neg e]
   rw [List.take_append_of_le_length (by omega)]
   exact ⟨trivial, rfl, trivial⟩
theorem allG_nil (n a : Nat) (st : LSt) : allG n [] a st = ([], st) := by cases n <;> simp [allG]
theorem allG_step {n : Nat} {l : By} (hl : l ≠ []) (hn : l.length ≤ n) (a : Nat) (st : LSt) :
 allG n l a st = ((kndP l st.1, (a : Int), ((a + lenP l st.1 : Nat) : Int)) :: (allG n (l.drop (lenP l st.1)) (a + lenP l st.1) (nxtP l st)).1, (allG n (l.drop (lenP l st.1)) (a + lenP l st.1) (nxtP l st)).2) := by
 have hp := List.length_pos_iff.2 hl
 have hk := lenP_len hl st.1
 obtain ⟨m, rfl⟩ : ∃ m, n = m + 1 := ⟨n - 1, by omega⟩
 rw [allG_more (m + 1) (m + 1) (l.drop (lenP l st.1)) _ _ (by rw [List.length_drop]; omega) (by rw [List.length_drop]; omega), ← allG_more m (m + 1) (l.drop (lenP l st.1)) (a + lenP l st.1) (nxtP l st) (by rw [List.length_drop]; omega) (by rw [List.length_drop]; omega)]
 rw [allG, if_neg hl]
def stsG : Nat → By → LSt → List LSt
 | 0, _, st => [st]
 | n + 1, l, st => if l = [] then [st] else st :: stsG n (l.drop (lenP l st.1)) (nxtP l st)
def stsP (s : By) : List LSt := stsG s.length s (0, 0)
theorem stsG_more : ∀ (n k : Nat) (l : By) (st : LSt), l.length ≤ n → l.length ≤ k → stsG n l st = stsG k l st
 | 0, 0, _, _, _, _ => rfl
 | 0, k + 1, l, st, h, _ => by
  have : l = [] := List.length_eq_zero_iff.1 (by omega)
  rw [stsG, stsG, if_pos this]
 | n + 1, 0, l, st, _, h => by
  have : l = [] := List.length_eq_zero_iff.1 (by omega)
  rw [stsG, stsG, if_pos this]
 | n + 1, k + 1, l, st, h1, h2 => by
  rw [stsG, stsG]
  by_cases hl : l = []
  · rw [if_pos hl, if_pos hl]
  · have := lenP_len hl st.1
    rw [if_neg hl, if_neg hl, stsG_more n k _ _ (by rw [List.length_drop]; omega) (by rw [List.length_drop]; omega)]
theorem stsG_step {n : Nat} {l : By} (hl : l ≠ []) (hn : l.length ≤ n) (st : LSt) : stsG n l st = st :: stsG n (l.drop (lenP l st.1)) (nxtP l st) := by
 have hp := List.length_pos_iff.2 hl
 have hk := lenP_len hl st.1
 obtain ⟨m, rfl⟩ : ∃ m, n = m + 1 := ⟨n - 1, by omega⟩
 rw [stsG_more (m + 1) m (l.drop (lenP l st.1)) _ (by rw [List.length_drop]; omega) (by rw [List.length_drop]; omega), stsG, if_neg hl]
theorem sts_last : ∀ (n a : Nat) (l : By) (st : LSt), (stsG n l st).getLast? = some (allG n l a st).2 ∧ (stsG n l st).length = (allG n l a st).1.length + 1
 | 0, a, l, st => ⟨rfl, rfl⟩
 | n + 1, a, l, st => by
  rw [stsG, allG]
  by_cases hl : l = []
  · rw [if_pos hl, if_pos hl]; exact ⟨rfl, rfl⟩
  · rw [if_neg hl, if_neg hl]
    obtain ⟨h1, h2⟩ := sts_last n (a + lenP l st.1) (l.drop (lenP l st.1)) (nxtP l st)
    refine ⟨?_, by simp [h2]⟩
    rw [List.getLast?_cons, h1]; rfl
theorem allG_len : ∀ (n : Nat) (l : By) (a : Nat) (st : LSt), (allG n l a st).1.length ≤ l.length
 | 0, l, a, st => by simp [allG]
 | n + 1, l, a, st => by
  rw [allG]
  split
  · simp
  · rename_i h
    have h1 := lenP_len h st.1
    have h2 := allG_len n (l.drop (lenP l st.1)) (a + lenP l st.1) (nxtP l st)
    rw [List.length_drop] at h2
    simp only [List.length_cons]
    omega
theorem lexM_mono (m : Int) (l x : By) : (lexM m l).1 ≤ (lexM m (l ++ x)).1 := by
 have key : ∀ {rules : List By} {ss : List Ste} {st : Nat}, Made rules ss st → (matchP ss st l).1 ≤ (matchP ss st (l ++ x)).1 := fun k => by
  have h1 := matchP_spec k l
  have h2 := matchP_spec k (l ++ x)
  rcases h1 with ⟨e, _⟩ | ⟨n, r, e, hn, hp, _⟩
  · rw [e]
    rcases h2 with ⟨e2, _⟩ | ⟨n2, r2, e2, _⟩ <;> rw [e2] <;> simp
  · have hp' : ∃ s, _ := hp
    rw [show l.take n = (l ++ x).take n by rw [List.take_append_of_le_length hn]] at hp'
    rcases h2 with ⟨e2, h2⟩ | ⟨n2, r2, e2, hn2, hp2, h3, _⟩
    · exact absurd hp' (h2 n r (by rw [List.length_append]; omega))
    · have := h3 n r (by rw [List.length_append]; omega) hp'
      rw [e, e2]; simp only; omega
 unfold lexM
 split
 · exact key made0
 · split
   · exact key made1
   · split
     · exact key made2
     · simp
theorem one_less {l : By} (h0 : l ≠ []) (x : By) (st : LSt) (h : lenP (l ++ x) st.1 + 2 < l.length) : lenP (l ++ x) st.1 = lenP l st.1 ∧ kndP (l ++ x) st.1 = kndP l st.1 ∧ nxtP (l ++ x) st = nxtP l st := by
 have hm := lexM_mono st.1 l x
 have hl := lexM_len st.1 l
 refine one_more h0 x st ?_
 unfold lenP at h ⊢
 split at h
 · rename_i e
   have hr := rune_len (l := l ++ x) (by simp [h0])
   have e0 : (lexM st.1 l).1 = 0 := by omega
   rw [if_pos e0, ← rune_more (l := l) (x := x) (by omega)]
   exact h
 · rename_i e
   split
   · rename_i e0
     have hr := rune_len h0
     by_cases h4 : 4 ≤ l.length
     · by_cases hx : runeN l + 2 < l.length
       · exact hx
       · exfalso
         have hmo := lexM_more st.1 l x (by omega)
         rw [hmo] at e; exact e e0
     · exfalso
       have hmo := lexM_more st.1 l x (by omega)
       rw [hmo] at e; exact e e0
   · omega
theorem one_agree {l : By} (h0 : l ≠ []) (x y : By) (st : LSt) (h : lenP (l ++ x) st.1 + 2 < l.length) : lenP (l ++ y) st.1 = lenP (l ++ x) st.1 ∧ kndP (l ++ y) st.1 = kndP (l ++ x) st.1 ∧ nxtP (l ++ y) st = nxtP (l ++ x) st := by
 have h1 := one_less h0 x st h
 have h2 := one_more h0 y st (by rw [← h1.1]; exact h)
 exact ⟨h2.1.trans h1.1.symm, h2.2.1.trans h1.2.1.symm, h2.2.2.trans h1.2.2.symm⟩
def goG : Nat → By → Nat → LSt → Nat × LSt
 | 0, _, a, st => (a, st)
 | j + 1, l, a, st => if l = [] then (a, st) else goG j (l.drop (lenP l st.1)) (a + lenP l st.1) (nxtP l st)
theorem goG_ge : ∀ (j : Nat) (l : By) (a : Nat) (st : LSt), a ≤ (goG j l a st).1 ∧ (goG j l a st).1 ≤ a + l.length
 | 0, l, a, st => ⟨Nat.le_refl _, by simp [goG]⟩
 | j + 1, l, a, st => by
  rw [goG]
  split
  · simp
  · rename_i h
    have h1 := lenP_len h st.1
    have h2 := goG_ge j (l.drop (lenP l st.1)) (a + lenP l st.1) (nxtP l st)
    rw [List.length_drop] at h2
    omega
theorem go_all : ∀ (j n : Nat) (l : By) (a : Nat) (st : LSt), l.length ≤ n → j ≤ (allG n l a st).1.length →
 (allG n l a st) = ((allG n l a st).1.take j ++ (allG n (l.drop ((goG j l a st).1 - a)) (goG j l a st).1 (goG j l a st).2).1, (allG n (l.drop ((goG j l a st).1 - a)) (goG j l a st).1 (goG j l a st).2).2) ∧
 stsG n l st = (stsG n l st).take j ++ stsG n (l.drop ((goG j l a st).1 - a)) (goG j l a st).2
 | 0, n, l, a, st, hn, hj => by simp [goG]
 | j + 1, n, l, a, st, hn, hj => by
  by_cases h0 : l = []
  · subst h0; rw [allG_nil] at hj; simp at hj
  · have h1 := lenP_len h0 st.1
    rw [allG_step h0 hn] at hj ⊢
    rw [stsG_step h0 hn, goG, if_neg h0]
    obtain ⟨e1, e2⟩ := go_all j n (l.drop (lenP l st.1)) (a + lenP l st.1) (nxtP l st) (by rw [List.length_drop]; omega) (by simpa using hj)
    have hg := goG_ge j (l.drop (lenP l st.1)) (a + lenP l st.1) (nxtP l st)
    generalize goG j (l.drop (lenP l st.1)) (a + lenP l st.1) (nxtP l st) = q at *
    rw [List.drop_drop, show lenP l st.1 + (q.1 - (a + lenP l st.1)) = q.1 - a by omega] at e1 e2
    refine ⟨?_, ?_⟩
    · rw [Prod.mk.injEq]
      refine ⟨?_, ?_⟩
      · rw [List.take_succ_cons, List.cons_append]
        congr 1
        have := congrArg Prod.fst e1; exact this
      · have := congrArg Prod.snd e1; exact this
    · rw [List.take_succ_cons, List.cons_append]
      congr 1
theorem tok_at : ∀ (j n : Nat) (l : By) (a : Nat) (st : LSt), l.length ≤ n → j < (allG n l a st).1.length → (goG j l a st).1 < a + l.length ∧
 (allG n l a st).1[j]? = some (kndP (l.drop ((goG j l a st).1 - a)) (goG j l a st).2.1, ((goG j l a st).1 : Int), (((goG j l a st).1 + lenP (l.drop ((goG j l a st).1 - a)) (goG j l a st).2.1 : Nat) : Int)) ∧ (stsG n l st)[j]? = some (goG j l a st).2 ∧
 (goG (j + 1) l a st).1 = (goG j l a st).1 + lenP (l.drop ((goG j l a st).1 - a)) (goG j l a st).2.1 ∧ (goG (j + 1) l a st).2 = nxtP (l.drop ((goG j l a st).1 - a)) (goG j l a st).2 := fun j n l a st hn hj => by
 induction j generalizing l a st with
 | zero =>
  by_cases h0 : l = []
  · subst h0; rw [allG_nil] at hj; simp at hj
  · have := List.length_pos_iff.2 h0
    rw [allG_step h0 hn, stsG_step h0 hn]
    simp [goG, h0]; omega
 | succ j ih =>
  by_cases h0 : l = []
  · subst h0; rw [allG_nil] at hj; simp at hj
  · have h1 := lenP_len h0 st.1
    rw [allG_step h0 hn] at hj ⊢
    rw [stsG_step h0 hn]
    have hih := ih (l.drop (lenP l st.1)) (a + lenP l st.1) (nxtP l st) (by rw [List.length_drop]; omega) (by simpa using hj)
    have hg := goG_ge j (l.drop (lenP l st.1)) (a + lenP l st.1) (nxtP l st)
    have e1 : goG (j + 1) l a st = goG j (l.drop (lenP l st.1)) (a + lenP l st.1) (nxtP l st) := by rw [goG, if_neg h0]
    have e2 : goG (j + 1 + 1) l a st = goG (j + 1) (l.drop (lenP l st.1)) (a + lenP l st.1) (nxtP l st) := by rw [goG, if_neg h0]
    rw [e2, e1]
    generalize goG (j + 1) (l.drop (lenP l st.1)) (a + lenP l st.1) (nxtP l st) = q2 at *
    generalize goG j (l.drop (lenP l st.1)) (a + lenP l st.1) (nxtP l st) = q at *
    rw [List.drop_drop, List.length_drop, show lenP l st.1 + (q.1 - (a + lenP l st.1)) = q.1 - a by omega] at hih
    refine ⟨by omega, ?_, ?_, hih.2.2.2⟩
    · simpa using hih.2.1
    · simpa using hih.2.2.1
theorem pre_agree : ∀ (j n n' : Nat) (A x y : By) (a : Nat) (st : LSt), (A ++ x).length ≤ n → (A ++ y).length ≤ n' → j ≤ (allG n (A ++ x) a st).1.length → (j = 0 ∨ (goG j (A ++ x) a st).1 + 2 < a + A.length) →
 goG j (A ++ y) a st = goG j (A ++ x) a st ∧ j ≤ (allG n' (A ++ y) a st).1.length ∧ (allG n' (A ++ y) a st).1.take j = (allG n (A ++ x) a st).1.take j ∧ (stsG n' (A ++ y) st).take j = (stsG n (A ++ x) st).take j
 | 0, n, n', A, x, y, a, st, _, _, _, _ => by simp [goG]
 | j + 1, n, n', A, x, y, a, st, hn, hn', hj, hg => by
  have hg := hg.resolve_left (by omega)
  by_cases h0 : A ++ x = []
  · rw [h0, allG_nil] at hj; simp at hj
  · have h1 := lenP_len h0 st.1
    have e1 : goG (j + 1) (A ++ x) a st = goG j ((A ++ x).drop (lenP (A ++ x) st.1)) (a + lenP (A ++ x) st.1) (nxtP (A ++ x) st) := by rw [goG, if_neg h0]
    have hgg := goG_ge j ((A ++ x).drop (lenP (A ++ x) st.1)) (a + lenP (A ++ x) st.1) (nxtP (A ++ x) st)
    rw [← e1] at hgg
    have hA : A ≠ [] := fun e => by subst e; simp only [List.length_nil] at hg; omega
    have hlt : lenP (A ++ x) st.1 + 2 < A.length := by omega
    obtain ⟨g1, g2, g3⟩ := one_agree hA x y st hlt
    have h0y : A ++ y ≠ [] := by simp [hA]
    have e2 : goG (j + 1) (A ++ y) a st = goG j ((A ++ y).drop (lenP (A ++ y) st.1)) (a + lenP (A ++ y) st.1) (nxtP (A ++ y) st) := by rw [goG, if_neg h0y]
    have dx : (A ++ x).drop (lenP (A ++ x) st.1) = A.drop (lenP (A ++ x) st.1) ++ x := List.drop_append_of_le_length (by omega)
    have dy : (A ++ y).drop (lenP (A ++ x) st.1) = A.drop (lenP (A ++ x) st.1) ++ y := List.drop_append_of_le_length (by omega)
    rw [allG_step h0 hn] at hj
    rw [allG_step h0 hn, allG_step h0y hn', stsG_step h0 hn, stsG_step h0y hn', e1, e2, g1, g2, g3, dx, dy]
    rw [dx] at hj e1
    have hle := h1.2
    generalize lenP (A ++ x) st.1 = L at *
    generalize nxtP (A ++ x) st = nx at *
    simp only [List.length_append] at hn hn' hle
    obtain ⟨k1, k2, k3, k4⟩ := pre_agree j n n' (A.drop L) x y (a + L) nx (by simp; omega) (by simp; omega) (by simpa using hj) (.inr (by rw [e1] at hg; simp only [List.length_drop]; omega))
    refine ⟨k1, by simpa using k2, ?_, ?_⟩
    · simp only [List.take_succ_cons]; rw [k3]
    · simp only [List.take_succ_cons]; rw [k4]
def shT (d : Int) (t : Tk) : Tk := (t.1, t.2.1 + d, t.2.2 + d)
theorem allG_shift (d : Int) : ∀ (n : Nat) (l : By) (a b : Nat) (st : LSt), (b : Int) = a + d → allG n l b st = ((allG n l a st).1.map (shT d), (allG n l a st).2)
 | 0, l, a, b, st, h => rfl
 | n + 1, l, a, b, st, h => by
  rw [allG, allG]
  split
  · rfl
  · rw [allG_shift d n (l.drop (lenP l st.1)) (a + lenP l st.1) (b + lenP l st.1) (nxtP l st) (by omega)]
    simp only [List.map_cons, shT, Prod.mk.injEq, List.cons.injEq, and_true, true_and]
    omega
theorem go_lt {j i n : Nat} {l : By} {a : Nat} {st : LSt} (hn : l.length ≤ n) (hi : i < (allG n l a st).1.length) (h : j < i) : (goG j l a st).1 < (goG i l a st).1 := by
 induction i with
 | zero => omega
 | succ i ih =>
  obtain ⟨h1, h2, h3, h4, h5⟩ := tok_at i n l a st hn (by omega)
  have hg := goG_ge i l a st
  have hne : l.drop ((goG i l a st).1 - a) ≠ [] := fun e => by have := congrArg List.length e; rw [List.length_drop] at this; simp at this; omega
  have hl := lenP_len hne (goG i l a st).2.1
  rcases Nat.lt_or_ge j i with h6 | h6
  · have := ih (by omega) h6; omega
  · obtain rfl : j = i := by omega
    omega
abbrev Pt := Int × LSt
def ptsG : List Tk → List LSt → Int → List Pt
 | t :: ts, s :: ss, a => if a + 64 ≤ t.2.1 then (t.2.1, s) :: ptsG ts ss t.2.1 else ptsG ts ss a
 | _, _, _ => []
def sts0 (s : By) : List LSt := (stsP s).dropLast
def ptsP (s : By) : List Pt := (0, (0, 0)) :: ptsG (allP s).1 (sts0 s) 0
theorem stsP_len (s : By) : (stsP s).length = (allP s).1.length + 1 := (sts_last s.length 0 s (0, 0)).2
theorem stsP_end (s : By) : stsP s = sts0 s ++ [(allP s).2] := by
 have h1 := sts_last s.length 0 s (0, 0)
 have h2 : (stsP s).getLast? = some (allP s).2 := h1.1
 have h0 : stsP s ≠ [] := fun e => by rw [e] at h2; cases h2
 rw [List.getLast?_eq_some_getLast h0] at h2
 have := List.dropLast_concat_getLast h0
 rw [Option.some.inj h2] at this
 exact this.symm
theorem sts0_len (s : By) : (sts0 s).length = (allP s).1.length := by unfold sts0; rw [List.length_dropLast, stsP_len]; omega
theorem sts0_at {s : By} {j : Nat} (hj : j < (allP s).1.length) : (sts0 s)[j]? = (stsP s)[j]? := by
 rw [stsP_end, List.getElem?_append_left (by rw [sts0_len]; exact hj)]
def TokB (s : By) (a : Nat) (st : LSt) : Prop := ∃ j, j < (allP s).1.length ∧ (goG j s 0 (0, 0)) = (a, st)
theorem tokP {s : By} {j : Nat} (hj : j < (allP s).1.length) : (goG j s 0 (0, 0)).1 < s.length ∧
 (allP s).1[j]? = some (kndP (s.drop (goG j s 0 (0, 0)).1) (goG j s 0 (0, 0)).2.1, ((goG j s 0 (0, 0)).1 : Int), (((goG j s 0 (0, 0)).1 + lenP (s.drop (goG j s 0 (0, 0)).1) (goG j s 0 (0, 0)).2.1 : Nat) : Int)) ∧
 (stsP s)[j]? = some (goG j s 0 (0, 0)).2 ∧ (goG (j + 1) s 0 (0, 0)).1 = (goG j s 0 (0, 0)).1 + lenP (s.drop (goG j s 0 (0, 0)).1) (goG j s 0 (0, 0)).2.1 ∧ (goG (j + 1) s 0 (0, 0)).2 = nxtP (s.drop (goG j s 0 (0, 0)).1) (goG j s 0 (0, 0)).2 := by
 have := tok_at j s.length s 0 (0, 0) (Nat.le_refl _) hj
 rw [Nat.sub_zero, Nat.zero_add] at this
 exact this
theorem tok_from {s : By} {j : Nat} {t : Tk} (ht : (allP s).1[j]? = some t) : t.2.1 = (goG j s 0 (0, 0)).1 := by
 have hj := (List.getElem?_eq_some_iff.1 ht).1
 have := (tokP hj).2.1
 rw [ht] at this
 rw [Option.some.inj this]
theorem tok_lt {s : By} {i j : Nat} {t u : Tk} (ht : (allP s).1[i]? = some t) (hu : (allP s).1[j]? = some u) (h : i < j) : t.2.1 < u.2.1 := by
 rw [tok_from ht, tok_from hu]
 have hj := (List.getElem?_eq_some_iff.1 hu).1
 have := go_lt (j := i) (i := j) (n := s.length) (l := s) (a := 0) (st := (0, 0)) (Nat.le_refl _) hj h
 omega
theorem tok_pos {s : By} {j : Nat} {t : Tk} (ht : (allP s).1[j]? = some t) : 0 ≤ t.2.1 ∧ t.2.1 < s.length ∧ t.2.2 ≤ s.length ∧ t.2.1 < t.2.2 := by
 have hj := (List.getElem?_eq_some_iff.1 ht).1
 obtain ⟨h1, h2, _⟩ := tokP hj
 have hne : s.drop (goG j s 0 (0, 0)).1 ≠ [] := fun e => by have := congrArg List.length e; rw [List.length_drop] at this; simp at this; omega
 have h3 := lenP_len hne (goG j s 0 (0, 0)).2.1
 rw [List.length_drop] at h3
 rw [ht] at h2
 obtain rfl := Option.some.inj h2
 exact ⟨by simp, by simp only; omega, by simp only; omega, by simp only; omega⟩
theorem ptsG_sorted : ∀ (ts : List Tk) (ss : List LSt) (a : Int), ∀ p ∈ ptsG ts ss a, a + 64 ≤ p.1
 | [], ss, a, p, h => by simp [ptsG] at h
 | t :: ts, [], a, p, h => by simp [ptsG] at h
 | t :: ts, s :: ss, a, p, h => by
  rw [ptsG] at h
  split at h
  · rename_i ha
    rcases List.mem_cons.1 h with rfl | h
    · exact ha
    · have := ptsG_sorted ts ss t.2.1 p h; omega
  · exact ptsG_sorted ts ss a p h
theorem ptsG_lt : ∀ (ts : List Tk) (ss : List LSt) (a : Int), (ptsG ts ss a).Pairwise fun p q => p.1 < q.1
 | [], ss, a => by simp [ptsG]
 | t :: ts, [], a => by simp [ptsG]
 | t :: ts, s :: ss, a => by
  rw [ptsG]
  split
  · refine List.pairwise_cons.2 ⟨fun q hq => ?_, ptsG_lt ts ss t.2.1⟩
    have := ptsG_sorted ts ss t.2.1 q hq
    simp only; omega
  · exact ptsG_lt ts ss a
theorem ptsP_lt (s : By) : (ptsP s).Pairwise fun p q => p.1 < q.1 := by
 unfold ptsP
 refine List.pairwise_cons.2 ⟨fun q hq => ?_, ptsG_lt _ _ _⟩
 have := ptsG_sorted _ _ _ q hq
 simp only; omega
theorem ptsG_mem : ∀ (ts : List Tk) (ss : List LSt) (a : Int), ∀ p ∈ ptsG ts ss a, ∃ (j : Nat) (t : Tk), ts[j]? = some t ∧ ss[j]? = some p.2 ∧ t.2.1 = p.1
 | [], ss, a, p, h => by simp [ptsG] at h
 | t :: ts, [], a, p, h => by simp [ptsG] at h
 | t :: ts, s :: ss, a, p, h => by
  have key : ∀ b, p ∈ ptsG ts ss b → ∃ (j : Nat) (t' : Tk), (t :: ts)[j]? = some t' ∧ (s :: ss)[j]? = some p.2 ∧ t'.2.1 = p.1 := fun b hb => by
   obtain ⟨j, t', h1, h2, h3⟩ := ptsG_mem ts ss b p hb
   exact ⟨j + 1, t', by simpa using h1, by simpa using h2, h3⟩
  rw [ptsG] at h
  split at h
  · rcases List.mem_cons.1 h with rfl | h
    · exact ⟨0, t, rfl, rfl, rfl⟩
    · exact key _ h
  · exact key _ h
theorem ptsG_len : ∀ (ts : List Tk) (ss : List LSt) (a : Int), (ptsG ts ss a).length ≤ ts.length
 | [], ss, a => by simp [ptsG]
 | t :: ts, [], a => by simp [ptsG]
 | t :: ts, s :: ss, a => by
  rw [ptsG]
  split
  · have := ptsG_len ts ss t.2.1; simp; omega
  · have := ptsG_len ts ss a; simp; omega
theorem ptsP_mem {s : By} {p : Pt} (h : p ∈ ptsP s) : p = (0, (0, 0)) ∨ ∃ j, j < (allP s).1.length ∧ ((goG j s 0 (0, 0)).1 : Int) = p.1 ∧ (goG j s 0 (0, 0)).2 = p.2 := by
 rcases List.mem_cons.1 h with h | h
 · exact .inl h
 · obtain ⟨j, t, h1, h2, h3⟩ := ptsG_mem _ _ _ p h
   have hj := (List.getElem?_eq_some_iff.1 h1).1
   refine .inr ⟨j, hj, by rw [← h3, tok_from h1], ?_⟩
   rw [sts0_at hj, (tokP hj).2.2.1] at h2
   exact Option.some.inj h2
def IsBef (pts : List Pt) (a : Int) (p : Pt) : Prop := p ∈ pts ∧ (p.1 ≤ a - 3 ∨ p = (0, (0, 0))) ∧ ∀ q ∈ pts, q.1 ≤ a - 3 → q.1 ≤ p.1
def SyncP (s s' : By) (d : Int) (x : Nat) : Prop := ∃ a st, TokB s a st ∧ (a : Int) + d = x ∧ TokB s' x st
def edP (s : By) (i j : Nat) (x : By) : By := s.take i ++ x ++ s.drop j
theorem edP_len {s : By} {i j : Nat} (x : By) (hij : i ≤ j) (hj : j ≤ s.length) : (edP s i j x).length = i + x.length + (s.length - j) := by
 simp only [edP, List.length_append, List.length_take, List.length_drop]; omega
end Go.Proofs.YtlkmlfofhbekoaaDoor
