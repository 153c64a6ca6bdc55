/- Plain laws on texts of steps, second part: words, lines, steps. No program. -/
import Derived.Test.YtmbikkapabljfaaDoorScrP
import Derived.Lib.IndexBytes
namespace Go.Proofs.YtmbikkapabljfaaDoor
open Go

theorem ib_split (c : UInt8) : ∀ s : Bs, (Lib.indexByte s c = -1 ∧ c ∉ s) ∨ ∃ a r, s = a ++ c :: r ∧ c ∉ a ∧ Lib.indexByte s c = (a.length : Nat)
  | [] => Or.inl ⟨rfl, by simp⟩
  | b :: s => by
    unfold Lib.indexByte
    by_cases hb : b = c
    · subst hb
      exact Or.inr ⟨[], s, rfl, by simp, by simp⟩
    · rw [if_neg (by simpa using hb)]
      rcases ib_split c s with ⟨h, hn⟩ | ⟨a, r, rfl, hn, h⟩
      · rw [h]
        refine Or.inl ⟨rfl, ?_⟩
        simp only [List.mem_cons, not_or]
        exact ⟨fun e => hb e.symm, hn⟩
      · rw [h]
        refine Or.inr ⟨b :: a, r, rfl, ?_, ?_⟩
        · simp only [List.mem_cons, not_or]
          exact ⟨fun e => hb e.symm, hn⟩
        · have : ¬ ((a.length : Int) == -1) = true := by rw [beq_iff_eq]; omega
          rw [if_neg this]
          simp

theorem cut_miss {c : UInt8} {s : Bs} (h : c ∉ s) : Lib.cut s [c] = (s, [], false) := by
  unfold Lib.cut
  rw [Lib.index_one]
  rcases ib_split c s with ⟨e, _⟩ | ⟨a, r, rfl, _, _⟩
  · rw [e, if_neg (by decide)]
  · simp at h

theorem cut_hit {c : UInt8} {a r : Bs} (h : c ∉ a) : Lib.cut (a ++ c :: r) [c] = (a, r, true) := by
  unfold Lib.cut
  rw [Lib.index_one]
  rcases ib_split c (a ++ c :: r) with ⟨_, hn⟩ | ⟨a', r', e, hn, hi⟩
  · simp at hn
  · have key : ∀ (a a' : Bs) (r r' : Bs), a ++ c :: r = a' ++ c :: r' → c ∉ a → c ∉ a' → a = a' ∧ r = r' := by
      intro a
      induction a with
      | nil =>
        intro a' r r' e h1 h2
        cases a' with
        | nil => simp at e; exact ⟨rfl, e⟩
        | cons x a' => simp at e; exact absurd (by simp [e.1]) h2
      | cons x a ih =>
        intro a' r r' e h1 h2
        cases a' with
        | nil => simp at e; exact absurd (by simp [e.1]) h1
        | cons y a' =>
          simp at e
          obtain ⟨rfl, e⟩ := e
          obtain ⟨rfl, rfl⟩ := ih a' r r' e (fun k => h1 (by simp [k])) (fun k => h2 (by simp [k]))
          exact ⟨rfl, rfl⟩
    obtain ⟨rfl, rfl⟩ := key a a' r r' e h hn
    rw [hi, if_pos (by omega)]
    simp

def splitS (c : UInt8) : Bs → List Bs
  | [] => [[]]
  | b :: r => if b = c then [] :: splitS c r else match splitS c r with | [] => [[b]] | x :: xs => (b :: x) :: xs

theorem splitS_none {c : UInt8} : ∀ {s : Bs}, c ∉ s → splitS c s = [s]
  | [], _ => rfl
  | b :: r, h => by
    simp only [List.mem_cons, not_or] at h
    rw [splitS, if_neg (fun e => h.1 e.symm), splitS_none h.2]

theorem splitS_hit {c : UInt8} : ∀ {a : Bs} (r : Bs), c ∉ a → splitS c (a ++ c :: r) = a :: splitS c r
  | [], r, _ => by rw [List.nil_append, splitS, if_pos rfl]
  | b :: a, r, h => by
    simp only [List.mem_cons, not_or] at h
    rw [List.cons_append, splitS, if_neg (fun e => h.1 e.symm), splitS_hit r h.2]

theorem splitS_ne (c : UInt8) (s : Bs) : splitS c s ≠ [] := by
  rcases ib_split c s with ⟨_, h⟩ | ⟨a, r, rfl, h, _⟩
  · rw [splitS_none h]; simp
  · rw [splitS_hit r h]; simp

def joinS (c : UInt8) : List Bs → Bs
  | [] => []
  | [x] => x
  | x :: y :: r => x ++ c :: joinS c (y :: r)

theorem split_ind {c : UInt8} {Φ : Bs → Prop} (h1 : ∀ s, c ∉ s → Φ s) (h2 : ∀ a r, c ∉ a → Φ r → Φ (a ++ c :: r)) (s : Bs) : Φ s := by
  have key : ∀ n s, s.length = n → Φ s := by
    intro n
    induction n using Nat.strongRecOn with
    | _ n ih =>
      intro s hs
      rcases ib_split c s with ⟨_, h⟩ | ⟨a, r, rfl, h, _⟩
      · exact h1 s h
      · exact h2 a r h (ih r.length (by simp at hs; omega) r rfl)
  exact key _ s rfl

theorem joinS_split (c : UInt8) (s : Bs) : joinS c (splitS c s) = s := by
  induction s using split_ind (c := c) with
  | h1 s h => rw [splitS_none h]; rfl
  | h2 a r h ih =>
    rw [splitS_hit r h]
    cases hr : splitS c r with
    | nil => exact absurd hr (splitS_ne c r)
    | cons x xs => rw [hr] at ih; rw [joinS, ih]

theorem splitK_one (c : UInt8) : ∀ (fuel : Nat) (s : Bs), s.length < fuel → Lib.splitK [c] 0 (Lib.countFrom [c] fuel s) s = splitS c s
  | 0, s, h => by omega
  | fuel + 1, s, h => by
    rw [Lib.countFrom, Lib.index_one]
    rcases ib_split c s with ⟨e, hn⟩ | ⟨a, r, rfl, hn, e⟩
    · rw [e, splitS_none hn]; rfl
    · have h0 : ¬ ((a.length : Int) == -1) = true := by rw [beq_iff_eq]; omega
      have hd : (a ++ c :: r).drop (a.length + 1) = r := by simp
      rw [e, if_neg h0]
      simp only [Int.toNat_natCast, List.length_cons, List.length_nil, Nat.zero_add, hd]
      rw [Nat.add_comm 1, Lib.splitK, Lib.index_one, e, if_neg h0]
      simp only [Int.toNat_natCast, Nat.add_zero, List.length_cons, List.length_nil, Nat.zero_add, hd]
      rw [splitK_one c fuel r (by simp at h; omega), splitS_hit r hn]
      simp

theorem split_one (c : UInt8) (s : Bs) : Lib.splitK [c] 0 (Lib.count s [c]) s = splitS c s := splitK_one c _ s (Nat.lt_succ_self _)

/-! ### Steps -/

structure Stp where
  kind : Int
  text : Bs
  rows : Int
  cols : Int

def tickL : Bs := [116, 105, 99, 107]
def bytesL : Bs := [98, 121, 116, 101, 115]
def resizeL : Bs := [114, 101, 115, 105, 122, 101]

def stepS (line : Bs) : Option Stp :=
  if line = tickL then some ⟨2, [], 0, 0⟩
  else match splitS 32 line with
    | [a, b] => if a = bytesL ∧ (unquoteP b).2 = true then some ⟨1, (unquoteP b).1, 0, 0⟩ else none
    | [a, b, c] => if a = resizeL ∧ (numP b).2 = true ∧ (numP c).2 = true then some ⟨3, [], (numP b).1, (numP c).1⟩ else none
    | _ => none

def putStep (x : Stp) : Bs :=
  if x.kind = 1 then bytesL ++ 32 :: quoteL x.text ++ [10]
  else if x.kind = 2 then tickL ++ [10]
  else if x.kind = 3 then resizeL ++ 32 :: Lib.itoa x.rows ++ 32 :: Lib.itoa x.cols ++ [10]
  else []

def putL (l : List Stp) : Bs := l.flatMap putStep

def getL (f : Bs → Option Stp) (line : Nat) : List Bs → Nat ⊕ List Stp
  | [] => .inr []
  | [x] => if x = [] then .inr [] else .inl (line + 1)
  | x :: y :: r => match f x with
    | none => .inl (line + 1)
    | some a => match getL f (line + 1) (y :: r) with
      | .inl n => .inl n
      | .inr l => .inr (a :: l)

def getS (s : Bs) : Nat ⊕ List Stp := getL stepS 0 (splitS 10 s)

/-- What is kept of a step. -/
def normS (x : Stp) : Option Stp :=
  if x.kind = 1 then some ⟨1, x.text, 0, 0⟩ else if x.kind = 2 then some ⟨2, [], 0, 0⟩ else if x.kind = 3 then some ⟨3, [], x.rows, x.cols⟩ else none

theorem hexd_range : ∀ n : Fin 16, 48 ≤ (hexd n.val).toNat ∧ (hexd n.val).toNat ≤ 102 := by decide +kernel

theorem quote_range (t : Bs) : ∀ c ∈ quoteL t, 33 ≤ c.toNat := by
  intro c hc
  unfold quoteL at hc
  rw [List.mem_append, List.mem_cons] at hc
  rcases hc with (rfl | hc) | hc
  · decide
  · obtain ⟨x, _, hx⟩ := List.mem_flatMap.1 hc
    have hxl := x.toNat_lt
    unfold esc at hx
    split at hx
    · rename_i hok
      simp at hx; subst hx
      have := of_decide_eq_true hok
      omega
    · simp only [List.mem_cons, List.not_mem_nil, or_false] at hx
      rcases hx with rfl | rfl | rfl
      · decide
      · have := hexd_range ⟨x.toNat / 16, by omega⟩; simp only at this; omega
      · have := hexd_range ⟨x.toNat % 16, by omega⟩; simp only at this; omega
  · simp at hc; subst hc; decide

theorem itoa_range (n : Int) : ∀ c ∈ Lib.itoa n, 33 ≤ c.toNat := by
  intro c hc
  unfold Lib.itoa at hc
  split at hc
  · rcases List.mem_cons.1 hc with rfl | hc
    · decide
    · have := dec_digit _ c hc; omega
  · have := dec_digit _ c hc; omega

theorem not_in {w : Bs} {d : UInt8} (h : ∀ c ∈ w, 33 ≤ c.toNat) (hd : d.toNat < 33) : d ∉ w := fun k => by have := h d k; omega

structure Stp.Ok (x : Stp) : Prop where
  rows : -9223372036854775808 ≤ x.rows ∧ x.rows ≤ 9223372036854775807
  cols : -9223372036854775808 ≤ x.cols ∧ x.cols ≤ 9223372036854775807

theorem step_bytes (t : Bs) : stepS (bytesL ++ 32 :: quoteL t) = some ⟨1, t, 0, 0⟩ := by
  unfold stepS
  rw [if_neg (by simp [bytesL, tickL]), splitS_hit _ (by decide), splitS_none (not_in (quote_range t) (by decide))]
  simp only [unquoteP_quote, and_self, if_true]

theorem step_resize (r c : Int) (hr : -9223372036854775808 ≤ r ∧ r ≤ 9223372036854775807) (hc : -9223372036854775808 ≤ c ∧ c ≤ 9223372036854775807) : stepS (resizeL ++ 32 :: Lib.itoa r ++ 32 :: Lib.itoa c) = some ⟨3, [], r, c⟩ := by
  unfold stepS
  rw [if_neg (by simp [resizeL, tickL]), List.append_assoc, List.cons_append, splitS_hit _ (by decide), splitS_hit _ (not_in (itoa_range r) (by decide)), splitS_none (not_in (itoa_range c) (by decide))]
  simp only [numP_itoa r hr, numP_itoa c hc, and_self, if_true]

theorem put_line {x : Stp} (hx : x.Ok) : (putStep x = [] ∧ normS x = none) ∨ ∃ line y, putStep x = line ++ [10] ∧ 10 ∉ line ∧ stepS line = some y ∧ normS x = some y := by
  unfold putStep normS
  by_cases h1 : x.kind = 1
  · rw [if_pos h1, if_pos h1]
    refine Or.inr ⟨_, _, rfl, ?_, step_bytes _, rfl⟩
    simp only [List.mem_append, List.mem_cons, not_or]
    exact ⟨by decide, by decide, not_in (quote_range _) (by decide)⟩
  rw [if_neg h1, if_neg h1]
  by_cases h2 : x.kind = 2
  · rw [if_pos h2, if_pos h2]
    exact Or.inr ⟨_, _, rfl, by decide, by unfold stepS; rw [if_pos rfl], rfl⟩
  rw [if_neg h2, if_neg h2]
  by_cases h3 : x.kind = 3
  · rw [if_pos h3, if_pos h3]
    refine Or.inr ⟨_, _, rfl, ?_, step_resize _ _ hx.rows hx.cols, rfl⟩
    simp only [List.mem_append, List.mem_cons, not_or]
    exact ⟨⟨by decide, by decide, not_in (itoa_range _) (by decide)⟩, by decide, not_in (itoa_range _) (by decide)⟩
  rw [if_neg h3, if_neg h3]
  exact Or.inl ⟨rfl, rfl⟩

theorem getL_put : ∀ (l : List Stp) (n : Nat), (∀ x ∈ l, x.Ok) → getL stepS n (splitS 10 (putL l)) = .inr (l.filterMap normS)
  | [], n, _ => rfl
  | x :: l, n, h => by
    have ih := fun n => getL_put l n (fun y hy => h y (by simp [hy]))
    have e : putL (x :: l) = putStep x ++ putL l := rfl
    rw [e, List.filterMap_cons]
    rcases put_line (h x (by simp)) with ⟨hp, hn⟩ | ⟨line, y, hp, hl, hs, hn⟩
    · rw [hp, hn, List.nil_append, ih]
    · rw [hp, hn, List.append_assoc, List.singleton_append, splitS_hit _ hl]
      cases hr : splitS 10 (putL l) with
      | nil => exact absurd hr (splitS_ne _ _)
      | cons z zs =>
        have := ih (n + 1)
        rw [hr] at this
        rw [getL, hs]
        simp only [this]

theorem norm_put (x : Stp) : (normS x).elim [] putStep = putStep x := by
  unfold normS putStep
  by_cases h1 : x.kind = 1
  · simp [h1]
  by_cases h2 : x.kind = 2
  · simp [h2]
  by_cases h3 : x.kind = 3
  · simp [h3]
  simp [h1, h2, h3]

theorem putL_norm : ∀ l : List Stp, putL (l.filterMap normS) = putL l
  | [] => rfl
  | x :: l => by
    have ih := putL_norm l
    have e : putL (x :: l) = putStep x ++ putL l := rfl
    rw [e, List.filterMap_cons, ← norm_put x]
    cases hn : normS x with
    | none => simp only [Option.elim]; rw [ih]; rfl
    | some y => simp only [Option.elim]; rw [← ih]; rfl

theorem step_put {line : Bs} {x : Stp} (h : stepS line = some x) : putStep x = line ++ [10] ∧ x.Ok := by
  unfold stepS at h
  split at h
  · rename_i ht
    cases h
    subst ht
    exact ⟨rfl, by decide, by decide⟩
  · have hj := joinS_split 32 line
    split at h
    · rename_i a b hs
      split at h
      · rename_i hc
        cases h
        rw [hs] at hj
        refine ⟨?_, ⟨by simp only; omega, by simp only; omega⟩, ⟨by simp only; omega, by simp only; omega⟩⟩
        rw [← hj, hc.1]
        have := unquoteP_ok hc.2
        simp only [joinS, putStep, if_true]
        rw [← this]
      · cases h
    · rename_i a b c hs
      split at h
      · rename_i hc
        cases h
        rw [hs] at hj
        obtain ⟨e1, r1⟩ := numP_ok hc.2.1
        obtain ⟨e2, r2⟩ := numP_ok hc.2.2
        refine ⟨?_, r1, r2⟩
        rw [← hj, hc.1]
        simp only [joinS, putStep]
        rw [if_neg (by decide), if_neg (by decide), if_pos trivial, ← e1, ← e2]
        simp
      · cases h
    · cases h

theorem getL_back : ∀ (w : List Bs) (n : Nat) (l : List Stp), getL stepS n w = .inr l → putL l = joinS 10 w ∧ ∀ x ∈ l, x.Ok
  | [], n, l, h => by cases h; exact ⟨rfl, by simp⟩
  | [x], n, l, h => by
    rw [getL] at h
    split at h
    · rename_i hx; cases h; subst hx; exact ⟨rfl, by simp⟩
    · cases h
  | x :: y :: r, n, l, h => by
    rw [getL] at h
    cases hf : stepS x with
    | none => rw [hf] at h; cases h
    | some a =>
      rw [hf] at h
      simp only at h
      cases hg : getL stepS (n + 1) (y :: r) with
      | inl m => rw [hg] at h; cases h
      | inr m =>
        rw [hg] at h
        cases h
        obtain ⟨h1, h2⟩ := getL_back (y :: r) (n + 1) m hg
        obtain ⟨h3, h4⟩ := step_put hf
        refine ⟨?_, ?_⟩
        · have e : putL (a :: m) = putStep a ++ putL m := rfl
          rw [e, h3, h1, joinS]; simp
        · intro z hz
          rcases List.mem_cons.1 hz with rfl | hz
          · exact h4
          · exact h2 z hz

theorem getL_line : ∀ (w : List Bs) (n m : Nat), getL stepS n w = .inl m → n < m ∧ m ≤ n + w.length
  | [], n, m, h => by cases h
  | [x], n, m, h => by
    rw [getL] at h
    split at h
    · cases h
    · cases h; simp
  | x :: y :: r, n, m, h => by
    rw [getL] at h
    cases hf : stepS x with
    | none => rw [hf] at h; cases h; simp
    | some a =>
      rw [hf] at h
      simp only at h
      cases hg : getL stepS (n + 1) (y :: r) with
      | inl k =>
        rw [hg] at h
        cases h
        have := getL_line (y :: r) (n + 1) m hg
        simp at this ⊢
        omega
      | inr k => rw [hg] at h; cases h

end Go.Proofs.YtmbikkapabljfaaDoor
