/- Plain laws on texts of steps: what is quoted and read again, numbers, words, lines. No program. -/
import Derived.Lib.ItoaNum
import Derived.Lib.AtoiAllCases
import Derived.Lib.Split
import Derived.IntWalk
namespace Go.Proofs.YtmbikkapabljfaaDoor
open Go

abbrev Bs := List UInt8

/-! ### Quotes -/

def hexd (n : Nat) : UInt8 := UInt8.ofNat (if n < 10 then 48 + n else 87 + n)
def digitsH : Bs := [48, 49, 50, 51, 52, 53, 54, 55, 56, 57, 97, 98, 99, 100, 101, 102]
def okB (c : UInt8) : Bool := decide (32 < c.toNat ∧ c.toNat < 127 ∧ c.toNat ≠ 92 ∧ c.toNat ≠ 34)
def esc (c : UInt8) : Bs := if okB c then [c] else [92, hexd (c.toNat / 16), hexd (c.toNat % 16)]
def quoteL (s : Bs) : Bs := 34 :: s.flatMap esc ++ [34]

def valB (c : UInt8) : Int := Lib.indexByte digitsH c
def byteI (a b : Int) : Int :=
  IntKind.u8.wrap (IntKind.i64.wrap (BitVec.ofInt 64 (IntKind.i64.wrap (a * 2 ^ 4)) ||| BitVec.ofInt 64 (IntKind.i64.wrap (BitVec.ofInt 64 b &&& BitVec.ofInt 64 15).toNat)).toNat)
def byteB (a b : Int) : UInt8 := UInt8.ofNat (byteI a b).toNat

theorem byteI_range (a b : Int) : 0 ≤ byteI a b ∧ byteI a b ≤ 255 := by
  unfold byteI
  generalize IntKind.i64.wrap _ = x
  simp only [IntKind.wrap, IntKind.bits, IntKind.signed]
  constructor
  · simp; omega
  · simp; omega

theorem byteB_toNat (a b : Int) : ((byteB a b).toNat : Int) = byteI a b := by
  have := byteI_range a b
  unfold byteB
  simp [UInt8.toNat_ofNat']
  omega

theorem valB_fin : ∀ n : Fin 16, valB (hexd n.val) = (n.val : Int) := by decide +kernel
theorem byteB_fin : ∀ a b : Fin 16, byteB (a.val : Int) (b.val : Int) = UInt8.ofNat (16 * a.val + b.val) := by decide +kernel
theorem valB_hexd {n : Nat} (h : n < 16) : valB (hexd n) = n := valB_fin ⟨n, h⟩

theorem byteB_hex (c : UInt8) : byteB (valB (hexd (c.toNat / 16))) (valB (hexd (c.toNat % 16))) = c := by
  have hc := c.toNat_lt
  have h1 : c.toNat / 16 < 16 := by omega
  have h2 : c.toNat % 16 < 16 := by omega
  rw [valB_hexd h1, valB_hexd h2, byteB_fin ⟨_, h1⟩ ⟨_, h2⟩]
  simp only
  rw [show 16 * (c.toNat / 16) + c.toNat % 16 = c.toNat from by omega]
  simp

def decP : Bs → Bs
  | [] => []
  | [_] => []
  | [c, _] => [c]
  | c :: x :: y :: r => if c = 92 then byteB (valB x) (valB y) :: decP r else c :: decP (x :: y :: r)

theorem okB_ne {c : UInt8} (h : okB c = true) : c ≠ 92 := by
  rintro rfl; exact absurd h (by decide)

theorem esc_cases (c : UInt8) : (okB c = true ∧ esc c = [c]) ∨ esc c = [92, hexd (c.toNat / 16), hexd (c.toNat % 16)] := by
  unfold esc
  split
  · exact Or.inl ⟨by assumption, rfl⟩
  · exact Or.inr rfl

theorem decP_quote : ∀ t : Bs, decP (t.flatMap esc ++ [34]) = t
  | [] => rfl
  | c :: t => by
    have ih := decP_quote t
    rw [List.flatMap_cons, List.append_assoc]
    rcases esc_cases c with ⟨hc, he⟩ | he <;> rw [he]
    · have hne : t.flatMap esc ++ [34] ≠ [] := by simp
      generalize t.flatMap esc ++ [34] = rest at ih hne
      match rest, ih, hne with
      | [x], ih, _ => simp [decP] at ih; subst ih; rfl
      | x :: y :: r, ih, _ =>
        rw [List.cons_append, List.nil_append]
        have : decP (c :: x :: y :: r) = if c = 92 then byteB (valB x) (valB y) :: decP r else c :: decP (x :: y :: r) := by rw [decP]
        rw [this, if_neg (okB_ne hc), ih]
    · simp only [List.cons_append, List.nil_append]
      rw [decP, if_pos rfl, ih, byteB_hex]

def valR (c : UInt8) : Nat := if 0 ≤ valB c then (valB c).toNat else 16

def decR : Bs → Option Bs
  | [] => some []
  | [_] => some []
  | [c, _] => if c = 92 then none else some [c]
  | c :: x :: y :: r =>
    if c = 92 then (if 15 < valR x ∨ 15 < valR y then none else (decR r).map (UInt8.ofNat (valR x * 16 + valR y) :: ·))
    else (decR (x :: y :: r)).map (c :: ·)

theorem decR_quote : ∀ t : Bs, decR (t.flatMap esc ++ [34]) = some t
  | [] => rfl
  | c :: t => by
    have ih := decR_quote t
    rw [List.flatMap_cons, List.append_assoc]
    rcases esc_cases c with ⟨hc, he⟩ | he <;> rw [he]
    · have hne : t.flatMap esc ++ [34] ≠ [] := by simp
      generalize t.flatMap esc ++ [34] = rest at ih hne
      match rest, ih, hne with
      | [x], ih, _ => simp [decR] at ih; subst ih; simp [decR, okB_ne hc]
      | x :: y :: r, ih, _ =>
        rw [List.cons_append, List.nil_append]
        have : decR (c :: x :: y :: r) = if c = 92 then (if 15 < valR x ∨ 15 < valR y then none else (decR r).map (UInt8.ofNat (valR x * 16 + valR y) :: ·)) else (decR (x :: y :: r)).map (c :: ·) := by rw [decR]
        rw [this, if_neg (okB_ne hc), ih]; rfl
    · have hc := c.toNat_lt
      have h1 : c.toNat / 16 < 16 := by omega
      have h2 : c.toNat % 16 < 16 := by omega
      have e1 : valR (hexd (c.toNat / 16)) = c.toNat / 16 := by unfold valR; rw [valB_hexd h1, if_pos (by omega)]; omega
      have e2 : valR (hexd (c.toNat % 16)) = c.toNat % 16 := by unfold valR; rw [valB_hexd h2, if_pos (by omega)]; omega
      simp only [List.cons_append, List.nil_append]
      rw [decR, if_pos rfl, e1, e2, if_neg (by omega), ih]
      simp only [Option.map_some]
      rw [show c.toNat / 16 * 16 + c.toNat % 16 = c.toNat from by omega]
      simp

/-- What both say of a word: the text that it quotes, if it quotes one. -/
def unquoteP (w : Bs) : Bs × Bool := if w.length < 2 ∨ w.head? ≠ some 34 then ([], false) else (decP w.tail, decide (quoteL (decP w.tail) = w))
def unquoteR (w : Bs) : Bs × Bool := match decR (w.drop 1) with | none => ([], false) | some t => (t, decide (quoteL t = w))

theorem unquoteP_quote (t : Bs) : unquoteP (quoteL t) = (t, true) := by
  have h : decP (quoteL t).tail = t := decP_quote t
  unfold unquoteP
  rw [h, if_neg (by simp [quoteL])]
  simp

theorem unquoteR_quote (t : Bs) : unquoteR (quoteL t) = (t, true) := by
  have h : decR ((quoteL t).drop 1) = some t := decR_quote t
  unfold unquoteR
  rw [h]
  simp

theorem unquoteP_ok {w : Bs} (h : (unquoteP w).2 = true) : w = quoteL (unquoteP w).1 := by
  unfold unquoteP at h ⊢
  split at h
  · cases h
  · rename_i hc
    rw [if_neg hc]
    exact (of_decide_eq_true h).symm

theorem unquoteR_ok {w : Bs} (h : (unquoteR w).2 = true) : w = quoteL (unquoteR w).1 := by
  unfold unquoteR at h ⊢
  split at h
  · cases h
  · rename_i t hc
    exact (of_decide_eq_true h).symm

theorem unquote_same (w : Bs) : (unquoteP w).2 = (unquoteR w).2 ∧ ((unquoteP w).2 = true → (unquoteP w).1 = (unquoteR w).1) := by
  cases hp : (unquoteP w).2 with
  | true =>
    have := unquoteP_ok hp
    have hr := unquoteR_quote (unquoteP w).1
    rw [← this] at hr
    rw [hr]
    exact ⟨rfl, fun _ => rfl⟩
  | false =>
    cases hr : (unquoteR w).2 with
    | false => exact ⟨rfl, fun h => by cases h⟩
    | true =>
      have := unquoteR_ok hr
      have hp2 := unquoteP_quote (unquoteR w).1
      rw [← this] at hp2
      rw [hp2] at hp
      cases hp

/-! ### Numbers -/

theorem parse_append : ∀ (l r : Bs) (acc : Nat), Lib.parseUint10 acc (l ++ r) = match Lib.parseUint10 acc l with | .ok v => Lib.parseUint10 v r | .syntax => .syntax | .range => .range
  | [], r, acc => rfl
  | c :: l, r, acc => by
    rw [List.cons_append, Lib.parseUint10, Lib.parseUint10]
    split
    · split
      · rfl
      · split
        · rfl
        · exact parse_append l r _
    · rfl

theorem digit_nat {d : Nat} (h : d < 10) : (UInt8.ofNat (48 + d)).toNat = 48 + d := by
  simp [UInt8.toNat_ofNat']; omega

theorem parse_dec (u : Nat) (hu : u < 18446744073709551616) : Lib.parseUint10 0 (Lib.decDigits u) = .ok u := by
  induction u using Nat.strongRecOn with
  | _ u ih =>
    rw [Lib.decDigits]
    split
    · rename_i h
      rw [Lib.parseUint10, digit_nat h, if_pos (by omega), if_neg (by omega), if_neg (by omega)]
      simp [Lib.parseUint10]
    · rename_i h
      rw [parse_append, ih (u / 10) (by omega) (by omega)]
      simp only
      rw [Lib.parseUint10, digit_nat (Nat.mod_lt _ (by decide)), if_pos (by omega), if_neg (by omega), if_neg (by omega)]
      rw [Lib.parseUint10]
      congr 1
      omega

theorem dec_digit (u : Nat) : ∀ c ∈ Lib.decDigits u, 48 ≤ c.toNat ∧ c.toNat ≤ 57 := by
  induction u using Nat.strongRecOn with
  | _ u ih =>
    rw [Lib.decDigits]
    split
    · rename_i h
      intro c hc
      rw [List.mem_singleton] at hc
      subst hc
      rw [digit_nat h]; omega
    · rename_i h
      intro c hc
      rcases List.mem_append.1 hc with hc | hc
      · exact ih (u / 10) (by omega) c hc
      · rw [List.mem_singleton] at hc
        subst hc
        rw [digit_nat (Nat.mod_lt _ (by decide))]; omega

theorem dec_ne (u : Nat) : Lib.decDigits u ≠ [] := by
  rw [Lib.decDigits]
  split <;> simp

theorem atoi_itoa (n : Int) (h : -9223372036854775808 ≤ n ∧ n ≤ 9223372036854775807) : Lib.atoiAll (Lib.itoa n) = .ok n := by
  unfold Lib.itoa
  split
  · rename_i hn
    simp only [Lib.atoiAll]
    have e : Lib.parseMag (Lib.decDigits n.natAbs) = .ok n.natAbs := by
      unfold Lib.parseMag
      rw [if_neg (dec_ne _), parse_dec _ (by omega)]
    rw [if_pos (by decide), e]
    have h45 : (45 : UInt8).toNat = 45 := rfl
    simp only [h45]
    rw [if_neg (by simp), if_neg (by omega)]
    simp
    omega
  · rename_i hn
    have hd := dec_digit n.toNat
    have hne := dec_ne n.toNat
    have e : Lib.parseMag (Lib.decDigits n.toNat) = .ok n.toNat := by
      unfold Lib.parseMag
      rw [if_neg hne, parse_dec _ (by omega)]
    cases hl : Lib.decDigits n.toNat with
    | nil => exact absurd hl hne
    | cons c r =>
      rw [hl] at hd e
      have hc := hd c (by simp)
      simp only [Lib.atoiAll]
      rw [if_neg (by omega), e]
      simp only
      rw [if_neg (by omega), if_neg (by omega), if_neg (by omega)]
      congr 1
      omega

def numP (w : Bs) : Int × Bool := match Lib.atoiAll w with | .ok v => (v, decide (Lib.itoa v = w)) | .syntax => (0, false) | .range => (Lib.atoiSat w, false)

theorem numP_itoa (n : Int) (h : -9223372036854775808 ≤ n ∧ n ≤ 9223372036854775807) : numP (Lib.itoa n) = (n, true) := by
  unfold numP
  rw [atoi_itoa n h]
  simp

theorem numP_ok {w : Bs} (h : (numP w).2 = true) : w = Lib.itoa (numP w).1 ∧ -9223372036854775808 ≤ (numP w).1 ∧ (numP w).1 ≤ 9223372036854775807 := by
  unfold numP at h ⊢
  split at h
  · rename_i v hv
    exact ⟨(of_decide_eq_true h).symm, by have := Lib.atoiAll_bounds hv; simp only; omega, by have := Lib.atoiAll_bounds hv; simp only; omega⟩
  · cases h
  · cases h

def numLoop (n : Nat) : Bs → Option Nat
  | [] => some n
  | c :: r => if c.toNat < 48 ∨ 57 < c.toNat ∨ (9223372036854775808 - (c.toNat - 48)) / 10 < n then none else numLoop (n * 10 + (c.toNat - 48)) r

def numR (w : Bs) : Int × Bool :=
  let minus := decide (1 < w.length ∧ w.head? = some 45)
  let w' := if minus then w.drop 1 else w
  match numLoop 0 w' with
  | none => (0, false)
  | some n =>
    if w' = [] ∨ Lib.decDigits n ≠ w' ∨ (minus = true ∧ n = 0) ∨ (minus = false ∧ n = 9223372036854775808) then (0, false)
    else if minus then (-(n : Int), true) else ((n : Int), true)

theorem numLoop_append : ∀ (l r : Bs) (n : Nat), numLoop n (l ++ r) = (numLoop n l).bind fun m => numLoop m r
  | [], r, n => rfl
  | c :: l, r, n => by
    rw [List.cons_append, numLoop, numLoop]
    split
    · rfl
    · exact numLoop_append l r _

theorem numLoop_dec (u : Nat) (hu : u ≤ 9223372036854775808) : numLoop 0 (Lib.decDigits u) = some u := by
  induction u using Nat.strongRecOn with
  | _ u ih =>
    rw [Lib.decDigits]
    split
    · rename_i h
      rw [numLoop, digit_nat h, if_neg (by omega), numLoop]
      congr 1
      omega
    · rename_i h
      rw [numLoop_append, ih (u / 10) (by omega) (by omega)]
      simp only [Option.bind_some]
      rw [numLoop, digit_nat (Nat.mod_lt _ (by decide)), if_neg (by omega), numLoop]
      congr 1
      omega

theorem numLoop_le : ∀ (l : Bs) (n m : Nat), n ≤ 9223372036854775808 → numLoop n l = some m → m ≤ 9223372036854775808
  | [], n, m, h, e => by simp [numLoop] at e; omega
  | c :: r, n, m, h, e => by
    rw [numLoop] at e
    split at e
    · cases e
    · rename_i hc
      exact numLoop_le r _ m (by omega) e

theorem numR_itoa (n : Int) (h : -9223372036854775808 ≤ n ∧ n ≤ 9223372036854775807) : numR (Lib.itoa n) = (n, true) := by
  unfold Lib.itoa
  split
  · rename_i hn
    have hne := dec_ne n.natAbs
    have hm : decide (1 < (45 :: Lib.decDigits n.natAbs).length ∧ (45 :: Lib.decDigits n.natAbs).head? = some 45) = true := by
      have : 0 < (Lib.decDigits n.natAbs).length := List.length_pos_iff.2 hne
      simp [this]
    unfold numR
    simp only [hm, if_true, List.drop_one, List.tail_cons]
    rw [numLoop_dec _ (by omega)]
    simp only
    rw [if_neg (by simp [hne]; omega)]
    congr 1
    omega
  · rename_i hn
    have hne := dec_ne n.toNat
    have hd := dec_digit n.toNat
    have hm : decide (1 < (Lib.decDigits n.toNat).length ∧ (Lib.decDigits n.toNat).head? = some 45) = false := by
      simp only [decide_eq_false_iff_not, not_and]
      intro _ hh
      have := hd 45 (List.mem_of_mem_head? (by rw [hh]; rfl))
      exact absurd this (by decide)
    unfold numR
    simp only [hm, Bool.false_eq_true, if_false]
    rw [numLoop_dec _ (by omega)]
    simp only
    rw [if_neg (by simp [hne]; omega)]
    congr 1
    omega

theorem numR_ok {w : Bs} (h : (numR w).2 = true) : w = Lib.itoa (numR w).1 ∧ -9223372036854775808 ≤ (numR w).1 ∧ (numR w).1 ≤ 9223372036854775807 := by
  unfold numR at h ⊢
  by_cases hm : 1 < w.length ∧ w.head? = some 45
  · have hmd : decide (1 < w.length ∧ w.head? = some 45) = true := decide_eq_true hm
    simp only [hmd, if_true] at h ⊢
    cases hl : numLoop 0 (w.drop 1) with
    | none => rw [hl] at h; cases h
    | some m =>
      have hle := numLoop_le _ _ _ (by omega) hl
      rw [hl] at h
      simp only at h ⊢
      split at h
      · cases h
      · rename_i hc
        rw [if_neg hc]
        simp only [not_or, not_and] at hc
        have hm0 : m ≠ 0 := fun e => hc.2.2.1 trivial e
        have hdd : Lib.decDigits m = w.drop 1 := Classical.not_not.1 hc.2.1
        refine ⟨?_, by simp only; omega, by simp only; omega⟩
        unfold Lib.itoa
        rw [if_pos (by simp only; omega)]
        simp only [Int.natAbs_neg, Int.natAbs_natCast]
        rw [hdd]
        cases w with
        | nil => simp at hm
        | cons a r => simp at hm; simp [hm.2]
  · have hmd : decide (1 < w.length ∧ w.head? = some 45) = false := decide_eq_false hm
    simp only [hmd, Bool.false_eq_true, if_false] at h ⊢
    cases hl : numLoop 0 w with
    | none => rw [hl] at h; cases h
    | some m =>
      have hle := numLoop_le _ _ _ (by omega) hl
      rw [hl] at h
      simp only at h ⊢
      split at h
      · cases h
      · rename_i hc
        rw [if_neg hc]
        simp only [not_or, not_and] at hc
        have hdd : Lib.decDigits m = w := Classical.not_not.1 hc.2.1
        have hm63 : m ≠ 9223372036854775808 := fun e => hc.2.2.2 trivial e
        refine ⟨?_, by simp only; omega, by simp only; omega⟩
        unfold Lib.itoa
        rw [if_neg (by simp only; omega)]
        simp [hdd]

theorem num_same (w : Bs) : (numP w).2 = (numR w).2 ∧ ((numP w).2 = true → (numP w).1 = (numR w).1) := by
  cases hp : (numP w).2 with
  | true =>
    obtain ⟨e, hr⟩ := numP_ok hp
    have hr2 := numR_itoa _ hr
    rw [← e] at hr2
    rw [hr2]
    exact ⟨rfl, fun _ => rfl⟩
  | false =>
    cases hr : (numR w).2 with
    | false => exact ⟨rfl, fun h => by cases h⟩
    | true =>
      obtain ⟨e, hr'⟩ := numR_ok hr
      have hp2 := numP_itoa _ hr'
      rw [← e] at hp2
      rw [hp2] at hp
      cases hp

end Go.Proofs.YtmbikkapabljfaaDoor
