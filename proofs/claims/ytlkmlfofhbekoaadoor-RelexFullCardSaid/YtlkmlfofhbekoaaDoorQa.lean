/- Plain words, the logic of walks, and walks that the statement's proof leans on (part 1). -/

namespace Go.Proofs.YtlkmlfofhbekoaaDoor
abbrev By := List UInt8
inductive Nd where
 | mk (kind : Nat) (set : Nat) (kids : List Nd)
def Nd.kind : Nd → Nat | .mk k _ _ => k
def Nd.set : Nd → Nat | .mk _ s _ => s
def Nd.kids : Nd → List Nd | .mk _ _ l => l
def allSet : Nat := 2 ^ 256 - 1
def spanN (s a : Nat) : Nat → Nat
 | 0 => s
 | n + 1 => spanN (s ||| (1 <<< a)) (a + 1) n
def spanB (s : Nat) (a b : UInt8) : Nat := spanN s a.toNat (b.toNat + 1 - a.toNat)
def notSet (s : Nat) : Nat := allSet ^^^ s
def byteNd (b : UInt8) : Nd := .mk 1 (spanB 0 b b) []
def dotNd : Nd := .mk 1 (spanB (spanB 0 0 9) 11 255) []
def emptyNd : Nd := .mk 0 0 []
def specialB : By := [40, 41, 91, 93, 124, 42, 43, 63, 46, 92, 45, 94]
def hexVal (b : UInt8) : Option Nat :=
 if 48 ≤ b.toNat ∧ b.toNat ≤ 57 then some (b.toNat - 48) else if 97 ≤ b.toNat ∧ b.toNat ≤ 102 then some (b.toNat - 87) else if 65 ≤ b.toNat ∧ b.toNat ≤ 70 then some (b.toNat - 55) else none
def escP : By → Option (UInt8 × By)
 | [] => none
 | b :: r =>
  if b = 110 then some (10, r) else if b = 116 then some (9, r) else if b = 114 then some (13, r)
  else if b = 120 then
   match r with
   | x :: y :: r => match hexVal x, hexVal y with
    | some m, some n => some (UInt8.ofNat (m * 16 + n), r)
    | _, _ => none
   | _ => none
  else if b ∈ specialB then some (b, r) else none
def letP : By → Option (UInt8 × By)
 | [] => none
 | b :: r => if b = 92 then escP r else if b ∈ specialB then none else some (b, r)
def fromToP (s : By) : Option ((UInt8 × UInt8) × By) :=
 match letP s with
 | none => none
 | some (a, r) => match r with
  | 45 :: r' => match letP r' with
   | none => none
   | some (b, r'') => if b.toNat < a.toNat then none else some ((a, b), r'')
  | _ => some ((a, a), r)
def setsP : Nat → Nat → By → Option (Nat × By)
 | 0, _, _ => none
 | n + 1, acc, s => match fromToP s with
  | none => none
  | some ((a, b), r) => match r with
   | 93 :: r' => some (spanB acc a b, r')
   | _ => setsP n (spanB acc a b) r
def bracketP (s : By) : Option (Nd × By) :=
 match s with
 | 94 :: r => (setsP (r.length + 1) 0 r).map fun p => (.mk 1 (notSet p.1) [], p.2)
 | _ => (setsP (s.length + 1) 0 s).map fun p => (.mk 1 p.1 [], p.2)
def atomP (rows : By → Option (Nd × By)) : By → Option (Nd × By)
 | [] => none
 | c :: r =>
  if c = 40 then
   match rows r with
   | none => none
   | some (n, r') => match r' with
    | 41 :: r'' => some (n, r'')
    | _ => none
  else if c = 91 then bracketP r
  else if c = 46 then some (dotNd, r)
  else if c = 92 then (escP r).map fun p => (byteNd p.1, p.2)
  else if c ∈ [(41 : UInt8), 93, 124, 42, 43, 63] then none
  else some (byteNd c, r)
def signOf (c : UInt8) : Nat := if c = 42 then 4 else if c = 43 then 5 else if c = 63 then 6 else 0
def signsP (n : Nd) : By → Nd × By
 | [] => (n, [])
 | c :: r => if signOf c = 0 then (n, c :: r) else signsP (.mk (signOf c) 0 [n]) r
def pieceP (rows : By → Option (Nd × By)) (s : By) : Option (Nd × By) :=
 (atomP rows s).map fun p => signsP p.1 p.2
def joinNd (kind : Nat) : List Nd → Nd
 | [] => emptyNd
 | [n] => n
 | l => .mk kind 0 l
def rowEnd : By → Bool
 | [] => true
 | c :: _ => c == 124 || c == 41
def rowL (rows : By → Option (Nd × By)) : Nat → By → Option (List Nd × By)
 | 0, _ => none
 | n + 1, s => if rowEnd s then some ([], s) else
  match pieceP rows s with
  | none => none
  | some (x, r) => (rowL rows n r).map fun p => (x :: p.1, p.2)
def rowsG (rows : By → Option (Nd × By)) : Nat → List Nd → List Nd → By → Option (Nd × By)
 | 0, _, _, _ => none
 | n + 1, all, row, s => if rowEnd s then
  if s.head? = some 124 then rowsG rows n (all ++ [joinNd 2 row]) [] s.tail
  else some (joinNd 3 (all ++ [joinNd 2 row]), s)
  else match pieceP rows s with
   | none => none
   | some (x, r) => rowsG rows n all (row ++ [x]) r
def rowsP : Nat → By → Option (Nd × By)
 | 0, _ => none
 | d + 1, s => rowsG (rowsP d) (s.length + 1) [] [] s
def parseP (s : By) : Option Nd :=
 match rowsP (s.length + 1) s with
 | some (n, []) => some n
 | _ => none
theorem escP_len {s : By} {b : UInt8} {r : By} (h : escP s = some (b, r)) : r.length < s.length := by
 unfold escP at h
 split at h
 · cases h
 · rename_i c t
   split at h
   · cases h; simp
   · split at h
     · cases h; simp
     · split at h
       · cases h; simp
       · split at h
         · split at h
           · split at h
             · cases h; simp only [List.length_cons]; omega
             · cases h
           · cases h
         · split at h
           · cases h; simp
           · cases h
theorem letP_len {s : By} {b : UInt8} {r : By} (h : letP s = some (b, r)) : r.length < s.length := by
 unfold letP at h
 split at h
 · cases h
 · split at h
   · have := escP_len h; simp only [List.length_cons]; omega
   · split at h
     · cases h
     · cases h; simp
theorem fromToP_len {s : By} {p : UInt8 × UInt8} {r : By} (h : fromToP s = some (p, r)) : r.length < s.length := by
 unfold fromToP at h
 split at h
 · cases h
 · rename_i a t ha
   have h1 := letP_len ha
   split at h
   · rename_i t'
     split at h
     · cases h
     · rename_i b t'' hb
       have h2 := letP_len hb
       split at h
       · cases h
       · cases h; simp only [List.length_cons] at h1; omega
   · cases h; exact h1
theorem setsP_len : ∀ (n acc : Nat) {s : By} {m : Nat} {r : By}, setsP n acc s = some (m, r) → r.length < s.length
 | 0, _, s, m, r, h => by cases h
 | n + 1, acc, s, m, r, h => by
  rw [setsP] at h
  split at h
  · cases h
  · rename_i a b t ht
    have h1 := fromToP_len ht
    split at h
    · cases h; simp only [List.length_cons] at h1; omega
    · have := setsP_len n _ h; omega
theorem bracketP_len {s : By} {x : Nd} {r : By} (h : bracketP s = some (x, r)) : r.length < s.length := by
 unfold bracketP at h
 split at h
 · rename_i t
   simp only [Option.map_eq_some_iff] at h
   obtain ⟨⟨m, r'⟩, h1, h2⟩ := h
   cases h2
   have := setsP_len _ _ h1
   simp only [List.length_cons]; omega
 · simp only [Option.map_eq_some_iff] at h
   obtain ⟨⟨m, r'⟩, h1, h2⟩ := h
   cases h2
   exact setsP_len _ _ h1
theorem atomP_len {rows : By → Option (Nd × By)} (hr : ∀ {s x r}, rows s = some (x, r) → r.length ≤ s.length) {s : By} {x : Nd} {r : By} (h : atomP rows s = some (x, r)) : r.length < s.length := by
 unfold atomP at h
 split at h
 · cases h
 · rename_i c t
   simp only [List.length_cons]
   split at h
   · split at h
     · cases h
     · rename_i n t' ht
       have := hr ht
       split at h
       · rename_i t'' _
         cases h; simp only [List.length_cons] at this; omega
       · cases h
   · split at h
     · have := bracketP_len h; omega
     · split at h
       · cases h; omega
       · split at h
         · simp only [Option.map_eq_some_iff] at h
           obtain ⟨⟨b, r'⟩, h1, h2⟩ := h
           cases h2
           have := escP_len h1; dsimp only; omega
         · split at h
           · cases h
           · cases h; omega
theorem signsP_len : ∀ (s : By) (n : Nd), (signsP n s).2.length ≤ s.length
 | [], n => by simp [signsP]
 | c :: r, n => by
  rw [signsP]
  split
  · simp
  · have := signsP_len r (.mk (signOf c) 0 [n])
    simp only [List.length_cons]; omega
theorem pieceP_len {rows : By → Option (Nd × By)} (hr : ∀ {s x r}, rows s = some (x, r) → r.length ≤ s.length) {s : By} {x : Nd} {r : By} (h : pieceP rows s = some (x, r)) : r.length < s.length := by
 unfold pieceP at h
 simp only [Option.map_eq_some_iff] at h
 obtain ⟨⟨n, t⟩, h1, h2⟩ := h
 have h3 := atomP_len hr h1
 have h4 := signsP_len t n
 rw [h2] at h4
 simp only at h4
 omega
theorem rowsG_len {rows : By → Option (Nd × By)} (hr : ∀ {s x r}, rows s = some (x, r) → r.length ≤ s.length) : ∀ (n : Nat) (all row : List Nd) {s : By} {x : Nd} {r : By}, rowsG rows n all row s = some (x, r) → r.length ≤ s.length ∧ (r = [] ∨ r.head? = some 41)
 | 0, _, _, s, x, r, h => by cases h
 | n + 1, all, row, s, x, r, h => by
  rw [rowsG] at h
  split at h
  · rename_i he
    split at h
    · have := rowsG_len hr n _ _ h
      exact ⟨by have h2 := this.1; simp only [List.length_tail] at h2; omega, this.2⟩
    · rename_i hn
      cases h
      refine ⟨Nat.le_refl _, ?_⟩
      cases s with
      | nil => exact .inl rfl
      | cons c t =>
       right
       unfold rowEnd at he
       have h1 : c ≠ 124 := fun e => hn (by rw [e]; rfl)
       simp [h1] at he
       simp [he]
  · split at h
    · cases h
    · rename_i y t ht
      have h1 := pieceP_len hr ht
      have h2 := rowsG_len hr n _ _ h
      exact ⟨by omega, h2.2⟩
theorem rowsP_len : ∀ (d : Nat) {s : By} {x : Nd} {r : By}, rowsP d s = some (x, r) → r.length ≤ s.length
 | 0, s, x, r, h => by cases h
 | d + 1, s, x, r, h => (rowsG_len (fun h => rowsP_len d h) _ _ _ h).1
theorem rowL_len {rows : By → Option (Nd × By)} (hr : ∀ {s x r}, rows s = some (x, r) → r.length ≤ s.length) : ∀ (n : Nat) {s : By} {l : List Nd} {r : By}, rowL rows n s = some (l, r) → r.length ≤ s.length ∧ rowEnd r = true ∧ l.length ≤ s.length
 | 0, s, l, r, h => by cases h
 | n + 1, s, l, r, h => by
  rw [rowL] at h
  split at h
  · rename_i he; cases h; exact ⟨Nat.le_refl _, he, Nat.zero_le _⟩
  · split at h
    · cases h
    · rename_i y t ht
      have h1 := pieceP_len hr ht
      simp only [Option.map_eq_some_iff] at h
      obtain ⟨⟨m, r'⟩, h2, h3⟩ := h
      cases h3
      have h4 := rowL_len hr n h2
      have h5 := h4.1
      have h6 := h4.2.2
      exact ⟨by first | omega | (dsimp only; omega), h4.2.1, by simp only [List.length_cons]; first | omega | (dsimp only at h6; omega)⟩
theorem rowsG_fuel {rows : By → Option (Nd × By)} (hr : ∀ {s x r}, rows s = some (x, r) → r.length ≤ s.length) : ∀ (k : Nat) (n m : Nat) (all row : List Nd) (s : By), s.length ≤ k → s.length < n → s.length < m → rowsG rows n all row s = rowsG rows m all row s := by
 intro k
 induction k with
 | zero =>
  intro n m all row s hk hn hm
  cases n with
  | zero => omega
  | succ n =>
   cases m with
   | zero => omega
   | succ m =>
    have : s = [] := List.eq_nil_of_length_eq_zero (by omega)
    subst this; rfl
 | succ k ih =>
  intro n m all row s hk hn hm
  cases n with
  | zero => omega
  | succ n =>
   cases m with
   | zero => omega
   | succ m =>
    rw [rowsG, rowsG]
    split
    · split
      · rename_i h1
        have h2 : s.tail.length + 1 = s.length := by cases s with | nil => cases h1 | cons a b => simp
        exact ih _ _ _ _ _ (by omega) (by omega) (by omega)
      · rfl
    · cases hp : pieceP rows s with
      | none => rfl
      | some p =>
       obtain ⟨y, t⟩ := p
       have := pieceP_len hr hp
       exact ih _ _ _ _ _ (by omega) (by omega) (by omega)
theorem rowL_fuel {rows : By → Option (Nd × By)} (hr : ∀ {s x r}, rows s = some (x, r) → r.length ≤ s.length) : ∀ (n m : Nat) (s : By), s.length < n → s.length < m → rowL rows n s = rowL rows m s
 | 0, _, _, h, _ => by omega
 | _, 0, _, _, h => by omega
 | n + 1, m + 1, s, hn, hm => by
  rw [rowL, rowL]
  split
  · rfl
  · cases hp : pieceP rows s with
    | none => rfl
    | some p =>
     obtain ⟨y, t⟩ := p
     have := pieceP_len hr hp
     simp only
     rw [rowL_fuel hr n m t (by omega) (by omega)]
def rowT (rows : By → Option (Nd × By)) (s : By) : Option (Nd × By) := (rowL rows (s.length + 1) s).map fun p => (joinNd 2 p.1, p.2)
def contR (rows : By → Option (Nd × By)) (all : List Nd) (m : By) : Option (Nd × By) :=
 if m.head? = some 124 then rowsG rows (m.tail.length + 1) all [] m.tail else some (joinNd 3 all, m)
theorem rowsG_row {rows : By → Option (Nd × By)} (hr : ∀ {s x r}, rows s = some (x, r) → r.length ≤ s.length) : ∀ (n m : Nat) (all row : List Nd) (s : By), s.length < n → s.length < m →
 rowsG rows n all row s = match rowL rows m s with
  | none => none
  | some (l, r) => if r.head? = some 124 then rowsG rows (r.length + 1) (all ++ [joinNd 2 (row ++ l)]) [] r.tail else some (joinNd 3 (all ++ [joinNd 2 (row ++ l)]), r) := by
 have fuel := fun k => @rowsG_fuel rows hr k
 intro n
 induction n with
 | zero => intro m all row s h; omega
 | succ n ih =>
  intro m all row s hn hm
  cases m with
  | zero => omega
  | succ m =>
   rw [rowsG, rowL]
   by_cases he : rowEnd s = true
   · rw [if_pos he, if_pos he]
     simp only [List.append_nil]
     split
     · rename_i h1
       have h2 : s.tail.length + 1 = s.length := by cases s with | nil => cases h1 | cons a b => simp
       exact fuel _ _ _ _ _ _ (Nat.le_refl _) (by omega) (by omega)
     · rfl
   · rw [if_neg he, if_neg he]
     cases hp : pieceP rows s with
     | none => rfl
     | some p =>
      obtain ⟨y, t⟩ := p
      have hlt := pieceP_len hr hp
      simp only
      rw [ih m all (row ++ [y]) t (by omega) (by omega)]
      cases hl : rowL rows m t with
      | none => rfl
      | some q =>
       obtain ⟨l, r⟩ := q
       simp only [Option.map_some, List.append_assoc, List.singleton_append]
theorem rowsG_cont {rows : By → Option (Nd × By)} (hr : ∀ {s x r}, rows s = some (x, r) → r.length ≤ s.length) (all : List Nd) (s : By) :
 rowsG rows (s.length + 1) all [] s = match rowT rows s with | none => none | some (x, r) => contR rows (all ++ [x]) r := by
 rw [rowsG_row hr _ (s.length + 1) _ _ _ (Nat.lt_succ_self _) (Nat.lt_succ_self _)]
 unfold rowT
 cases hl : rowL rows (s.length + 1) s with
 | none => rfl
 | some q =>
  obtain ⟨l, r⟩ := q
  simp only [Option.map_some, List.nil_append, contR]
  split
  · exact rowsG_fuel hr r.length _ _ _ _ _ (by simp) (by simp; omega) (by omega)
  · rfl
theorem rowT_len {rows : By → Option (Nd × By)} (hr : ∀ {s x r}, rows s = some (x, r) → r.length ≤ s.length) {s : By} {x : Nd} {r : By} (h : rowT rows s = some (x, r)) : r.length ≤ s.length := by
 unfold rowT at h
 simp only [Option.map_eq_some_iff] at h
 obtain ⟨⟨l, r'⟩, h1, h2⟩ := h
 cases h2
 exact (rowL_len hr _ h1).1
def parseE (s : By) : Nd × Int := if 200 < s.length then (emptyNd, 3) else match parseP s with | some x => (x, 0) | none => (emptyNd, 10)
structure Ste where
 kind : Nat
 set : Nat
 to : List Nat
 rule : Nat
mutual
def lay : Nd → List Ste → Nat → List Ste × Nat
 | .mk k s kids, ss, to =>
  if k = 1 then (ss ++ [⟨1, s, [to], 0⟩], ss.length)
  else if k = 2 then layCat kids ss to
  else if k = 3 then ((layAlt kids ss to).1 ++ [⟨0, 0, (layAlt kids ss to).2, 0⟩], (layAlt kids ss to).1.length)
  else if k = 6 then ((layOne kids ss to).1 ++ [⟨0, 0, [(layOne kids ss to).2, to], 0⟩], (layOne kids ss to).1.length)
  else if k = 4 ∨ k = 5 then
   ((layOne kids (ss ++ [⟨0, 0, [], 0⟩]) ss.length).1.set ss.length ⟨0, 0, [(layOne kids (ss ++ [⟨0, 0, [], 0⟩]) ss.length).2, to], 0⟩,
    if k = 5 then (layOne kids (ss ++ [⟨0, 0, [], 0⟩]) ss.length).2 else ss.length)
  else (ss, to)
def layCat : List Nd → List Ste → Nat → List Ste × Nat
 | [], ss, to => (ss, to)
 | x :: r, ss, to => lay x (layCat r ss to).1 (layCat r ss to).2
def layAlt : List Nd → List Ste → Nat → List Ste × List Nat
 | [], ss, _ => (ss, [])
 | x :: r, ss, to => ((layAlt r (lay x ss to).1 to).1, (lay x ss to).2 :: (layAlt r (lay x ss to).1 to).2)
def layOne : List Nd → List Ste → Nat → List Ste × Nat
 | [], ss, to => (ss, to)
 | x :: _, ss, to => lay x ss to
end
mutual
def szN : Nd → Nat
 | .mk _ _ kids => szL kids + 1
def szL : List Nd → Nat
 | [] => 0
 | x :: r => szN x + szL r
end
mutual
def wfN : Nd → Bool
 | .mk k _ kids => (!(k == 4 || k == 5 || k == 6) || kids.length == 1) && wfL kids
def wfL : List Nd → Bool
 | [] => true
 | x :: r => wfN x && wfL r
end
theorem szN_pos (x : Nd) : 0 < szN x := by cases x; simp [szN]
theorem szL_append : ∀ (l m : List Nd), szL (l ++ m) = szL l + szL m
 | [], m => by simp [szL]
 | x :: l, m => by simp only [List.cons_append, szL]; rw [szL_append l m]; omega
theorem wfL_append : ∀ (l m : List Nd), wfL (l ++ m) = (wfL l && wfL m)
 | [], m => by simp [wfL]
 | x :: l, m => by simp only [List.cons_append, wfL]; rw [wfL_append l m, Bool.and_assoc]
theorem wfL_mem : ∀ {l : List Nd} {i : Nat} {x : Nd}, wfL l = true → l[i]? = some x → wfN x = true
 | [], i, x, _, h => by simp at h
 | y :: l, 0, x, hw, h => by simp at h; subst h; simp only [wfL, Bool.and_eq_true] at hw; exact hw.1
 | y :: l, i + 1, x, hw, h => by simp only [wfL, Bool.and_eq_true] at hw; exact wfL_mem hw.2 (by simpa using h)
mutual
theorem lay_len : ∀ (x : Nd) (ss : List Ste) (to : Nat), ss.length ≤ (lay x ss to).1.length ∧ (lay x ss to).1.length ≤ ss.length + szN x
 | .mk k s kids, ss, to => by
  rw [lay]
  simp only [szN]
  split
  · simp
  · split
    · have := layCat_len kids ss to; omega
    · split
      · have := layAlt_len kids ss to; simp only [List.length_append, List.length_singleton]; omega
      · split
        · have := layOne_len kids ss to; simp only [List.length_append, List.length_singleton]; omega
        · split
          · have := layOne_len kids (ss ++ [⟨0, 0, [], 0⟩]) ss.length
            simp only [List.length_append, List.length_singleton] at this
            simp only [List.length_set]; omega
          · simp
theorem layCat_len : ∀ (l : List Nd) (ss : List Ste) (to : Nat), ss.length ≤ (layCat l ss to).1.length ∧ (layCat l ss to).1.length ≤ ss.length + szL l
 | [], ss, to => by simp [layCat, szL]
 | x :: r, ss, to => by
  rw [layCat]
  have h1 := layCat_len r ss to
  have h2 := lay_len x (layCat r ss to).1 (layCat r ss to).2
  simp only [szL]; omega
theorem layAlt_len : ∀ (l : List Nd) (ss : List Ste) (to : Nat), ss.length ≤ (layAlt l ss to).1.length ∧ (layAlt l ss to).1.length ≤ ss.length + szL l
 | [], ss, to => by simp [layAlt, szL]
 | x :: r, ss, to => by
  rw [layAlt]
  have h1 := lay_len x ss to
  have h2 := layAlt_len r (lay x ss to).1 to
  simp only [szL]; omega
theorem layOne_len : ∀ (l : List Nd) (ss : List Ste) (to : Nat), ss.length ≤ (layOne l ss to).1.length ∧ (layOne l ss to).1.length ≤ ss.length + szL l
 | [], ss, to => by simp [layOne, szL]
 | x :: r, ss, to => by
  rw [layOne]
  have h1 := lay_len x ss to
  simp only [szL]; omega
end
def Small (s : By) (p : Option (Nd × By)) : Prop := ∀ x r, p = some (x, r) → szN x + 2 * r.length ≤ 2 * s.length + 1 ∧ wfN x = true
theorem sz_join (k : Nat) (l : List Nd) : szN (joinNd k l) ≤ szL l + 1 := by
 unfold joinNd
 split
 · simp [emptyNd, szN, szL]
 · simp [szL]
 · simp [szN]
theorem wf_join {k : Nat} {l : List Nd} (hk : k = 2 ∨ k = 3) (h : wfL l = true) : wfN (joinNd k l) = true := by
 unfold joinNd
 split
 · rfl
 · simp only [wfL, Bool.and_eq_true] at h; exact h.1
 · simp only [wfN, h, Bool.and_true]; rcases hk with rfl | rfl <;> rfl
theorem signs_small : ∀ (s : By) (n : Nd), wfN n = true → szN (signsP n s).1 + 2 * (signsP n s).2.length ≤ szN n + 2 * s.length ∧ wfN (signsP n s).1 = true
 | [], n, hw => by simp [signsP, hw]
 | c :: r, n, hw => by
  rw [signsP]
  split
  · simp [hw]
  · rename_i hs
    have hw' : wfN (.mk (signOf c) 0 [n]) = true := by simp [wfN, wfL, hw]
    have h := signs_small r (.mk (signOf c) 0 [n]) hw'
    refine ⟨?_, h.2⟩
    have h1 := h.1
    simp only [szN, szL, List.length_cons] at h1 ⊢; omega
theorem piece_small {rows : By → Option (Nd × By)} (hr : ∀ s, Small s (rows s)) {s : By} {x : Nd} {r : By} (h : pieceP rows s = some (x, r)) : szN x + 2 * r.length + 1 ≤ 2 * s.length ∧ wfN x = true := by
 have leaf : ∀ k st, (k = 0 ∨ k = 1) → wfN (.mk k st []) = true := fun k st hk => by rcases hk with rfl | rfl <;> rfl
 have key : ∀ y t, atomP rows s = some (y, t) → szN y + 2 * t.length + 1 ≤ 2 * s.length ∧ wfN y = true := by
  intro y t ha
  have hlen : ∀ (k st : Nat), y = .mk k st [] → t.length < s.length → szN y + 2 * t.length + 1 ≤ 2 * s.length := fun k st hy ht => by subst hy; simp only [szN, szL]; omega
  unfold atomP at ha
  split at ha
  · cases ha
  · rename_i c u
    split at ha
    · split at ha
      · cases ha
      · rename_i n t' ht
        split at ha
        · rename_i t'' _
          cases ha
          have := hr _ _ _ ht
          simp only [List.length_cons] at this ⊢
          exact ⟨by omega, this.2⟩
        · cases ha
    · split at ha
      · have hb := bracketP_len ha
        have hy : ∃ st, y = .mk 1 st [] := by
         unfold bracketP at ha
         split at ha <;> (simp only [Option.map_eq_some_iff] at ha; obtain ⟨⟨m, r'⟩, _, h2⟩ := ha; cases h2; exact ⟨_, rfl⟩)
        obtain ⟨st, rfl⟩ := hy
        exact ⟨hlen _ _ rfl (by simp only [List.length_cons]; omega), leaf _ _ (.inr rfl)⟩
      · split at ha
        · cases ha; exact ⟨hlen _ _ rfl (by simp), leaf _ _ (.inr rfl)⟩
        · split at ha
          · simp only [Option.map_eq_some_iff] at ha
            obtain ⟨⟨b, r'⟩, h1, h2⟩ := ha
            have := escP_len h1
            cases h2
            exact ⟨hlen _ _ rfl (by simp only [List.length_cons]; omega), leaf _ _ (.inr rfl)⟩
          · split at ha
            · cases ha
            · cases ha; exact ⟨hlen _ _ rfl (by simp), leaf _ _ (.inr rfl)⟩
 unfold pieceP at h
 simp only [Option.map_eq_some_iff] at h
 obtain ⟨⟨n, t⟩, h1, h2⟩ := h
 have h3 := key n t h1
 have h4 := signs_small t n h3.2
 rw [h2] at h4
 simp only at h4
 exact ⟨by omega, h4.2⟩
theorem rowsG_small {rows : By → Option (Nd × By)} (hr : ∀ s, Small s (rows s)) : ∀ (n : Nat) (all row : List Nd) (s : By) (x : Nd) (r : By), wfL all = true → wfL row = true → rowsG rows n all row s = some (x, r) →
 szN x + 2 * r.length ≤ 2 * s.length + 1 + szL all + szL row + (if all = [] then 0 else 1) ∧ wfN x = true
 | 0, _, _, _, _, _, _, _, h => by cases h
 | n + 1, all, row, s, x, r, hwa, hwr, h => by
  rw [rowsG] at h
  split at h
  · split at h
    · rename_i hbar
      have hs : s.tail.length + 1 = s.length := by cases s with | nil => cases hbar | cons a b => simp
      have hw' : wfL (all ++ [joinNd 2 row]) = true := by rw [wfL_append, hwa]; simp [wfL, wf_join (.inl rfl) hwr]
      have ih := rowsG_small hr n _ _ _ _ _ hw' (by rfl) h
      have hj := sz_join 2 row
      have ha : szL (all ++ [joinNd 2 row]) = szL all + szN (joinNd 2 row) := by rw [szL_append]; simp [szL]
      rw [ha] at ih
      refine ⟨?_, ih.2⟩
      have h1 := ih.1
      rw [if_neg (by simp)] at h1
      simp only [szL] at h1
      omega
    · cases h
      have hj := sz_join 2 row
      have hj3 := sz_join 3 (all ++ [joinNd 2 row])
      have ha : szL (all ++ [joinNd 2 row]) = szL all + szN (joinNd 2 row) := by rw [szL_append]; simp [szL]
      refine ⟨?_, wf_join (.inr rfl) (by rw [wfL_append, hwa]; simp [wfL, wf_join (.inl rfl) hwr])⟩
      split
      · rename_i he
        subst he
        have : joinNd 3 ([] ++ [joinNd 2 row]) = joinNd 2 row := rfl
        rw [this]
        simp only [szL] at *; omega
      · rw [ha] at hj3; omega
  · split at h
    · cases h
    · rename_i y t ht
      have h1 := piece_small hr ht
      have ih := rowsG_small hr n all (row ++ [y]) t x r hwa (by rw [wfL_append, hwr]; simp [wfL, h1.2]) h
      have ha : szL (row ++ [y]) = szL row + szN y := by rw [szL_append]; simp [szL]
      rw [ha] at ih
      exact ⟨by have := ih.1; omega, ih.2⟩
theorem rowsP_small : ∀ (d : Nat) (s : By), Small s (rowsP d s)
 | 0, s => fun x r h => by cases h
 | d + 1, s => fun x r h => by
  have := rowsG_small (fun s => rowsP_small d s) _ _ _ _ _ _ rfl rfl h
  simpa [szL] using this
theorem parseP_small {s : By} {x : Nd} (h : parseP s = some x) : szN x ≤ 2 * s.length + 1 ∧ wfN x = true := by
 unfold parseP at h
 split at h
 · rename_i n hn
   cases h
   have := rowsP_small _ _ _ _ hn
   simpa using this
 · cases h
theorem layCat_drop {l : List Nd} {i : Nat} {x : Nd} (hx : l[i]? = some x) (ss : List Ste) (to : Nat) : layCat (l.drop i) ss to = lay x (layCat (l.drop (i + 1)) ss to).1 (layCat (l.drop (i + 1)) ss to).2 := by
 obtain ⟨hi, rfl⟩ := List.getElem?_eq_some_iff.1 hx
 rw [List.drop_eq_getElem_cons hi, layCat]
theorem layAlt_len2 : ∀ (l : List Nd) (ss : List Ste) (to : Nat), (layAlt l ss to).2.length = l.length
 | [], ss, to => by simp [layAlt]
 | x :: r, ss, to => by rw [layAlt]; simp [layAlt_len2 r]
mutual
theorem lay_pre : ∀ (x : Nd) (ss : List Ste) (to i : Nat), i < ss.length → (lay x ss to).1[i]? = ss[i]?
 | .mk k s kids, ss, to, i, hi => by
  rw [lay]
  split
  · simp [List.getElem?_append_left hi]
  · split
    · exact layCat_pre kids ss to i hi
    · split
      · have := layAlt_len kids ss to
        simp only
        rw [List.getElem?_append_left (by omega)]; exact layAlt_pre kids ss to i hi
      · split
        · have := layOne_len kids ss to
          simp only
          rw [List.getElem?_append_left (by omega)]; exact layOne_pre kids ss to i hi
        · split
          · simp only
            rw [List.getElem?_set_ne (by omega), layOne_pre kids (ss ++ [(⟨0, 0, [], 0⟩ : Ste)]) ss.length i (by simp; omega), List.getElem?_append_left hi]
          · rfl
theorem layCat_pre : ∀ (l : List Nd) (ss : List Ste) (to i : Nat), i < ss.length → (layCat l ss to).1[i]? = ss[i]?
 | [], ss, to, i, hi => by simp [layCat]
 | x :: r, ss, to, i, hi => by
  rw [layCat]
  have h1 := layCat_len r ss to
  rw [lay_pre x _ _ i (by omega), layCat_pre r ss to i hi]
theorem layAlt_pre : ∀ (l : List Nd) (ss : List Ste) (to i : Nat), i < ss.length → (layAlt l ss to).1[i]? = ss[i]?
 | [], ss, to, i, hi => by simp [layAlt]
 | x :: r, ss, to, i, hi => by
  rw [layAlt]
  have h1 := lay_len x ss to
  simp only
  rw [layAlt_pre r _ _ i (by omega), lay_pre x ss to i hi]
theorem layOne_pre : ∀ (l : List Nd) (ss : List Ste) (to i : Nat), i < ss.length → (layOne l ss to).1[i]? = ss[i]?
 | [], ss, to, i, hi => by simp [layOne]
 | x :: r, ss, to, i, hi => by
  rw [layOne]
  exact lay_pre x ss to i hi
end
theorem szL_take {l : List Nd} {i : Nat} {x : Nd} (hx : l[i]? = some x) : szL (l.take i) + szN x ≤ szL l := by
 obtain ⟨hi, rfl⟩ := List.getElem?_eq_some_iff.1 hx
 have h : szL (l.take i ++ l.drop i) = szL l := by rw [List.take_append_drop]
 rw [szL_append, List.drop_eq_getElem_cons hi, szL] at h
 omega
theorem szL_drop {l : List Nd} {i : Nat} {x : Nd} (hx : l[i]? = some x) : szL (l.drop (i + 1)) + szN x ≤ szL l := by
 obtain ⟨hi, rfl⟩ := List.getElem?_eq_some_iff.1 hx
 have h : szL (l.take i ++ l.drop i) = szL l := by rw [List.take_append_drop]
 rw [szL_append, List.drop_eq_getElem_cons hi, szL] at h
 omega
theorem szL_len : ∀ l : List Nd, l.length ≤ szL l
 | [] => by simp [szL]
 | x :: l => by have := szL_len l; have := szN_pos x; simp only [List.length_cons, szL]; omega
def pot : List Ste → List Bool → Nat
 | x :: r, b :: s => (if b then 0 else x.to.length + 1) + pot r s
 | _, _ => 0
def closG (ss : List Ste) : Nat → List Nat → List Bool → List Bool
 | 0, _, seen => seen
 | n + 1, todo, seen =>
  match todo.getLast? with
  | none => seen
  | some i =>
   if seen[i]? = some true then closG ss n todo.dropLast seen
   else closG ss n (match ss[i]? with | some x => if x.kind = 0 then todo.dropLast ++ x.to else todo.dropLast | none => todo.dropLast) (seen.set i true)
def closed (ss : List Ste) (todo : List Nat) : List Nat :=
 if todo.length = 0 then []
 else ((List.range ss.length).filter fun i => (closG ss (todo.length + pot ss (List.replicate ss.length false)) todo (List.replicate ss.length false))[i]? == some true && (ss[i]?.map (·.kind)) != some 0)
theorem pot_set : ∀ (ss : List Ste) (seen : List Bool) (i : Nat) (x : Ste), ss[i]? = some x → seen[i]? = some false → pot ss (seen.set i true) + (x.to.length + 1) = pot ss seen
 | [], _, _, _, h, _ => by simp at h
 | _ :: _, [], _, _, _, h => by simp at h
 | y :: r, b :: s, 0, x, h1, h2 => by
  simp at h1 h2; subst h1 h2
  simp [pot]; omega
 | y :: r, b :: s, i + 1, x, h1, h2 => by
  have := pot_set r s i x (by simpa using h1) (by simpa using h2)
  simp only [List.set_cons_succ, pot]; omega
def Good (ss : List Ste) : Prop := ∀ x ∈ ss, ∀ j ∈ x.to, j < ss.length
def startP (ss : List Ste) (st : Nat) : List Nat := if ss.length = 0 then [] else closed ss [st]
def accOk (x : Ste) (b : Int) : Bool := decide (x.kind = 2 ∧ (b < 0 ∨ (x.rule : Int) < b))
def accG (ss : List Ste) : List Nat → Int → Int
 | [], b => b
 | j :: r, b => accG ss r (match ss[j]? with | some x => if accOk x b then x.rule else b | none => b)
def acceptsP (ss : List Ste) (now : List Nat) : Int := if ss.length = 0 then -1 else accG ss now (-1)
def stepOk (x : Ste) (c : UInt8) : Bool := decide (x.kind = 1) && x.set.testBit c.toNat
def stepG (ss : List Ste) (c : UInt8) : List Nat → List Nat → List Nat
 | [], a => a
 | j :: r, a => stepG ss c r (match ss[j]? with | some x => if stepOk x c then a ++ x.to else a | none => a)
def stepP (ss : List Ste) (c : UInt8) (now : List Nat) : List Nat := if ss.length = 0 then [] else closed ss (stepG ss c now [])
theorem stepG_len (ss : List Ste) (c : UInt8) : ∀ (l a : List Nat), a.length ≤ (stepG ss c l a).length
 | [], a => Nat.le_refl _
 | j :: r, a => by
  rw [stepG]
  refine Nat.le_trans ?_ (stepG_len ss c r _)
  split
  · split <;> simp
  · exact Nat.le_refl _
def matchG (ss : List Ste) : List UInt8 → List Nat → Nat → Int × Int → Int × Int
 | l, now, k, b =>
  if now.length = 0 then b
  else match l with
   | [] => if 0 ≤ acceptsP ss now then ((k : Int), acceptsP ss now) else b
   | c :: r => matchG ss r (stepP ss c now) (k + 1) (if 0 ≤ acceptsP ss now then ((k : Int), acceptsP ss now) else b)
def matchP (ss : List Ste) (st : Nat) (l : List UInt8) : Int × Int := if ss.length = 0 then (0, -1) else matchG ss l (startP ss st) 0 (0, -1)
def matchA (ss : List Ste) (st : Nat) (s : By) (a : Int) : Int × Int := if ss.length = 0 ∨ a < 0 ∨ (s.length : Int) < a then (0, -1) else matchP ss st (s.drop a.toNat)
theorem matchG_nil {ss : List Ste} {l : List UInt8} {now : List Nat} {k : Nat} {b : Int × Int} (h : now.length = 0) : matchG ss l now k b = b := by cases l <;> (rw [matchG]; exact if_pos h)
theorem startP_sub (ss : List Ste) (st : Nat) : (startP ss st).Sublist (List.range ss.length) := by
 unfold startP closed
 split
 · exact List.nil_sublist _
 · split
   · exact List.nil_sublist _
   · exact List.filter_sublist
theorem stepP_sub (ss : List Ste) (c : UInt8) (now : List Nat) : (stepP ss c now).Sublist (List.range ss.length) := by
 unfold stepP closed
 split
 · exact List.nil_sublist _
 · split
   · exact List.nil_sublist _
   · exact List.filter_sublist
def makeG : Nat → List By → List Ste → List Nat → Int ⊕ (List Ste × List Nat)
 | _, [], ss, t => .inr (ss, t)
 | i, s :: r, ss, t => if (parseE s).2 ≠ 0 then .inl (parseE s).2 else makeG (i + 1) r (lay (parseE s).1 (ss ++ [⟨2, 0, [], i⟩]) ss.length).1 (t ++ [(lay (parseE s).1 (ss ++ [⟨2, 0, [], i⟩]) ss.length).2])
def totL (l : List By) : Nat := (l.map List.length).sum
def makeP (rules : List By) : Int ⊕ (List Ste × Nat) :=
 if rules.length = 0 ∨ 64 < rules.length then .inl 2
 else match makeG 0 rules [] [] with
  | .inl e => .inl e
  | .inr (ss, t) => if 2000 < totL rules then .inl 70 else .inr (ss ++ [⟨0, 0, t, 0⟩], ss.length)
theorem parseE_small {s : By} (h0 : (parseE s).2 = 0) : szN (parseE s).1 ≤ 401 ∧ wfN (parseE s).1 = true ∧ s.length ≤ 200 := by
 unfold parseE at *
 split at h0
 · cases h0
 · rename_i hl
   rw [if_neg hl]
   split at h0
   · rename_i x hx
     have := parseP_small hx
     exact ⟨by show szN x ≤ 401; omega, this.2, by omega⟩
   · cases h0
theorem totL_take {l : List By} {i : Nat} {s : By} (hx : l[i]? = some s) : totL (l.take (i + 1)) = totL (l.take i) + s.length := by
 rw [List.take_add_one, hx, Option.toList_some]
 simp [totL]
inductive StarL (A : By → Prop) : By → Prop where
 | nil : StarL A []
 | cons {u v : By} : A u → StarL A v → StarL A (u ++ v)
mutual
def Lng : Nd → By → Prop
 | .mk k s kids => fun w =>
  if k = 1 then ∃ c : UInt8, w = [c] ∧ s.testBit c.toNat = true
  else if k = 2 then LngCat kids w
  else if k = 3 then LngAlt kids w
  else if k = 6 then w = [] ∨ LngOne kids w
  else if k = 4 then StarL (LngOne kids) w
  else if k = 5 then ∃ u v, w = u ++ v ∧ LngOne kids u ∧ StarL (LngOne kids) v
  else w = []
def LngCat : List Nd → By → Prop
 | [] => fun w => w = []
 | x :: r => fun w => ∃ u v, w = u ++ v ∧ Lng x u ∧ LngCat r v
def LngAlt : List Nd → By → Prop
 | [] => fun _ => False
 | x :: r => fun w => Lng x w ∨ LngAlt r w
def LngOne : List Nd → By → Prop
 | [] => fun w => w = []
 | x :: _ => fun w => Lng x w
end
inductive Acc (F : List Ste) (fin : Nat → Prop) : Nat → Nat → By → Prop where
 | done {q : Nat} : fin q → Acc F fin 0 q []
 | eps {n q q' : Nat} {x : Ste} {w : By} : F[q]? = some x → x.kind = 0 → q' ∈ x.to → Acc F fin n q' w → Acc F fin (n + 1) q w
 | eat {n q q' : Nat} {x : Ste} {c : UInt8} {w : By} : F[q]? = some x → x.kind = 1 → x.set.testBit c.toNat = true → q' ∈ x.to → Acc F fin n q' w → Acc F fin (n + 1) q (c :: w)
def FinOk (F : List Ste) (fin : Nat → Prop) : Prop := ∀ q, fin q → ∃ x, F[q]? = some x ∧ x.kind = 2
theorem Acc.fork {F : List Ste} {fin : Nat → Prop} (hf : FinOk F fin) {n q : Nat} {x : Ste} {w : By} (hx : F[q]? = some x) (hk : x.kind = 0) (h : Acc F fin n q w) : ∃ m q', m < n ∧ q' ∈ x.to ∧ Acc F fin m q' w := by
 cases h with
 | done hq => obtain ⟨y, hy, hk2⟩ := hf _ hq; rw [hx] at hy; cases hy; omega
 | eps hy _ hq h => rw [hx] at hy; cases hy; exact ⟨_, _, Nat.lt_succ_self _, hq, h⟩
 | eat hy hk1 _ _ _ => rw [hx] at hy; cases hy; omega
theorem Acc.bite {F : List Ste} {fin : Nat → Prop} (hf : FinOk F fin) {n q : Nat} {x : Ste} {w : By} (hx : F[q]? = some x) (hk : x.kind = 1) (h : Acc F fin n q w) : ∃ m q' c w', m < n ∧ w = c :: w' ∧ x.set.testBit c.toNat = true ∧ q' ∈ x.to ∧ Acc F fin m q' w' := by
 cases h with
 | done hq => obtain ⟨y, hy, hk2⟩ := hf _ hq; rw [hx] at hy; cases hy; omega
 | eps hy hk1 _ _ => rw [hx] at hy; cases hy; omega
 | eat hy _ hc hq h => rw [hx] at hy; cases hy; exact ⟨_, _, _, _, Nat.lt_succ_self _, rfl, hc, hq, h⟩
def Splits (F : List Ste) (fin : Nat → Prop) (b to : Nat) (A : By → Prop) : Prop :=
 (∀ n w, Acc F fin n b w → ∃ u v m, w = u ++ v ∧ A u ∧ m ≤ n ∧ Acc F fin m to v) ∧ (∀ u v m, A u → Acc F fin m to v → ∃ n, Acc F fin n b (u ++ v))
def Same (F ss' : List Ste) (lo : Nat) : Prop := ∀ i, lo ≤ i → i < ss'.length → F[i]? = ss'[i]?
theorem splits_nil {F : List Ste} {fin : Nat → Prop} {to : Nat} : Splits F fin to to (fun w => w = []) :=
 ⟨fun n w h => ⟨[], w, n, rfl, rfl, Nat.le_refl _, h⟩, fun u v m hu h => ⟨m, by subst hu; exact h⟩⟩
theorem splits_star {F : List Ste} {fin : Nat → Prop} (hf : FinOk F fin) {first again to : Nat} {A : By → Prop} {x : Ste} (hx : F[again]? = some x) (hk : x.kind = 0) (ht : x.to = [first, to]) (h : Splits F fin first again A) : Splits F fin again to (StarL A) := by
 constructor
 · intro n
   induction n using Nat.strongRecOn with
   | _ n ih =>
    intro w hw
    obtain ⟨m, q', hm, hq, hw'⟩ := hw.fork hf hx hk
    rw [ht] at hq
    rcases List.mem_cons.1 hq with rfl | hq
    · obtain ⟨u1, v1, m1, rfl, hu1, hm1, hv1⟩ := h.1 _ _ hw'
      obtain ⟨u2, v2, m2, rfl, hu2, hm2, hv2⟩ := ih m1 (by omega) _ hv1
      exact ⟨u1 ++ u2, v2, m2, by simp, .cons hu1 hu2, by omega, hv2⟩
    · have : q' = to := by simpa using hq
      subst this
      exact ⟨[], w, m, rfl, .nil, by omega, hw'⟩
 · intro u v m hu hv
   induction hu with
   | nil => exact ⟨m + 1, .eps hx hk (by rw [ht]; simp) hv⟩
   | cons hA _ ih =>
    obtain ⟨n, hn⟩ := ih
    obtain ⟨n', hn'⟩ := h.2 _ _ _ hA hn
    exact ⟨n' + 1, .eps (q' := first) hx hk (by rw [ht]; simp) (by rw [List.append_assoc]; exact hn')⟩
theorem splits_seq {F : List Ste} {fin : Nat → Prop} {b c to : Nat} {A B : By → Prop} (h1 : Splits F fin b c A) (h2 : Splits F fin c to B) : Splits F fin b to (fun w => ∃ u v, w = u ++ v ∧ A u ∧ B v) := by
 constructor
 · intro n w hw
   obtain ⟨u1, v1, m1, rfl, hu1, hm1, hv1⟩ := h1.1 _ _ hw
   obtain ⟨u2, v2, m2, rfl, hu2, hm2, hv2⟩ := h2.1 _ _ hv1
   exact ⟨u1 ++ u2, v2, m2, by simp, ⟨_, _, rfl, hu1, hu2⟩, by omega, hv2⟩
 · rintro u v m ⟨u1, u2, rfl, hA, hB⟩ hv
   obtain ⟨n, hn⟩ := h2.2 _ _ _ hB hv
   obtain ⟨n', hn'⟩ := h1.2 _ _ _ hA hn
   exact ⟨n', by rw [List.append_assoc]; exact hn'⟩
mutual
theorem lay_splits {F : List Ste} {fin : Nat → Prop} (hf : FinOk F fin) : ∀ (x : Nd) (ss : List Ste) (to : Nat), Same F (lay x ss to).1 ss.length → Splits F fin (lay x ss to).2 to (Lng x)
 | .mk k s kids, ss, to, hs => by
  rw [lay] at hs ⊢
  unfold Lng
  by_cases h1 : k = 1
  · simp only [if_pos h1] at hs ⊢
    have hx : F[ss.length]? = some ⟨1, s, [to], 0⟩ := by rw [hs _ (Nat.le_refl _) (by simp)]; simp
    constructor
    · intro n w hw
      obtain ⟨m, q', c, w', hm, rfl, hc, hq, hw'⟩ := hw.bite hf hx rfl
      have : q' = to := by simpa using hq
      subst this
      exact ⟨[c], w', m, rfl, ⟨c, rfl, hc⟩, by omega, hw'⟩
    · rintro u v m ⟨c, rfl, hc⟩ hv
      exact ⟨m + 1, .eat hx rfl hc (by simp) hv⟩
  · simp only [if_neg h1] at hs ⊢
    by_cases h2 : k = 2
    · simp only [if_pos h2] at hs ⊢
      exact layCat_splits hf kids ss to hs
    · simp only [if_neg h2] at hs ⊢
      by_cases h3 : k = 3
      · simp only [if_pos h3] at hs ⊢
        have hl := layAlt_len kids ss to
        have hx : F[(layAlt kids ss to).1.length]? = some ⟨0, 0, (layAlt kids ss to).2, 0⟩ := by rw [hs _ (by omega) (by simp)]; simp
        have ih := layAlt_splits hf kids ss to (fun i h1 h2 => by rw [hs i h1 (by simp; omega), List.getElem?_append_left h2])
        constructor
        · intro n w hw
          obtain ⟨m, q', hm, hq, hw'⟩ := hw.fork hf hx rfl
          obtain ⟨u, v, m', hu⟩ := ih.1 _ _ _ hq hw'
          exact ⟨u, v, m', hu.1, hu.2.1, by omega, hu.2.2.2⟩
        · intro u v m hu hv
          obtain ⟨n, q', hq, hn⟩ := ih.2 _ _ _ hu hv
          exact ⟨n + 1, .eps hx rfl hq hn⟩
      · simp only [if_neg h3] at hs ⊢
        by_cases h6 : k = 6
        · simp only [if_pos h6] at hs ⊢
          have hl := layOne_len kids ss to
          have hx : F[(layOne kids ss to).1.length]? = some ⟨0, 0, [(layOne kids ss to).2, to], 0⟩ := by rw [hs _ (by omega) (by simp)]; simp
          have ih := layOne_splits hf kids ss to (fun i h1 h2 => by rw [hs i h1 (by simp; omega), List.getElem?_append_left h2])
          constructor
          · intro n w hw
            obtain ⟨m, q', hm, hq, hw'⟩ := hw.fork hf hx rfl
            rcases List.mem_cons.1 hq with rfl | hq
            · obtain ⟨u, v, m', h1, h2, h3, h4⟩ := ih.1 _ _ hw'
              exact ⟨u, v, m', h1, .inr h2, by omega, h4⟩
            · have : q' = to := by simpa using hq
              subst this
              exact ⟨[], w, m, rfl, .inl rfl, by omega, hw'⟩
          · rintro u v m (rfl | hu) hv
            · exact ⟨m + 1, .eps hx rfl (by simp) hv⟩
            · obtain ⟨n, hn⟩ := ih.2 _ _ _ hu hv
              exact ⟨n + 1, .eps hx rfl (by simp) hn⟩
        · simp only [if_neg h6] at hs ⊢
          by_cases h45 : k = 4 ∨ k = 5
          · simp only [if_pos h45] at hs ⊢
            have hl := layOne_len kids (ss ++ [⟨0, 0, [], 0⟩]) ss.length
            simp only [List.length_append, List.length_singleton] at hl
            have hx : F[ss.length]? = some ⟨0, 0, [(layOne kids (ss ++ [⟨0, 0, [], 0⟩]) ss.length).2, to], 0⟩ := by
             rw [hs _ (Nat.le_refl _) (by simp; omega)]; simp [List.getElem?_set]; omega
            have ih := layOne_splits hf kids (ss ++ [⟨0, 0, [], 0⟩]) ss.length (fun i h1 h2 => by
             simp only [List.length_append, List.length_singleton] at h1
             rw [hs i (by omega) (by simp; omega), List.getElem?_set_ne (by omega)])
            have hst := splits_star hf hx rfl rfl ih
            by_cases h4 : k = 4
            · have h5 : ¬ k = 5 := by omega
              simp only [if_pos h4, if_neg h5]; exact hst
            · have h5 : k = 5 := by omega
              simp only [if_neg h4, if_pos h5]; exact splits_seq ih hst
          · simp only [if_neg h45] at hs ⊢
            have h4 : ¬ k = 4 := fun e => h45 (.inl e)
            have h5 : ¬ k = 5 := fun e => h45 (.inr e)
            simp only [if_neg h4, if_neg h5]
            exact splits_nil
theorem layCat_splits {F : List Ste} {fin : Nat → Prop} (hf : FinOk F fin) : ∀ (l : List Nd) (ss : List Ste) (to : Nat), Same F (layCat l ss to).1 ss.length → Splits F fin (layCat l ss to).2 to (LngCat l)
 | [], ss, to, hs => by
  rw [layCat]; unfold LngCat; exact splits_nil
 | x :: r, ss, to, hs => by
  rw [layCat] at hs ⊢
  unfold LngCat
  have hl := layCat_len r ss to
  have hl2 := lay_len x (layCat r ss to).1 (layCat r ss to).2
  have h2 := layCat_splits hf r ss to (fun i h1 h2 => by rw [hs i h1 (by omega), lay_pre x _ _ i h2])
  have h1 := lay_splits hf x (layCat r ss to).1 (layCat r ss to).2 (fun i h1 h2 => hs i (by omega) h2)
  exact splits_seq h1 h2
theorem layAlt_splits {F : List Ste} {fin : Nat → Prop} (hf : FinOk F fin) : ∀ (l : List Nd) (ss : List Ste) (to : Nat), Same F (layAlt l ss to).1 ss.length →
 (∀ n q w, q ∈ (layAlt l ss to).2 → Acc F fin n q w → ∃ u v m, w = u ++ v ∧ LngAlt l u ∧ m ≤ n ∧ Acc F fin m to v) ∧ (∀ u v m, LngAlt l u → Acc F fin m to v → ∃ n q, q ∈ (layAlt l ss to).2 ∧ Acc F fin n q (u ++ v))
 | [], ss, to, hs => by
  rw [layAlt]; unfold LngAlt
  exact ⟨fun n q w h => absurd h List.not_mem_nil, fun u v m h => False.elim h⟩
 | x :: r, ss, to, hs => by
  rw [layAlt] at hs ⊢
  unfold LngAlt
  have hl := lay_len x ss to
  have hl2 := layAlt_len r (lay x ss to).1 to
  have h1 := lay_splits hf x ss to (fun i h1 h2 => by rw [hs i h1 (by simp only; omega)]; exact layAlt_pre r _ _ i h2)
  have h2 := layAlt_splits hf r (lay x ss to).1 to (fun i h1 h2 => hs i (by omega) h2)
  constructor
  · intro n q w hq hw
    rcases List.mem_cons.1 hq with rfl | hq
    · obtain ⟨u, v, m, a, b, c, d⟩ := h1.1 _ _ hw
      exact ⟨u, v, m, a, .inl b, c, d⟩
    · obtain ⟨u, v, m, a, b, c, d⟩ := h2.1 _ _ _ hq hw
      exact ⟨u, v, m, a, .inr b, c, d⟩
  · rintro u v m (hu | hu) hv
    · obtain ⟨n, hn⟩ := h1.2 _ _ _ hu hv
      exact ⟨n, _, List.mem_cons_self, hn⟩
    · obtain ⟨n, q, hq, hn⟩ := h2.2 _ _ _ hu hv
      exact ⟨n, q, List.mem_cons_of_mem _ hq, hn⟩
theorem layOne_splits {F : List Ste} {fin : Nat → Prop} (hf : FinOk F fin) : ∀ (l : List Nd) (ss : List Ste) (to : Nat), Same F (layOne l ss to).1 ss.length → Splits F fin (layOne l ss to).2 to (LngOne l)
 | [], ss, to, hs => by
  rw [layOne]; unfold LngOne; exact splits_nil
 | x :: r, ss, to, hs => by
  rw [layOne] at hs ⊢
  unfold LngOne
  exact lay_splits hf x ss to hs
end
inductive Eps (ss : List Ste) : Nat → Nat → Prop where
 | refl (i : Nat) : Eps ss i i
 | step {i j k : Nat} {x : Ste} : ss[i]? = some x → x.kind = 0 → j ∈ x.to → Eps ss j k → Eps ss i k
theorem Eps.snoc {ss : List Ste} {i j k : Nat} {x : Ste} (h : Eps ss i j) (hx : ss[j]? = some x) (hk : x.kind = 0) (ht : k ∈ x.to) : Eps ss i k := by
 induction h with
 | refl => exact .step hx hk ht (.refl _)
 | step a b c _ ih => exact .step a b c (ih hx)
structure ClInv (ss : List Ste) (T todo : List Nat) (seen : List Bool) : Prop where
 len : seen.length = ss.length
 inn : ∀ j ∈ todo, j < ss.length
 sound : ∀ i, (seen[i]? = some true ∨ i ∈ todo) → ∃ t ∈ T, Eps ss t i
 cl : ∀ (i : Nat) (x : Ste), seen[i]? = some true → ss[i]? = some x → x.kind = 0 → ∀ j ∈ x.to, seen[j]? = some true ∨ j ∈ todo
 all : ∀ t ∈ T, seen[t]? = some true ∨ t ∈ todo
theorem last_split {l : List Nat} {i : Nat} (h : l.getLast? = some i) : l = l.dropLast ++ [i] := by
 obtain ⟨h0, rfl⟩ := List.getLast?_eq_some_iff.1 h
 simp
theorem closG_inv {ss : List Ste} {T : List Nat} (hg : Good ss) : ∀ (n : Nat) (todo : List Nat) (seen : List Bool), todo.length + pot ss seen ≤ n → ClInv ss T todo seen → ClInv ss T [] (closG ss n todo seen)
 | 0, todo, seen, hn, k => by
  have : todo = [] := List.length_eq_zero_iff.1 (by omega)
  subst this
  exact k
 | n + 1, todo, seen, hn, k => by
  unfold closG
  split
  · rename_i h
    have : todo = [] := List.getLast?_eq_none_iff.1 h
    subst this
    exact k
  · rename_i i h
    have hsp := last_split h
    have hlen : todo.length = todo.dropLast.length + 1 := by rw [hsp]; simp
    have hi : i ∈ todo := by rw [hsp]; simp
    have hmem : ∀ j, j ∈ todo → j ∈ todo.dropLast ∨ j = i := fun j hj => by rw [hsp] at hj; simpa using hj
    have hsub : ∀ j, j ∈ todo.dropLast → j ∈ todo := fun j hj => by rw [hsp]; simp [hj]
    split
    · rename_i hs
      refine closG_inv hg n _ _ (by omega) ⟨k.len, fun j hj => k.inn j (hsub j hj), fun j hj => k.sound j (hj.imp id (hsub j)), fun j x a b c d e => ?_, fun t ht => ?_⟩
      · rcases k.cl j x a b c d e with h1 | h1
        · exact .inl h1
        · rcases hmem d h1 with h2 | rfl
          · exact .inr h2
          · exact .inl hs
      · rcases k.all t ht with h1 | h1
        · exact .inl h1
        · rcases hmem t h1 with h2 | rfl
          · exact .inr h2
          · exact .inl hs
    · rename_i hs
      have hil := k.inn i hi
      obtain ⟨x, hx⟩ : ∃ x, ss[i]? = some x := ⟨_, List.getElem?_eq_getElem hil⟩
      have hf : seen[i]? = some false := by
       obtain ⟨b, hb⟩ : ∃ b, seen[i]? = some b := ⟨_, List.getElem?_eq_getElem (by rw [k.len]; exact hil)⟩
       cases b
       · exact hb
       · exact absurd hb hs
      have hp := pot_set ss seen i x hx hf
      have hself : (seen.set i true)[i]? = some true := by rw [List.getElem?_set_self (by rw [k.len]; exact hil)]
      have hset : ∀ j, seen[j]? = some true → (seen.set i true)[j]? = some true := fun j hj => by
       by_cases e : i = j
       · subst e; exact hself
       · rw [List.getElem?_set_ne e]; exact hj
      have hget : ∀ j, (seen.set i true)[j]? = some true → j = i ∨ seen[j]? = some true := fun j hj => by
       by_cases e : i = j
       · exact .inl e.symm
       · rw [List.getElem?_set_ne e] at hj; exact .inr hj
      rw [hx]
      simp only
      obtain ⟨t0, ht0, he0⟩ := k.sound i (.inr hi)
      have hxm : x ∈ ss := List.mem_of_getElem? hx
      generalize hnew : (if x.kind = 0 then todo.dropLast ++ x.to else todo.dropLast) = new
      have hin : ∀ j, j ∈ new → j ∈ todo.dropLast ∨ (x.kind = 0 ∧ j ∈ x.to) := fun j hj => by
       subst hnew
       split at hj
       · rename_i hk
         rcases List.mem_append.1 hj with h1 | h1
         · exact .inl h1
         · exact .inr ⟨hk, h1⟩
       · exact .inl hj
      have hold : ∀ j, j ∈ todo.dropLast → j ∈ new := fun j hj => by
       subst hnew
       split
       · exact List.mem_append_left _ hj
       · exact hj
      have hbig : new.length ≤ todo.dropLast.length + x.to.length := by
       subst hnew
       split <;> simp
      refine closG_inv hg n _ _ (by omega) ⟨by rw [List.length_set]; exact k.len, fun j hj => ?_, fun j hj => ?_, fun j y a b c d e => ?_, fun t ht => ?_⟩
      · rcases hin j hj with h1 | ⟨_, h1⟩
        · exact k.inn j (hsub j h1)
        · exact hg x hxm j h1
      · rcases hj with h1 | h1
        · rcases hget j h1 with rfl | h2
          · exact ⟨t0, ht0, he0⟩
          · exact k.sound j (.inl h2)
        · rcases hin j h1 with h2 | ⟨hk, h2⟩
          · exact k.sound j (.inr (hsub j h2))
          · exact ⟨t0, ht0, he0.snoc hx hk h2⟩
      · rcases hget j a with rfl | a
        · rw [hx] at b; cases b
          refine .inr ?_
          rw [if_pos c] at hnew
          subst hnew
          exact List.mem_append_right _ e
        · rcases k.cl j y a b c d e with h1 | h1
          · exact .inl (hset d h1)
          · rcases hmem d h1 with h2 | rfl
            · exact .inr (hold d h2)
            · exact .inl hself
      · rcases k.all t ht with h1 | h1
        · exact .inl (hset t h1)
        · rcases hmem t h1 with h2 | rfl
          · exact .inr (hold t h2)
          · exact .inl hself
theorem closed_mem {ss : List Ste} (hg : Good ss) {todo : List Nat} (ht : ∀ j ∈ todo, j < ss.length) (j : Nat) : j ∈ closed ss todo ↔ ∃ x, ss[j]? = some x ∧ x.kind ≠ 0 ∧ ∃ t ∈ todo, Eps ss t j := by
 unfold closed
 split
 · rename_i h
   have : todo = [] := List.length_eq_zero_iff.1 h
   subst this
   simp
 · have h0 : ∀ i : Nat, (List.replicate ss.length false)[i]? ≠ some true := fun i hi => by rw [List.getElem?_replicate] at hi; split at hi <;> cases hi
   have hi0 : ClInv ss todo todo (List.replicate ss.length false) := ⟨by simp, ht, fun i hi => hi.elim (fun hi => absurd hi (h0 i)) fun hi => ⟨i, hi, .refl i⟩, fun i x hi => absurd hi (h0 i), fun t h => .inr h⟩
   have hi := closG_inv hg (todo.length + pot ss (List.replicate ss.length false)) todo _ (Nat.le_refl _) hi0
   generalize closG ss (todo.length + pot ss (List.replicate ss.length false)) todo (List.replicate ss.length false) = out at hi
   simp only [List.mem_filter, List.mem_range, Bool.and_eq_true, bne_iff_ne, ne_eq]
   constructor
   · rintro ⟨hj, h1, h2⟩
     obtain ⟨x, hx⟩ : ∃ x, ss[j]? = some x := ⟨_, List.getElem?_eq_getElem hj⟩
     rw [hx] at h2
     have h1 : out[j]? = some true := by simpa using h1
     exact ⟨x, hx, by simpa using h2, hi.sound j (.inl h1)⟩
   · rintro ⟨x, hx, hk, t, ht', he⟩
     have key : ∀ a b, Eps ss a b → out[a]? = some true → out[b]? = some true := by
      intro a b he
      induction he with
      | refl => exact id
      | step hy hk hm _ ih =>
       intro ha
       refine ih ?_
       rcases hi.cl _ _ ha hy hk _ hm with h1 | h1
       · exact h1
       · cases h1
     have h1 := key _ _ he (by
      rcases hi.all t ht' with h1 | h1
      · exact h1
      · cases h1)
     refine ⟨(List.getElem?_eq_some_iff.1 hx).1, by rw [h1]; rfl, by rw [hx]; simpa using hk⟩
theorem Acc.through {ss : List Ste} {fin : Nat → Prop} {i j : Nat} (h : Eps ss i j) {w : By} {n : Nat} (k : Acc ss fin n j w) : ∃ m, Acc ss fin m i w := by
 induction h with
 | refl => exact ⟨n, k⟩
 | step a b c _ ih => obtain ⟨m, hm⟩ := ih k; exact ⟨m + 1, .eps a b c hm⟩
theorem Acc.stop {ss : List Ste} {fin : Nat → Prop} (hf : FinOk ss fin) {w : By} {n i : Nat} (k : Acc ss fin n i w) : ∃ j x, Eps ss i j ∧ ss[j]? = some x ∧ x.kind ≠ 0 ∧ ∃ m, Acc ss fin m j w := by
 induction k with
 | done hq => obtain ⟨x, hx, hk⟩ := hf _ hq; exact ⟨_, x, .refl _, hx, by omega, _, .done hq⟩
 | eps a b c _ ih => obtain ⟨j, x, he, hr⟩ := ih; exact ⟨j, x, .step a b c he, hr⟩
 | eat a b c d e _ => exact ⟨_, _, .refl _, a, by omega, _, .eat a b c d e⟩
def AccS (ss : List Ste) (fin : Nat → Prop) (T : List Nat) (w : By) : Prop := ∃ j ∈ T, ∃ n, Acc ss fin n j w
theorem closed_acc {ss : List Ste} {fin : Nat → Prop} (hf : FinOk ss fin) (hg : Good ss) {todo : List Nat} (ht : ∀ j ∈ todo, j < ss.length) (w : By) : AccS ss fin (closed ss todo) w ↔ AccS ss fin todo w := by
 constructor
 · rintro ⟨j, hj, n, h⟩
   obtain ⟨x, hx, hk, t, ht', he⟩ := (closed_mem hg ht j).1 hj
   exact ⟨t, ht', h.through he⟩
 · rintro ⟨t, ht', n, h⟩
   obtain ⟨j, x, he, hx, hk, hm⟩ := h.stop hf
   exact ⟨j, (closed_mem hg ht j).2 ⟨x, hx, hk, t, ht', he⟩, hm⟩
theorem stepG_mem (ss : List Ste) (c : UInt8) (k : Nat) : ∀ (l a : List Nat), k ∈ stepG ss c l a ↔ k ∈ a ∨ ∃ j ∈ l, ∃ x, ss[j]? = some x ∧ stepOk x c = true ∧ k ∈ x.to
 | [], a => by simp [stepG]
 | j :: r, a => by
  rw [stepG, stepG_mem ss c k r]
  cases hx : ss[j]? with
  | none => simp [hx]
  | some x =>
   simp only
   cases ho : stepOk x c with
   | true => simp [hx, ho, or_assoc]
   | false => simp [hx, ho]
def Flat (ss : List Ste) (T : List Nat) : Prop := ∀ j ∈ T, ∃ x, ss[j]? = some x ∧ x.kind ≠ 0
theorem closed_flat {ss : List Ste} (hg : Good ss) {todo : List Nat} (ht : ∀ j ∈ todo, j < ss.length) : Flat ss (closed ss todo) := fun j hj => by
 obtain ⟨x, hx, hk, _⟩ := (closed_mem hg ht j).1 hj
 exact ⟨x, hx, hk⟩
theorem stepG_lt {ss : List Ste} (hg : Good ss) (c : UInt8) (T : List Nat) : ∀ j ∈ stepG ss c T [], j < ss.length := fun j hj => by
 rcases (stepG_mem ss c j T []).1 hj with h | ⟨i, _, x, hx, _, hm⟩
 · cases h
 · exact hg x (List.mem_of_getElem? hx) j hm
theorem stepP_flat {ss : List Ste} (hg : Good ss) (c : UInt8) (T : List Nat) : Flat ss (stepP ss c T) := by
 unfold stepP
 split
 · intro j hj; cases hj
 · exact closed_flat hg (stepG_lt hg c T)
theorem stepP_acc {ss : List Ste} {fin : Nat → Prop} (hf : FinOk ss fin) (hg : Good ss) {T : List Nat} (hT : Flat ss T) (c : UInt8) (w : By) : AccS ss fin (stepP ss c T) w ↔ AccS ss fin T (c :: w) := by
 unfold stepP
 split
 · rename_i h0
   constructor
   · rintro ⟨j, hj, _⟩; cases hj
   · rintro ⟨j, hj, _⟩
     obtain ⟨x, hx, _⟩ := hT j hj
     have := (List.getElem?_eq_some_iff.1 hx).1
     omega
 · rw [closed_acc hf hg (stepG_lt hg c T)]
   constructor
   · rintro ⟨k, hk, n, h⟩
     rcases (stepG_mem ss c k T []).1 hk with h1 | ⟨j, hj, x, hx, ho, hm⟩
     · cases h1
     · simp only [stepOk, Bool.and_eq_true, decide_eq_true_eq] at ho
       exact ⟨j, hj, n + 1, .eat hx ho.1 ho.2 hm h⟩
   · rintro ⟨j, hj, n, h⟩
     obtain ⟨x, hx, hk⟩ := hT j hj
     cases h with
     | eps hy hk0 _ _ => rw [hx] at hy; cases hy; exact absurd hk0 hk
     | eat hy hk1 hc hm h => exact ⟨_, (stepG_mem ss c _ T []).2 (.inr ⟨j, hj, _, hy, by simp [stepOk, hk1, hc], hm⟩), _, h⟩
def finR (ss : List Ste) (r : Nat) (q : Nat) : Prop := ∃ x, ss[q]? = some x ∧ x.kind = 2 ∧ x.rule = r
theorem finR_ok (ss : List Ste) (r : Nat) : FinOk ss (finR ss r) := fun _ ⟨x, hx, hk, _⟩ => ⟨x, hx, hk⟩
theorem accS_nil {ss : List Ste} {r : Nat} {T : List Nat} (hT : Flat ss T) : AccS ss (finR ss r) T [] ↔ ∃ j ∈ T, finR ss r j := by
 constructor
 · rintro ⟨j, hj, n, h⟩
   obtain ⟨x, hx, hk⟩ := hT j hj
   cases h with
   | done hq => exact ⟨j, hj, hq⟩
   | eps hy hk0 _ _ => rw [hx] at hy; cases hy; exact absurd hk0 hk
 · rintro ⟨j, hj, hq⟩; exact ⟨j, hj, 0, .done hq⟩
def LeastI (p : Nat → Prop) (r : Int) : Prop := (r = -1 ∧ ∀ i, ¬ p i) ∨ ∃ n : Nat, r = n ∧ p n ∧ ∀ i, p i → n ≤ i
theorem accG_least (ss : List Ste) : ∀ (l : List Nat) (b : Int) (p : Nat → Prop), LeastI p b → LeastI (fun r => p r ∨ ∃ j ∈ l, finR ss r j) (accG ss l b)
 | [], b, p, h => by
  rw [accG]
  rcases h with ⟨rfl, h1⟩ | ⟨n, rfl, h1, h2⟩
  · exact .inl ⟨rfl, fun i h => by rcases h with h | ⟨_, h, _⟩; exact h1 i h; cases h⟩
  · exact .inr ⟨n, rfl, .inl h1, fun i h => by rcases h with h | ⟨_, h, _⟩; exact h2 i h; cases h⟩
 | j :: l, b, p, h => by
  rw [accG]
  have key : ∀ b', LeastI (fun r => p r ∨ finR ss r j) b' → LeastI (fun r => p r ∨ ∃ k ∈ j :: l, finR ss r k) (accG ss l b') := fun b' hb' => by
   have := accG_least ss l b' _ hb'
   have e : (fun r => (p r ∨ finR ss r j) ∨ ∃ k ∈ l, finR ss r k) = (fun r => p r ∨ ∃ k ∈ j :: l, finR ss r k) := by
    funext r; simp [or_assoc]
   rwa [e] at this
  have no : (∀ r, ¬ finR ss r j) → LeastI (fun r => p r ∨ finR ss r j) b := fun hno => by
   have e : (fun r => p r ∨ finR ss r j) = p := by funext r; simp [hno r]
   rw [e]; exact h
  cases hx : ss[j]? with
  | none => exact key b (no fun r ⟨x, hx', _⟩ => by rw [hx] at hx'; cases hx')
  | some x =>
   simp only
   by_cases hk : x.kind = 2
   · have hfin : ∀ r, finR ss r j ↔ x.rule = r := fun r => ⟨fun ⟨y, hy, _, hr⟩ => by rw [hx] at hy; cases hy; exact hr, fun hr => ⟨x, hx, hk, hr⟩⟩
     by_cases hb : accOk x b = true
     · rw [if_pos hb]
       refine key _ (.inr ⟨x.rule, rfl, .inr ((hfin _).2 rfl), fun i hi => ?_⟩)
       simp only [accOk, decide_eq_true_eq] at hb
       rcases hi with hi | hi
       · rcases h with ⟨rfl, h1⟩ | ⟨n, rfl, h1, h2⟩
         · exact absurd hi (h1 i)
         · have := h2 i hi; omega
       · rw [(hfin i).1 hi]; exact Nat.le_refl _
     · rw [if_neg hb]
       refine key _ ?_
       simp only [accOk, decide_eq_true_eq] at hb
       rcases h with ⟨rfl, h1⟩ | ⟨n, rfl, h1, h2⟩
       · exact absurd ⟨hk, .inl (by decide)⟩ hb
       · refine .inr ⟨n, rfl, .inl h1, fun i hi => ?_⟩
         rcases hi with hi | hi
         · exact h2 i hi
         · have := (hfin i).1 hi; omega
   · rw [if_neg (by simp [accOk, hk])]
     exact key b (no fun r ⟨y, hy, hk2, _⟩ => by rw [hx] at hy; cases hy; exact hk hk2)
def runP (ss : List Ste) (st : Nat) (w : By) : List Nat := w.foldl (fun T c => stepP ss c T) (startP ss st)
theorem runP_flat {ss : List Ste} (hg : Good ss) {st : Nat} (hst : st < ss.length) (w : By) : Flat ss (runP ss st w) := by
 have h0 : Flat ss (startP ss st) := by
  unfold startP; split
  · intro j hj; cases hj
  · exact closed_flat hg (fun j hj => by simp at hj; omega)
 unfold runP
 generalize startP ss st = T at h0
 induction w generalizing T with
 | nil => exact h0
 | cons c w ih => exact ih _ (stepP_flat hg c T)
theorem runP_acc {ss : List Ste} {fin : Nat → Prop} (hf : FinOk ss fin) (hg : Good ss) {st : Nat} (hst : st < ss.length) (w v : By) : AccS ss fin (runP ss st w) v ↔ ∃ n, Acc ss fin n st (w ++ v) := by
 have h0 : Flat ss (startP ss st) ∧ ∀ v, AccS ss fin (startP ss st) v ↔ ∃ n, Acc ss fin n st v := by
  unfold startP
  rw [if_neg (by omega)]
  have ht : ∀ j ∈ [st], j < ss.length := fun j hj => by simp at hj; omega
  refine ⟨closed_flat hg ht, fun v => ?_⟩
  rw [closed_acc hf hg ht]
  simp [AccS]
 unfold runP
 have key : ∀ (w : By) (T : List Nat), Flat ss T → (AccS ss fin (w.foldl (fun T c => stepP ss c T) T) v ↔ AccS ss fin T (w ++ v)) := by
  intro w
  induction w with
  | nil => intro T _; rfl
  | cons c w ih =>
   intro T hT
   rw [List.foldl_cons, ih _ (stepP_flat hg c T), stepP_acc hf hg hT]
   rfl
 rw [key w _ h0.1, h0.2]
theorem accepts_least {ss : List Ste} (hg : Good ss) {st : Nat} (hst : st < ss.length) (w : By) : LeastI (fun r => ∃ n, Acc ss (finR ss r) n st w) (acceptsP ss (runP ss st w)) := by
 unfold acceptsP
 rw [if_neg (by omega)]
 have h := accG_least ss (runP ss st w) (-1) (fun _ => False) (.inl ⟨rfl, fun _ h => h⟩)
 have e : (fun r => False ∨ ∃ j ∈ runP ss st w, finR ss r j) = (fun r => ∃ n, Acc ss (finR ss r) n st w) := by
  funext r
  have := runP_acc (finR_ok ss r) hg hst w []
  rw [accS_nil (runP_flat hg hst w), List.append_nil] at this
  simpa using this
 rw [e] at h
 exact h
def totS (ss : List Ste) : Nat := (ss.map fun x => x.to.length + 1).sum
theorem totS_append (a b : List Ste) : totS (a ++ b) = totS a + totS b := by simp [totS]
theorem totS_set : ∀ (ss : List Ste) (i : Nat) (y x : Ste), ss[i]? = some y → totS (ss.set i x) + y.to.length = totS ss + x.to.length
 | [], i, y, x, h => by simp at h
 | z :: r, 0, y, x, h => by simp at h; subst h; simp [totS]; omega
 | z :: r, i + 1, y, x, h => by have := totS_set r i y x (by simpa using h); simp [totS] at *; omega
theorem pot_le : ∀ (ss : List Ste) (seen : List Bool), pot ss seen ≤ totS ss
 | [], _ => by simp [pot]
 | x :: r, [] => by simp [pot]
 | x :: r, b :: s => by
  have := pot_le r s
  simp only [pot, totS, List.map_cons, List.sum_cons] at *
  split <;> omega
mutual
theorem lay_tot : ∀ (x : Nd) (ss : List Ste) (to : Nat), totS (lay x ss to).1 + 1 ≤ totS ss + 4 * szN x
 | .mk k s kids, ss, to => by
  rw [lay]
  simp only [szN]
  split
  · rw [totS_append]; simp [totS]; omega
  · split
    · have := layCat_tot kids ss to; omega
    · split
      · have := layAlt_tot kids ss to; have hl := layAlt_len2 kids ss to
        simp only [totS_append]; simp [totS] at *; omega
      · split
        · have := layOne_tot kids ss to; simp only [totS_append]; simp [totS] at *; omega
        · split
          · have := layOne_tot kids (ss ++ [⟨0, 0, [], 0⟩]) ss.length
            have h2 := totS_set (layOne kids (ss ++ [⟨0, 0, [], 0⟩]) ss.length).1 ss.length ⟨0, 0, [], 0⟩ ⟨0, 0, [(layOne kids (ss ++ [⟨0, 0, [], 0⟩]) ss.length).2, to], 0⟩ (by rw [layOne_pre kids _ _ _ (by simp)]; simp)
            rw [totS_append] at this
            simp [totS] at *; omega
          · simp; omega
theorem layCat_tot : ∀ (l : List Nd) (ss : List Ste) (to : Nat), totS (layCat l ss to).1 ≤ totS ss + 4 * szL l
 | [], ss, to => by simp [layCat]
 | x :: r, ss, to => by
  rw [layCat]
  have h1 := layCat_tot r ss to
  have h2 := lay_tot x (layCat r ss to).1 (layCat r ss to).2
  simp only [szL]; omega
theorem layAlt_tot : ∀ (l : List Nd) (ss : List Ste) (to : Nat), totS (layAlt l ss to).1 + l.length ≤ totS ss + 4 * szL l
 | [], ss, to => by simp [layAlt]
 | x :: r, ss, to => by
  rw [layAlt]
  have h1 := lay_tot x ss to
  have h2 := layAlt_tot r (lay x ss to).1 to
  simp only [szL, List.length_cons]; omega
theorem layOne_tot : ∀ (l : List Nd) (ss : List Ste) (to : Nat), totS (layOne l ss to).1 ≤ totS ss + 4 * szL l
 | [], ss, to => by simp [layOne]
 | x :: r, ss, to => by
  rw [layOne]
  have h1 := lay_tot x ss to
  simp only [szL]; omega
end
theorem Good.append {a b : List Ste} (ha : Good a) (hb : ∀ x ∈ b, ∀ j ∈ x.to, j < (a ++ b).length) : Good (a ++ b) := fun x hx j hj => by
 rcases List.mem_append.1 hx with h | h
 · have := ha x h j hj; simp; omega
 · exact hb x h j hj
theorem Good.set {a : List Ste} (ha : Good a) {i : Nat} {y : Ste} (hy : ∀ j ∈ y.to, j < a.length) : Good (a.set i y) := fun x hx j hj => by
 rw [List.length_set]
 rcases List.mem_or_eq_of_mem_set hx with h | rfl
 · exact ha x h j hj
 · exact hy j hj
mutual
theorem lay_good : ∀ (x : Nd) (ss : List Ste) (to : Nat), Good ss → to < ss.length → Good (lay x ss to).1 ∧ (lay x ss to).2 < (lay x ss to).1.length
 | .mk k s kids, ss, to, hg, ht => by
  rw [lay]
  split
  · exact ⟨hg.append (by intro x hx j hj; simp at hx; subst hx; simp at hj; subst hj; simp; omega), by simp⟩
  · split
    · exact layCat_good kids ss to hg ht
    · split
      · have h := layAlt_good kids ss to hg ht
        exact ⟨h.1.append (by intro x hx j hj; simp at hx; subst hx; have := h.2 j hj; simp; omega), by simp⟩
      · split
        · have h := layOne_good kids ss to hg ht
          have hl := layOne_len kids ss to
          exact ⟨h.1.append (by intro x hx j hj; simp at hx; subst hx; simp at hj; simp; rcases hj with rfl | rfl <;> omega), by simp⟩
        · split
          · have h := layOne_good kids (ss ++ [⟨0, 0, [], 0⟩]) ss.length (hg.append (by intro x hx j hj; simp at hx; subst hx; cases hj)) (by simp)
            have hl := layOne_len kids (ss ++ [⟨0, 0, [], 0⟩]) ss.length
            simp only [List.length_append, List.length_singleton] at hl
            refine ⟨h.1.set (by intro j hj; simp at hj; rcases hj with rfl | rfl; exact h.2; omega), ?_⟩
            simp only [List.length_set]
            split
            · exact h.2
            · omega
          · exact ⟨hg, ht⟩
theorem layCat_good : ∀ (l : List Nd) (ss : List Ste) (to : Nat), Good ss → to < ss.length → Good (layCat l ss to).1 ∧ (layCat l ss to).2 < (layCat l ss to).1.length
 | [], ss, to, hg, ht => by rw [layCat]; exact ⟨hg, ht⟩
 | x :: r, ss, to, hg, ht => by
  rw [layCat]
  have h1 := layCat_good r ss to hg ht
  exact lay_good x _ _ h1.1 h1.2
theorem layAlt_good : ∀ (l : List Nd) (ss : List Ste) (to : Nat), Good ss → to < ss.length → Good (layAlt l ss to).1 ∧ ∀ j ∈ (layAlt l ss to).2, j < (layAlt l ss to).1.length
 | [], ss, to, hg, ht => by rw [layAlt]; exact ⟨hg, fun j hj => by cases hj⟩
 | x :: r, ss, to, hg, ht => by
  rw [layAlt]
  have h1 := lay_good x ss to hg ht
  have hl := lay_len x ss to
  have h2 := layAlt_good r (lay x ss to).1 to h1.1 (by omega)
  have hl2 := layAlt_len r (lay x ss to).1 to
  refine ⟨h2.1, fun j hj => ?_⟩
  rcases List.mem_cons.1 hj with rfl | hj
  · simp only; omega
  · exact h2.2 j hj
theorem layOne_good : ∀ (l : List Nd) (ss : List Ste) (to : Nat), Good ss → to < ss.length → Good (layOne l ss to).1 ∧ (layOne l ss to).2 < (layOne l ss to).1.length
 | [], ss, to, hg, ht => by rw [layOne]; exact ⟨hg, ht⟩
 | x :: r, ss, to, hg, ht => by rw [layOne]; exact lay_good x ss to hg ht
end
structure MadeG (i : Nat) (rules : List By) (ss : List Ste) (t : List Nat) (ss' : List Ste) (t' : List Nat) : Prop where
 pre : ∀ j, j < ss.length → ss'[j]? = ss[j]?
 len : ss.length ≤ ss'.length ∧ ss'.length ≤ ss.length + 402 * rules.length
 tot : totS ss' ≤ totS ss + 1605 * rules.length
 good : Good ss → (∀ j ∈ t, j < ss.length) → Good ss' ∧ ∀ j ∈ t', j < ss'.length
 starts : ∃ t2, t' = t ++ t2 ∧ t2.length = rules.length ∧ ∀ k s, rules[k]? = some s → (parseE s).2 = 0 ∧ ∃ a b, t2[k]? = some b ∧ ss.length ≤ a ∧ ss'[a]? = some ⟨2, 0, [], i + k⟩ ∧ ∀ F fin, Same F ss' ss.length → FinOk F fin → Splits F fin b a (Lng (parseE s).1)
theorem makeG_made : ∀ (rules : List By) (i : Nat) (ss : List Ste) (t : List Nat) (ss' : List Ste) (t' : List Nat), makeG i rules ss t = .inr (ss', t') → MadeG i rules ss t ss' t'
 | [], i, ss, t, ss', t', h => by
  rw [makeG] at h; cases h
  exact ⟨fun _ _ => rfl, by simp, by simp, fun a b => ⟨a, b⟩, [], by simp, rfl, fun k s h => by simp at h⟩
 | s :: r, i, ss, t, ss', t', h => by
  rw [makeG] at h
  split at h
  · cases h
  · rename_i he
    have he : (parseE s).2 = 0 := by simpa using he
    have hsm := parseE_small he
    have ih := makeG_made r _ _ _ _ _ h
    have hpre := lay_pre (parseE s).1 (ss ++ [⟨2, 0, [], i⟩]) ss.length
    have hlen := lay_len (parseE s).1 (ss ++ [⟨2, 0, [], i⟩]) ss.length
    have htot := lay_tot (parseE s).1 (ss ++ [⟨2, 0, [], i⟩]) ss.length
    simp only [List.length_append, List.length_singleton, totS_append] at hpre hlen htot
    have hL : totS [(⟨2, 0, [], i⟩ : Ste)] = 1 := by simp [totS]
    generalize hly : lay (parseE s).1 (ss ++ [⟨2, 0, [], i⟩]) ss.length = ly at *
    obtain ⟨t2, ht2, htl, hst⟩ := ih.starts
    refine ⟨fun j hj => ?_, ⟨?_, ?_⟩, ?_, fun hg ht => ?_, ly.2 :: t2, by simp [ht2], by simp [htl], fun k s' hk => ?_⟩
    · rw [ih.pre j (by omega), hpre j (by omega), List.getElem?_append_left hj]
    · have := ih.len.1; omega
    · have := ih.len.2; simp only [List.length_cons]; omega
    · have := ih.tot; simp only [List.length_cons]; omega
    · have hgl := lay_good (parseE s).1 (ss ++ [⟨2, 0, [], i⟩]) ss.length (hg.append (by intro x hx j hj; simp at hx; subst hx; cases hj)) (by simp)
      rw [hly] at hgl
      exact ih.good hgl.1 (fun j hj => by
       rcases List.mem_append.1 hj with h1 | h1
       · have := ht j h1; omega
       · have : j = ly.2 := by simpa using h1
         rw [this]; exact hgl.2)
    · cases k with
      | zero =>
       simp at hk; subst hk
       refine ⟨he, ss.length, ly.2, rfl, Nat.le_refl _, ?_, fun F fin hS hF => ?_⟩
       · rw [ih.pre _ (by omega), hpre _ (by omega)]; simp
       · have := lay_splits hF (parseE s).1 (ss ++ [⟨2, 0, [], i⟩]) ss.length (fun j h1 h2 => by
          rw [hly] at h2 ⊢
          simp only [List.length_append, List.length_singleton] at h1
          rw [hS j (by omega) (by have := ih.len.1; omega)]
          exact ih.pre j h2)
         rwa [hly] at this
      | succ k =>
       obtain ⟨h0, a, b, hb, hla, ha, hsp⟩ := hst k s' (by simpa using hk)
       exact ⟨h0, a, b, by simpa using hb, by omega, by rw [ha]; simp; omega, fun F fin hS hF => hsp F fin (fun j h1 h2 => hS j (by omega) h2) hF⟩
structure Made (rules : List By) (ss : List Ste) (st : Nat) : Prop where
 good : Good ss
 stl : st < ss.length
 len : ss.length ≤ 30000
 tot : totS ss ≤ 110000
 num : rules.length ≤ 64
 lng : ∀ r w, (∃ n, Acc ss (finR ss r) n st w) ↔ ∃ s, rules[r]? = some s ∧ Lng (parseE s).1 w
theorem makeP_made {rules : List By} {ss : List Ste} {st : Nat} (h : makeP rules = .inr (ss, st)) : Made rules ss st := by
 unfold makeP at h
 split at h
 · cases h
 · rename_i hn
   split at h
   · cases h
   · rename_i ss0 t hm
     split at h
     · cases h
     · cases h
       have k := makeG_made _ _ _ _ _ _ hm
       obtain ⟨t2, ht2, htl, hst⟩ := k.starts
       have ht : t = t2 := by simpa using ht2
       subst ht
       have hl := k.len.2
       have htot := k.tot
       have hgd := k.good (by intro x hx; cases hx) (by intro j hj; cases hj)
       simp only [List.length_nil] at hl
       have h0 : totS ([] : List Ste) = 0 := rfl
       have hF : (ss0 ++ [⟨0, 0, t, 0⟩])[ss0.length]? = some ⟨0, 0, t, 0⟩ := by simp
       have hS : Same (ss0 ++ [⟨0, 0, t, 0⟩]) ss0 ([] : List Ste).length := fun i _ h2 => List.getElem?_append_left h2
       refine ⟨hgd.1.append (by intro x hx j hj; simp at hx; subst hx; have := hgd.2 j hj; simp; omega), by simp, by simp; omega, ?_, by omega, fun r w => ?_⟩
       · have hq : totS [(⟨0, 0, t, 0⟩ : Ste)] = t.length + 1 := by simp [totS]
         rw [totS_append, hq]; omega
       · constructor
         · rintro ⟨n, hw⟩
           obtain ⟨m, q', _, hq, hw'⟩ := hw.fork (finR_ok _ r) hF rfl
           obtain ⟨k', hk'⟩ := List.getElem?_of_mem hq
           have hkl : k' < t.length := (List.getElem?_eq_some_iff.1 hk').1
           obtain ⟨s, hs⟩ : ∃ s, rules[k']? = some s := ⟨_, List.getElem?_eq_getElem (by omega)⟩
           obtain ⟨_, a, b, hb, _, ha, hsp⟩ := hst k' s hs
           rw [hk'] at hb; cases hb
           obtain ⟨u, v, m', rfl, hu, _, hv⟩ := (hsp _ _ hS (finR_ok _ r)).1 _ _ hw'
           have ha' : (ss0 ++ [(⟨0, 0, t, 0⟩ : Ste)])[a]? = some ⟨2, 0, [], 0 + k'⟩ := by rw [hS a (Nat.zero_le _) (List.getElem?_eq_some_iff.1 ha).1, ha]
           cases hv with
           | done hfin =>
            obtain ⟨x, hx, _, hr⟩ := hfin
            rw [ha'] at hx; cases hx
            simp only [Nat.zero_add] at hr
            subst hr
            exact ⟨s, hs, by rw [List.append_nil]; exact hu⟩
           | eps hx hk _ _ => rw [ha'] at hx; cases hx; cases hk
           | eat hx hk _ _ _ => rw [ha'] at hx; cases hx; cases hk
         · rintro ⟨s, hs, hw⟩
           obtain ⟨_, a, b, hb, _, ha, hsp⟩ := hst r s hs
           have ha' : (ss0 ++ [(⟨0, 0, t, 0⟩ : Ste)])[a]? = some ⟨2, 0, [], 0 + r⟩ := by rw [hS a (Nat.zero_le _) (List.getElem?_eq_some_iff.1 ha).1, ha]
           obtain ⟨n, hn⟩ := (hsp _ _ hS (finR_ok _ r)).2 w [] 0 hw (.done ⟨_, ha', rfl, by simp⟩)
           rw [List.append_nil] at hn
           exact ⟨n + 1, .eps (q' := b) hF rfl (show b ∈ t from List.mem_of_getElem? hb) hn⟩
theorem sub_sum {f : Nat → Nat} : ∀ {a b : List Nat}, a.Sublist b → (a.map f).sum ≤ (b.map f).sum
 | _, _, .slnil => by simp
 | _, _, .cons _ h => by have := sub_sum (f := f) h; simp; omega
 | _, _, .cons_cons _ h => by have := sub_sum (f := f) h; simp; omega
theorem len_tot : ∀ ss : List Ste, (ss.map fun x => x.to.length).sum ≤ totS ss
 | [] => by simp [totS]
 | x :: r => by have := len_tot r; simp [totS] at *; omega
theorem range_sum (ss : List Ste) : ((List.range ss.length).map fun i => match ss[i]? with | some x => x.to.length | none => 0).sum ≤ totS ss := by
 have : ((List.range ss.length).map fun i => match ss[i]? with | some x => x.to.length | none => 0) = ss.map fun x => x.to.length := by
  apply List.ext_getElem
  · simp
  · intro i h1 h2; simp at h2; simp [h2]
 rw [this]
 exact len_tot ss
theorem stepG_sum (ss : List Ste) (c : UInt8) : ∀ (l a : List Nat), (stepG ss c l a).length ≤ a.length + (l.map fun i => match ss[i]? with | some x => x.to.length | none => 0).sum
 | [], a => by simp [stepG]
 | j :: r, a => by
  rw [stepG]
  refine Nat.le_trans (stepG_sum ss c r _) ?_
  simp only [List.map_cons, List.sum_cons]
  cases ss[j]? with
  | none => simp
  | some x => simp only; split <;> simp <;> omega
theorem stepG_tot {ss : List Ste} (c : UInt8) {now : List Nat} (h : now.Sublist (List.range ss.length)) : (stepG ss c now []).length ≤ totS ss := by
 have h1 := stepG_sum ss c now []
 have h2 := sub_sum (f := fun i => match ss[i]? with | some x => x.to.length | none => 0) h
 have h3 := range_sum ss
 simp only [List.length_nil] at h1
 omega
def IsMatch (P : Nat → Nat → Prop) (n : Nat) (o : Int × Int) : Prop :=
 (o = (0, -1) ∧ ∀ k r, k ≤ n → ¬ P k r) ∨ ∃ k r : Nat, o = ((k : Int), (r : Int)) ∧ k ≤ n ∧ P k r ∧ (∀ k' r', k' ≤ n → P k' r' → k' ≤ k) ∧ ∀ r', P k r' → r ≤ r'
def bestP (ac : Nat → Int) : Nat → Nat → Int × Int → Int × Int
 | 0, k, b => if 0 ≤ ac k then ((k : Int), ac k) else b
 | n + 1, k, b => bestP ac n (k + 1) (if 0 ≤ ac k then ((k : Int), ac k) else b)
def IsBest (P : Nat → Nat → Prop) (m : Nat) (o : Int × Int) : Prop :=
 (o = (0, -1) ∧ ∀ k r, k < m → ¬ P k r) ∨ ∃ k r : Nat, o = ((k : Int), (r : Int)) ∧ k < m ∧ P k r ∧ (∀ k' r', k' < m → P k' r' → k' ≤ k) ∧ ∀ r', P k r' → r ≤ r'
theorem IsBest.next {P : Nat → Nat → Prop} {m : Nat} {o : Int × Int} {a : Int} (h : IsBest P m o) (ha : LeastI (P m) a) : IsBest P (m + 1) (if 0 ≤ a then ((m : Int), a) else o) := by
 rcases ha with ⟨rfl, h1⟩ | ⟨r, rfl, h1, h2⟩
 · rw [if_neg (by decide)]
   rcases h with ⟨rfl, h3⟩ | ⟨k, r, rfl, hk, hp, h3, h4⟩
   · exact .inl ⟨rfl, fun k r hk hp => by
      by_cases e : k = m
      · subst e; exact h1 _ hp
      · exact h3 k r (by omega) hp⟩
   · exact .inr ⟨k, r, rfl, by omega, hp, fun k' r' hk' hp' => by
      by_cases e : k' = m
      · subst e; exact absurd hp' (h1 _)
      · exact h3 k' r' (by omega) hp', h4⟩
 · rw [if_pos (by omega)]
   exact .inr ⟨m, r, rfl, by omega, h1, fun k' r' hk' _ => by omega, h2⟩
theorem bestP_best {P : Nat → Nat → Prop} {ac : Nat → Int} : ∀ (n k : Nat) (b : Int × Int), IsBest P k b → (∀ j, k ≤ j → j ≤ k + n → LeastI (P j) (ac j)) → IsBest P (k + n + 1) (bestP ac n k b)
 | 0, k, b, h, ha => by rw [bestP]; exact h.next (ha k (Nat.le_refl _) (by omega))
 | n + 1, k, b, h, ha => by
  rw [bestP]
  have := bestP_best n (k + 1) _ (h.next (ha k (Nat.le_refl _) (by omega))) (fun j h1 h2 => ha j (by omega) (by omega))
  rwa [show k + (n + 1) + 1 = k + 1 + n + 1 by omega]
theorem IsBest.match {P : Nat → Nat → Prop} {n : Nat} {o : Int × Int} (h : IsBest P (n + 1) o) : IsMatch P n o := by
 rcases h with ⟨rfl, h1⟩ | ⟨k, r, rfl, hk, hp, h1, h2⟩
 · exact .inl ⟨rfl, fun k r hk => h1 k r (by omega)⟩
 · exact .inr ⟨k, r, rfl, by omega, hp, fun k' r' hk' => h1 k' r' (by omega), h2⟩
theorem stepP_nil (ss : List Ste) (c : UInt8) : stepP ss c [] = [] := by simp [stepP, stepG, closed]
theorem runP_append (ss : List Ste) (st : Nat) (a b : By) : runP ss st (a ++ b) = b.foldl (fun T c => stepP ss c T) (runP ss st a) := by simp [runP, List.foldl_append]
theorem run_nil (ss : List Ste) : ∀ w : By, w.foldl (fun T c => stepP ss c T) ([] : List Nat) = []
 | [] => rfl
 | c :: w => by rw [List.foldl_cons, stepP_nil, run_nil ss w]
theorem bestP_none {ac : Nat → Int} : ∀ (n k : Nat) (b : Int × Int), (∀ j, k ≤ j → j ≤ k + n → ac j < 0) → bestP ac n k b = b
 | 0, k, b, h => by rw [bestP, if_neg (by have := h k (Nat.le_refl _) (by omega); omega)]
 | n + 1, k, b, h => by
  rw [bestP, if_neg (by have := h k (Nat.le_refl _) (by omega); omega)]
  exact bestP_none n (k + 1) b (fun j h1 h2 => h j (by omega) (by omega))
theorem matchG_best {ss : List Ste} {st : Nat} : ∀ (l a : By) (b : Int × Int), matchG ss l (runP ss st a) a.length b = bestP (fun k => acceptsP ss (runP ss st ((a ++ l).take k))) l.length a.length b := by
 have none_ : ∀ (l a : By) (b : Int × Int), runP ss st a = [] → matchG ss l (runP ss st a) a.length b = bestP (fun k => acceptsP ss (runP ss st ((a ++ l).take k))) l.length a.length b := by
  intro l a b h
  rw [matchG_nil (by rw [h]; rfl), bestP_none]
  intro j h1 h2
  have : (a ++ l).take j = a ++ l.take (j - a.length) := by rw [List.take_append, List.take_of_length_le h1]
  rw [this, runP_append, h, run_nil]
  unfold acceptsP
  split
  · decide
  · simp [accG]
 intro l
 induction l with
 | nil =>
  intro a b
  by_cases h : runP ss st a = []
  · exact none_ [] a b h
  · rw [matchG, if_neg (by simpa using h), List.length_nil, bestP]
    simp
 | cons c r ih =>
  intro a b
  by_cases h : runP ss st a = []
  · exact none_ (c :: r) a b h
  · rw [matchG, if_neg (by simpa using h)]
    simp only [List.length_cons, bestP]
    have h1 := ih (a ++ [c]) (if 0 ≤ acceptsP ss (runP ss st a) then ((a.length : Int), acceptsP ss (runP ss st a)) else b)
    rw [runP_append] at h1
    simp only [List.foldl_cons, List.foldl_nil, List.length_append, List.length_singleton, List.append_assoc, List.singleton_append] at h1
    rw [h1]
    have e : (a ++ c :: r).take a.length = a := by simp
    rw [e]
theorem matchP_spec {rules : List By} {ss : List Ste} {st : Nat} (k : Made rules ss st) (l : By) : IsMatch (fun n r => ∃ s, rules[r]? = some s ∧ Lng (parseE s).1 (l.take n)) l.length (matchP ss st l) := by
 have hst := k.stl
 unfold matchP
 rw [if_neg (by omega)]
 have h := matchG_best (ss := ss) (st := st) l [] (0, -1)
 have e : runP ss st [] = startP ss st := rfl
 rw [e] at h
 simp only [List.length_nil, List.nil_append] at h
 rw [h]
 have := bestP_best (P := fun n r => ∃ s, rules[r]? = some s ∧ Lng (parseE s).1 (l.take n)) (ac := fun k => acceptsP ss (runP ss st (l.take k))) l.length 0 (0, -1) (.inl ⟨rfl, fun k r hk => by omega⟩) (fun j _ _ => by
  have h1 := accepts_least k.good k.stl (l.take j)
  have e : (fun r => ∃ n, Acc ss (finR ss r) n st (l.take j)) = (fun r => ∃ s, rules[r]? = some s ∧ Lng (parseE s).1 (l.take j)) := by
   funext r; exact propext (k.lng r _)
  rw [e] at h1
  exact h1)
 rw [Nat.zero_add] at this
 exact this.match
end Go.Proofs.YtlkmlfofhbekoaaDoor
