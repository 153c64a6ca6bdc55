/- What the proof of the statement leans on (part 1). -/

namespace Go.Proofs.YteicdopggikieaaDoor
abbrev By := List UInt8
inductive Nd where
 | mk (kind : Nat) (set : Nat) (kids : List Nd)
def Nd.kind : Nd → Nat | .mk k _ _ => k
def Nd.set : Nd → Nat | .mk _ s _ => s
def Nd.kids : Nd → List Nd | .mk _ _ l => l
def allSet : Nat := 2 ^ 256 - 1
def spanN (s a : Nat) : Nat → Nat
 | 0 => s
 | n + 1 => spanN (s ||| (1 <<< a)) (a + 1) n
def spanB (s : Nat) (a b : UInt8) : Nat := spanN s a.toNat (b.toNat + 1 - a.toNat)
def notSet (s : Nat) : Nat := allSet ^^^ s
def byteNd (b : UInt8) : Nd := .mk 1 (spanB 0 b b) []
def dotNd : Nd := .mk 1 (spanB (spanB 0 0 9) 11 255) []
def emptyNd : Nd := .mk 0 0 []
def specialB : By := [40, 41, 91, 93, 124, 42, 43, 63, 46, 92, 45, 94]
def hexVal (b : UInt8) : Option Nat :=
 if 48 ≤ b.toNat ∧ b.toNat ≤ 57 then some (b.toNat - 48) else if 97 ≤ b.toNat ∧ b.toNat ≤ 102 then some (b.toNat - 87) else if 65 ≤ b.toNat ∧ b.toNat ≤ 70 then some (b.toNat - 55) else none
def escP : By → Option (UInt8 × By)
 | [] => none
 | b :: r =>
  if b = 110 then some (10, r) else if b = 116 then some (9, r) else if b = 114 then some (13, r)
  else if b = 120 then
   match r with
   | x :: y :: r => match hexVal x, hexVal y with
    | some m, some n => some (UInt8.ofNat (m * 16 + n), r)
    | _, _ => none
   | _ => none
  else if b ∈ specialB then some (b, r) else none
def letP : By → Option (UInt8 × By)
 | [] => none
 | b :: r => if b = 92 then escP r else if b ∈ specialB then none else some (b, r)
def fromToP (s : By) : Option ((UInt8 × UInt8) × By) :=
 match letP s with
 | none => none
 | some (a, r) => match r with
  | 45 :: r' => match letP r' with
   | none => none
   | some (b, r'') => if b.toNat < a.toNat then none else some ((a, b), r'')
  | _ => some ((a, a), r)
def setsP : Nat → Nat → By → Option (Nat × By)
 | 0, _, _ => none
 | n + 1, acc, s => match fromToP s with
  | none => none
  | some ((a, b), r) => match r with
   | 93 :: r' => some (spanB acc a b, r')
   | _ => setsP n (spanB acc a b) r
def bracketP (s : By) : Option (Nd × By) :=
 match s with
 | 94 :: r => (setsP (r.length + 1) 0 r).map fun p => (.mk 1 (notSet p.1) [], p.2)
 | _ => (setsP (s.length + 1) 0 s).map fun p => (.mk 1 p.1 [], p.2)
def atomP (rows : By → Option (Nd × By)) : By → Option (Nd × By)
 | [] => none
 | c :: r =>
  if c = 40 then
   match rows r with
   | none => none
   | some (n, r') => match r' with
    | 41 :: r'' => some (n, r'')
    | _ => none
  else if c = 91 then bracketP r
  else if c = 46 then some (dotNd, r)
  else if c = 92 then (escP r).map fun p => (byteNd p.1, p.2)
  else if c ∈ [(41 : UInt8), 93, 124, 42, 43, 63] then none
  else some (byteNd c, r)
def signOf (c : UInt8) : Nat := if c = 42 then 4 else if c = 43 then 5 else if c = 63 then 6 else 0
def signsP (n : Nd) : By → Nd × By
 | [] => (n, [])
 | c :: r => if signOf c = 0 then (n, c :: r) else signsP (.mk (signOf c) 0 [n]) r
def pieceP (rows : By → Option (Nd × By)) (s : By) : Option (Nd × By) :=
 (atomP rows s).map fun p => signsP p.1 p.2
def joinNd (kind : Nat) : List Nd → Nd
 | [] => emptyNd
 | [n] => n
 | l => .mk kind 0 l
def rowEnd : By → Bool
 | [] => true
 | c :: _ => c == 124 || c == 41
def rowL (rows : By → Option (Nd × By)) : Nat → By → Option (List Nd × By)
 | 0, _ => none
 | n + 1, s => if rowEnd s then some ([], s) else
  match pieceP rows s with
  | none => none
  | some (x, r) => (rowL rows n r).map fun p => (x :: p.1, p.2)
def rowsG (rows : By → Option (Nd × By)) : Nat → List Nd → List Nd → By → Option (Nd × By)
 | 0, _, _, _ => none
 | n + 1, all, row, s => if rowEnd s then
  if s.head? = some 124 then rowsG rows n (all ++ [joinNd 2 row]) [] s.tail
  else some (joinNd 3 (all ++ [joinNd 2 row]), s)
  else match pieceP rows s with
   | none => none
   | some (x, r) => rowsG rows n all (row ++ [x]) r
def rowsP : Nat → By → Option (Nd × By)
 | 0, _ => none
 | d + 1, s => rowsG (rowsP d) (s.length + 1) [] [] s
def parseP (s : By) : Option Nd :=
 match rowsP (s.length + 1) s with
 | some (n, []) => some n
 | _ => none
def rowT (rows : By → Option (Nd × By)) (s : By) : Option (Nd × By) := (rowL rows (s.length + 1) s).map fun p => (joinNd 2 p.1, p.2)
def contR (rows : By → Option (Nd × By)) (all : List Nd) (m : By) : Option (Nd × By) :=
 if m.head? = some 124 then rowsG rows (m.tail.length + 1) all [] m.tail else some (joinNd 3 all, m)
def parseE (s : By) : Nd × Int := if 200 < s.length then (emptyNd, 3) else match parseP s with | some x => (x, 0) | none => (emptyNd, 10)
end Go.Proofs.YteicdopggikieaaDoor
namespace Go.Proofs.YteicdopggikieaaDoor
open Go
abbrev Ky := Int × Int × By
def digP (n : Nat) : UInt8 := if n < 10 then UInt8.ofNat (48 + n) else UInt8.ofNat (87 + n)
def hexP (n : Nat) : By := if n < 16 then [digP n] else hexP (n / 16) ++ [digP (n % 16)]
decreasing_by omega
def valB (b : UInt8) : Nat := if b.toNat < 58 then b.toNat - 48 else b.toNat - 87
def valP (l : By) : Nat := l.foldl (fun a b => 16 * a + valB b) 0
def goodP (r : Int) : Prop := (0 ≤ r ∧ r < 55296) ∨ (57343 < r ∧ r < 1114112)
instance (r : Int) : Decidable (goodP r) := by unfold goodP; infer_instance
def hexI (r : Int) : By := if r < 0 then 45 :: hexP (-r).toNat else hexP r.toNat
def signP (r : Int) : By := if 32 < r ∧ r < 127 then [UInt8.ofNat r.toNat] else 85 :: 43 :: hexI r
def bytesP (t : By) : By := t.flatMap fun b => [digP (b.toNat / 16), digP (b.toNat % 16)]
def namesL : List By := [[], [], [69, 110, 116, 101, 114], [84, 97, 98], [66, 97, 99, 107], [69, 115, 99], [], [], [85, 112], [68, 111, 119, 110], [76, 101, 102, 116], [82, 105, 103, 104, 116], [72, 111, 109, 101], [69, 110, 100], [68, 101, 108, 101, 116, 101]]
def specP (k : Int) : By := if k < 0 then [] else namesL.getD k.toNat []
def mayP (k : Ky) : Bool := if k.1 = 1 ∨ k.1 = 6 ∨ k.1 = 7 then decide (goodP k.2.1 ∧ k.2.2 = []) else if k.1 = 15 ∨ k.1 = 0 then decide (k.2.1 = 0) else decide (specP k.1 ≠ [] ∧ k.2.1 = 0 ∧ k.2.2 = [])
def pasteB : By := [80, 97, 115, 116, 101, 58]
def invalB : By := [73, 110, 118, 97, 108, 105, 100, 58]
def wordK (k : Ky) : By := if k.1 = 1 then signP k.2.1 else if k.1 = 6 then 67 :: 45 :: signP k.2.1 else if k.1 = 7 then 77 :: 45 :: signP k.2.1 else if k.1 = 15 then pasteB ++ bytesP k.2.2 else if k.1 = 0 then invalB ++ bytesP k.2.2 else specP k.1
def nameP (k : Ky) : By := if mayP k = true then wordK k else []
theorem dig_nat {n : Nat} (h : n < 16) : (digP n).toNat = if n < 10 then 48 + n else 87 + n := by
 unfold digP; split <;> rw [UInt8.toNat_ofNat'] <;> omega
theorem val_dig {n : Nat} (h : n < 16) : valB (digP n) = n := by
 unfold valB; rw [dig_nat h]; split <;> split <;> omega
theorem hexP_step {n : Nat} (h : 16 ≤ n) : hexP n = hexP (n / 16) ++ [digP (n % 16)] := by
 rw [hexP, if_neg (by omega)]
theorem hexP_one {n : Nat} (h : n < 16) : hexP n = [digP n] := by rw [hexP, if_pos h]
theorem valP_push (l : By) (b : UInt8) : valP (l ++ [b]) = 16 * valP l + valB b := by
 unfold valP; rw [List.foldl_append]; rfl
theorem val_hex (n : Nat) : valP (hexP n) = n := by
 induction n using Nat.strongRecOn with
 | ind n ih =>
  by_cases h : n < 16
  · rw [hexP_one h]; show 16 * 0 + valB (digP n) = n; rw [val_dig h]; omega
  · rw [hexP_step (by omega), valP_push, ih (n / 16) (by omega), val_dig (Nat.mod_lt _ (by decide))]; omega
theorem hexP_ne (n : Nat) : hexP n ≠ [] := by
 rw [hexP]; split <;> simp
theorem hexP_inj {a b : Nat} (h : hexP a = hexP b) : a = b := by rw [← val_hex a, h, val_hex]
theorem hexP_dig (n : Nat) : ∀ b ∈ hexP n, ∃ d, d < 16 ∧ b = digP d := by
 induction n using Nat.strongRecOn with
 | ind n ih =>
  intro b hb
  by_cases h : n < 16
  · rw [hexP_one h] at hb; exact ⟨n, h, by simpa using hb⟩
  · rw [hexP_step (by omega)] at hb
    rcases List.mem_append.1 hb with k | k
    · exact ih _ (by omega) b k
    · exact ⟨n % 16, Nat.mod_lt _ (by decide), by simpa using k⟩
theorem hexP_len (n : Nat) : ∀ k, n < 16 ^ (k + 1) → (hexP n).length ≤ k + 1 := by
 induction n using Nat.strongRecOn with
 | ind n ih =>
  intro k hk
  by_cases h : n < 16
  · rw [hexP_one h]; simp
  · cases k with
    | zero => omega
    | succ k =>
     rw [hexP_step (by omega), List.length_append]
     have := ih (n / 16) (by omega) k (by rw [Nat.pow_succ] at hk; omega)
     simp only [List.length_singleton]; omega
theorem valP_mono (l m : By) : valP l ≤ valP (l ++ m) := by
 induction m generalizing l with
 | nil => simp
 | cons b m ih =>
  have h := ih (l ++ [b])
  rw [valP_push, List.append_assoc] at h
  exact Nat.le_trans (by omega) h
theorem hexI_good {r : Int} (h : 0 ≤ r) : hexI r = hexP r.toNat := by unfold hexI; rw [if_neg (by omega)]
theorem good_ge {r : Int} (h : goodP r) : 0 ≤ r ∧ r < 1114112 := by unfold goodP at h; omega
theorem sign_inj {a b : Int} (ha : goodP a) (hb : goodP b) (h : signP a = signP b) : a = b := by
 have ga := good_ge ha; have gb := good_ge hb
 unfold signP at h
 rw [hexI_good ga.1, hexI_good gb.1] at h
 split at h <;> split at h
 · have e := congrArg UInt8.toNat (List.cons.inj h).1
   rw [UInt8.toNat_ofNat', UInt8.toNat_ofNat'] at e; omega
 · exact absurd (List.cons.inj h).2 (by simp)
 · exact absurd (List.cons.inj h).2 (by simp)
 · have := hexP_inj (List.cons.inj (List.cons.inj h).2).2; omega
theorem sign_len (r : Int) : 1 ≤ (signP r).length := by unfold signP; split <;> simp
theorem bytes_cons (b : UInt8) (t : By) : bytesP (b :: t) = digP (b.toNat / 16) :: digP (b.toNat % 16) :: bytesP t := rfl
theorem dig_inj {a b : Nat} (ha : a < 16) (hb : b < 16) (h : digP a = digP b) : a = b := by rw [← val_dig ha, h, val_dig hb]
theorem bytes_inj : ∀ {a b : By}, bytesP a = bytesP b → a = b
 | [], [], _ => rfl
 | [], b :: t, h => by rw [bytes_cons] at h; exact absurd h (by simp [bytesP])
 | a :: s, [], h => by rw [bytes_cons] at h; exact absurd h (by simp [bytesP])
 | a :: s, b :: t, h => by
  rw [bytes_cons, bytes_cons] at h
  obtain ⟨h1, h2⟩ := List.cons.inj h
  obtain ⟨h2, h3⟩ := List.cons.inj h2
  have := a.toNat_lt; have := b.toNat_lt
  have e1 := dig_inj (by omega) (by omega) h1
  have e2 := dig_inj (by omega) (by omega) h2
  rw [bytes_inj h3, UInt8.toNat_inj.1 (show a.toNat = b.toNat by omega)]
theorem bytes_len (t : By) : (bytesP t).length = 2 * t.length := by
 induction t with
 | nil => rfl
 | cons b t ih => rw [bytes_cons]; simp only [List.length_cons, ih]; omega
theorem sign_head (r : Int) : (∃ b : UInt8, signP r = [b]) ∨ ∃ t, signP r = 85 :: 43 :: t := by
 unfold signP; split
 · exact .inl ⟨_, rfl⟩
 · exact .inr ⟨_, rfl⟩
theorem specP_mem {k : Int} (h : specP k ≠ []) : ∃ n : Nat, k = n ∧ n < 15 ∧ specP k = namesL.getD n [] := by
 unfold specP at h ⊢
 split at h
 · exact absurd rfl h
 · rename_i hk
   rw [if_neg hk]
   refine ⟨k.toNat, by omega, ?_, rfl⟩
   by_cases hn : k.toNat < 15
   · exact hn
   · exact absurd (by rw [List.getD_eq_getElem?_getD, List.getElem?_eq_none (by show 15 ≤ _; omega)]; rfl) h
def sortW (s : By) : Nat :=
 if namesL.idxOf s < 15 ∧ s ≠ [] then namesL.idxOf s
 else if [67, 45].isPrefixOf s then 6 else if [77, 45].isPrefixOf s then 7 else if pasteB.isPrefixOf s then 15 else if invalB.isPrefixOf s then 16 else 1
theorem names_idx : ∀ n, n < 15 → namesL.getD n [] ≠ [] → namesL.idxOf (namesL.getD n []) = n := by decide
theorem sort_word {k : Ky} (h : mayP k = true) : sortW (wordK k) = if k.1 = 0 then 16 else k.1.toNat := by
 obtain ⟨kd, r, t⟩ := k
 have hno : ∀ s : By, (s.length = 1 ∨ (∃ t, s = 85 :: 43 :: t) ∨ (∃ t, s = 67 :: 45 :: t) ∨ (∃ t, s = 77 :: 45 :: t) ∨ (∃ t, s = pasteB ++ t) ∨ ∃ t, s = invalB ++ t) → ¬ namesL.idxOf s < 15 := by
  intro s hs hi
  have hm : s ∈ namesL := List.idxOf_lt_length_iff.1 hi
  simp only [namesL, List.mem_cons, List.not_mem_nil, or_false] at hm
  rcases hm with rfl | rfl | rfl | rfl | rfl | rfl | rfl | rfl | rfl | rfl | rfl | rfl | rfl | rfl | rfl <;>
   (rcases hs with hs | ⟨t, hs⟩ | ⟨t, hs⟩ | ⟨t, hs⟩ | ⟨t, hs⟩ | ⟨t, hs⟩ <;> simp [pasteB, invalB] at hs)
 unfold wordK
 simp only
 by_cases h1 : kd = 1
 · subst h1
   rw [if_pos rfl, if_neg (by decide)]
   show sortW (signP r) = 1
   rcases sign_head r with ⟨b, e⟩ | ⟨t, e⟩ <;> rw [e] <;> unfold sortW
   · rw [if_neg (fun k => hno _ (.inl rfl) k.1)]; simp [pasteB, invalB]
   · rw [if_neg (fun k => hno _ (.inr (.inl ⟨t, rfl⟩)) k.1)]; simp [pasteB, invalB]
 rw [if_neg h1]
 by_cases h6 : kd = 6
 · subst h6
   rw [if_pos rfl]; unfold sortW
   rw [if_neg (fun k => hno _ (.inr (.inr (.inl ⟨_, rfl⟩))) k.1)]; simp
 rw [if_neg h6]
 by_cases h7 : kd = 7
 · subst h7
   rw [if_pos rfl]; unfold sortW
   rw [if_neg (fun k => hno _ (.inr (.inr (.inr (.inl ⟨_, rfl⟩)))) k.1)]; simp
 rw [if_neg h7]
 by_cases h15 : kd = 15
 · subst h15
   rw [if_pos rfl]; unfold sortW
   rw [if_neg (fun k => hno _ (.inr (.inr (.inr (.inr (.inl ⟨_, rfl⟩))))) k.1)]; simp [pasteB]
 rw [if_neg h15]
 by_cases h0 : kd = 0
 · subst h0
   rw [if_pos rfl]; unfold sortW
   rw [if_neg (fun k => hno _ (.inr (.inr (.inr (.inr (.inr ⟨_, rfl⟩))))) k.1)]; simp [pasteB, invalB]
 rw [if_neg h0, if_neg h0]
 unfold mayP at h
 simp only [h1, h6, h7, h15, h0, or_self, if_false, decide_eq_true_eq] at h
 obtain ⟨n, rfl, hn, e⟩ := specP_mem h.1
 have hne : namesL.getD n [] ≠ [] := by rw [← e]; exact h.1
 rw [e]; unfold sortW
 rw [names_idx n hn hne, if_pos ⟨hn, hne⟩]; rfl
theorem word_inj {a b : Ky} (ha : mayP a = true) (hb : mayP b = true) (h : wordK a = wordK b) : a = b := by
 have hs := sort_word ha
 rw [h, sort_word hb] at hs
 obtain ⟨ka, ra, ta⟩ := a
 obtain ⟨kb, rb, tb⟩ := b
 simp only at hs
 have pos : ∀ {k : Ky}, mayP k = true → 0 ≤ k.1 ∧ k.1 < 16 := by
  intro k hk
  unfold mayP at hk
  split at hk
  · omega
  · split at hk
    · omega
    · obtain ⟨n, e, hn, _⟩ := specP_mem (of_decide_eq_true hk).1; omega
 have pa := pos ha; have pb := pos hb
 simp only at pa pb
 have hk : ka = kb := by
  split at hs <;> split at hs <;> omega
 subst hk
 unfold mayP at ha hb
 unfold wordK at h
 simp only at ha hb h
 split at ha
 · rename_i h3
   rw [if_pos h3] at hb
   have ha := of_decide_eq_true ha; have hb := of_decide_eq_true hb
   rw [ha.2, hb.2]
   have : signP ra = signP rb := by
    rcases h3 with rfl | rfl | rfl <;> simpa using h
   rw [sign_inj ha.1 hb.1 this]
 · rename_i h3
   rw [if_neg h3] at hb
   split at ha
   · rename_i h2
     rw [if_pos h2] at hb
     have ha := of_decide_eq_true ha; have hb := of_decide_eq_true hb
     have : bytesP ta = bytesP tb := by
      rcases h2 with rfl | rfl <;> simpa using h
     rw [ha, hb, bytes_inj this]
   · rename_i h2
     rw [if_neg h2] at hb
     have ha := of_decide_eq_true ha; have hb := of_decide_eq_true hb
     rw [ha.2.1, ha.2.2, hb.2.1, hb.2.2]
theorem word_ne {k : Ky} (h : mayP k = true) : wordK k ≠ [] := by
 unfold wordK
 unfold mayP at h
 split
 · intro e; have := sign_len k.2.1; rw [e] at this; simp at this
 · split
   · simp
   · split
     · simp
     · split
       · simp [pasteB]
       · split
         · simp [invalB]
         · rename_i a b c d e
           simp only [a, b, c, d, e, or_self, if_false, decide_eq_true_eq] at h
           exact h.1
def KeyR (s : By) (k : Ky) (ok : Bool) : Prop := (ok = true ∧ mayP k = true ∧ wordK k = s) ∨ (ok = false ∧ k = (0, 0, []) ∧ ∀ k', mayP k' = true → wordK k' ≠ s)
end Go.Proofs.YteicdopggikieaaDoor
