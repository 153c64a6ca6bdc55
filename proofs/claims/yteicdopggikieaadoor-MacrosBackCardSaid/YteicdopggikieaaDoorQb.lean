/- What the proof of the statement leans on (part 2). -/
import Derived.Lib.IndexBytes
import Derived.Lib.Split
import Derived.Test.YteicdopggikieaaDoorQa

namespace Go.Proofs.YteicdopggikieaaDoor
open Go
def splitS (c : UInt8) : By → List By
 | [] => [[]]
 | b :: r => if b = c then [] :: splitS c r else match splitS c r with | [] => [[b]] | x :: xs => (b :: x) :: xs
theorem splitS_none {c : UInt8} : ∀ {s : By}, c ∉ s → splitS c s = [s]
 | [], _ => rfl
 | b :: r, h => by
  simp only [List.mem_cons, not_or] at h
  rw [splitS, if_neg (fun e => h.1 e.symm), splitS_none h.2]
theorem splitS_hit {c : UInt8} : ∀ {a : By} (r : By), c ∉ a → splitS c (a ++ c :: r) = a :: splitS c r
 | [], r, _ => by rw [List.nil_append, splitS, if_pos rfl]
 | b :: a, r, h => by
  simp only [List.mem_cons, not_or] at h
  rw [List.cons_append, splitS, if_neg (fun e => h.1 e.symm), splitS_hit r h.2]
theorem splitS_ne (c : UInt8) : ∀ s : By, splitS c s ≠ []
 | [] => by simp [splitS]
 | b :: r => by
  rw [splitS]; split
  · simp
  · split <;> simp
def joinP : List By → By
 | [] => []
 | x :: xs => x ++ xs.flatMap fun y => 32 :: y
theorem joinP_cons (x y : By) (r : List By) : joinP (x :: y :: r) = x ++ 32 :: joinP (y :: r) := by
 simp [joinP]
theorem joinP_push (l : List By) (x : By) (h : l ≠ []) : joinP (l ++ [x]) = joinP l ++ 32 :: x := by
 cases l with
 | nil => exact absurd rfl h
 | cons a l => simp [joinP]
theorem joinP_split : ∀ s : By, joinP (splitS 32 s) = s
 | [] => rfl
 | b :: r => by
  have ih := joinP_split r
  rw [splitS]
  have hne := splitS_ne 32 r
  cases hr : splitS 32 r with
  | nil => exact absurd hr hne
  | cons x xs =>
   rw [hr] at ih
   split
   · rename_i e; subst e
     show joinP ([] :: x :: xs) = 32 :: r
     rw [joinP_cons, ih]; rfl
   · show (b :: x) ++ _ = b :: r
     rw [List.cons_append, ← ih]; rfl
theorem split_join : ∀ ws : List By, ws ≠ [] → (∀ w ∈ ws, (32 : UInt8) ∉ w) → splitS 32 (joinP ws) = ws
 | [], h, _ => absurd rfl h
 | [x], _, h => by simp only [joinP, List.flatMap_nil, List.append_nil]; exact splitS_none (h x (by simp))
 | x :: y :: r, _, h => by
  rw [joinP_cons, splitS_hit _ (h x (by simp)), split_join (y :: r) (by simp) (fun w hw => h w (by simp [List.mem_cons.1 hw]))]
theorem dig_ne {n : Nat} (h : n < 16) : digP n ≠ 32 := by
 intro e
 have := congrArg UInt8.toNat e
 rw [dig_nat h] at this
 revert this; split <;> intro this <;> simp at this <;> omega
theorem hexP_no (n : Nat) : (32 : UInt8) ∉ hexP n := fun h => by
 obtain ⟨d, hd, e⟩ := hexP_dig n _ h
 exact dig_ne hd e.symm
theorem sign_no {r : Int} (h : goodP r) : (32 : UInt8) ∉ signP r := by
 unfold signP
 split
 · rename_i k
   intro hm
   have e := congrArg UInt8.toNat (List.mem_singleton.1 hm)
   rw [UInt8.toNat_ofNat'] at e
   have : (32 : UInt8).toNat = 32 := rfl
   omega
 · rw [hexI_good (good_ge h).1]
   have := hexP_no r.toNat
   simp [this]
theorem bytes_no (t : By) : (32 : UInt8) ∉ bytesP t := by
 intro hm
 obtain ⟨b, _, hb⟩ := List.mem_flatMap.1 hm
 have := b.toNat_lt
 rcases List.mem_cons.1 hb with e | e
 · exact dig_ne (by omega) e.symm
 · exact dig_ne (n := b.toNat % 16) (by omega) (List.mem_singleton.1 e).symm
theorem word_no {k : Ky} (h : mayP k = true) : (32 : UInt8) ∉ wordK k := by
 unfold mayP at h
 unfold wordK
 split at h
 · rename_i h3
   have hs := sign_no (of_decide_eq_true h).1
   rcases h3 with e | e | e <;> rw [e] <;> simp [hs]
 · rename_i h3
   split at h
   · rename_i h2
     have hb := bytes_no k.2.2
     rcases h2 with e | e <;> rw [e] <;> simp [pasteB, invalB, hb]
   · rename_i h2
     obtain ⟨n, e, hn, e2⟩ := specP_mem (of_decide_eq_true h).1
     rw [if_neg (fun k => h3 (.inl k)), if_neg (fun k => h3 (.inr (.inl k))), if_neg (fun k => h3 (.inr (.inr k))), if_neg (fun k => h2 (.inl k)), if_neg (fun k => h2 (.inr k)), e2]
     exact (show ∀ n, n < 15 → (32 : UInt8) ∉ namesL.getD n [] by decide) n hn
noncomputable def keyP (s : By) : Option Ky := open Classical in if h : ∃ k, mayP k = true ∧ wordK k = s then some h.choose else none
theorem keyP_word {k : Ky} (h : mayP k = true) : keyP (wordK k) = some k := by
 unfold keyP
 have he : ∃ k', mayP k' = true ∧ wordK k' = wordK k := ⟨k, h, rfl⟩
 rw [dif_pos he]
 exact congrArg some (word_inj he.choose_spec.1 h he.choose_spec.2)
theorem keyP_some {s : By} {k : Ky} (h : keyP s = some k) : mayP k = true ∧ wordK k = s := by
 unfold keyP at h
 split at h
 · rename_i he
   cases h
   exact he.choose_spec
 · cases h
theorem keyP_none {s : By} : keyP s = none ↔ ∀ k, mayP k = true → wordK k ≠ s := by
 constructor
 · intro h k hk e
   rw [← e, keyP_word hk] at h
   cases h
 · intro h
   cases hk : keyP s with
   | none => rfl
   | some k => have := keyP_some hk; exact absurd this.2 (h k this.1)
theorem keyP_nil : keyP [] = none := keyP_none.2 fun _ h => word_ne h
noncomputable def keyV (s : By) : Ky × Bool := match keyP s with | some k => (k, true) | none => ((0, 0, []), false)
theorem KeyR.val {s : By} {k : Ky} {ok : Bool} (h : KeyR s k ok) : keyV s = (k, ok) := by
 unfold keyV
 rcases h with ⟨rfl, h1, rfl⟩ | ⟨rfl, rfl, h3⟩
 · rw [keyP_word h1]
 · rw [keyP_none.2 h3]
def putK (ks : List Ky) : By := joinP ((ks.filter fun k => mayP k).map wordK)
noncomputable def getW : List By → Int → List Ky → List Ky × Int × Int
 | [], _, acc => (acc, 0, 0)
 | w :: ws, n, acc => match keyP w with | some k => getW ws (n + 1) (acc ++ [k]) | none => ([], n + 1, 10)
noncomputable def getK (s : By) : List Ky × Int × Int := if s = [] then ([], 0, 0) else getW (splitS 32 s) 0 []
theorem getW_words : ∀ (ks : List Ky) (n : Int) (acc : List Ky), (∀ k ∈ ks, mayP k = true) → getW (ks.map wordK) n acc = (acc ++ ks, 0, 0)
 | [], n, acc, _ => by simp [getW]
 | k :: ks, n, acc, h => by
  rw [List.map_cons, getW, keyP_word (h k (by simp))]
  show getW (ks.map wordK) (n + 1) (acc ++ [k]) = _
  rw [getW_words ks _ _ (fun x hx => h x (by simp [hx])), List.append_assoc]; rfl
theorem joinP_ne {ws : List By} (h : ws ≠ []) (hw : ∀ w ∈ ws, w ≠ []) : joinP ws ≠ [] := by
 cases ws with
 | nil => exact absurd rfl h
 | cons a l => have := hw a (by simp); simp [joinP, this]
theorem get_put (ks : List Ky) : getK (putK ks) = (ks.filter (fun k => mayP k), 0, 0) := by
 unfold putK
 have hm : ∀ k ∈ ks.filter (fun k => mayP k), mayP k = true := fun k hk => (List.mem_filter.1 hk).2
 generalize ks.filter (fun k => mayP k) = l at hm
 unfold getK
 cases l with
 | nil => rfl
 | cons k l =>
  rw [if_neg (joinP_ne (by simp) (fun w hw => by obtain ⟨x, hx, rfl⟩ := List.mem_map.1 hw; exact word_ne (hm x hx))),
   split_join _ (by simp) (fun w hw => by obtain ⟨x, hx, rfl⟩ := List.mem_map.1 hw; exact word_no (hm x hx)), getW_words _ _ _ hm]
  rfl
theorem getW_spec : ∀ (ws : List By) (n : Int) (acc : List Ky), 0 ≤ n → (∃ ks, getW ws n acc = (acc ++ ks, 0, 0) ∧ ks.map wordK = ws ∧ ∀ k ∈ ks, mayP k = true) ∨ ∃ p, getW ws n acc = ([], p, 10) ∧ 0 < p
 | [], n, acc, _ => .inl ⟨[], by simp [getW], rfl, by simp⟩
 | w :: ws, n, acc, hn => by
  rw [getW]
  cases hk : keyP w with
  | none => exact .inr ⟨n + 1, rfl, by omega⟩
  | some k =>
   obtain ⟨h1, h2⟩ := keyP_some hk
   rcases getW_spec ws (n + 1) (acc ++ [k]) (by omega) with ⟨ks, e, e2, e3⟩ | ⟨p, e, hp⟩
   · exact .inl ⟨k :: ks, by show getW ws (n + 1) (acc ++ [k]) = _; rw [e, List.append_assoc]; rfl, by rw [List.map_cons, e2, h2], fun x hx => (List.mem_cons.1 hx).elim (fun k' => k' ▸ h1) (e3 x)⟩
   · exact .inr ⟨p, e, hp⟩
end Go.Proofs.YteicdopggikieaaDoor
