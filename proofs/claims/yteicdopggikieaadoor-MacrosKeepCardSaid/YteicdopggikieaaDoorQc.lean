/- What the proof of the statement leans on (part 3). -/
import Derived.Lib.SplitLaws
import Derived.Test.YteicdopggikieaaDoorQb

namespace Go.Proofs.YteicdopggikieaaDoor
open Go
theorem ib_split (c : UInt8) : ∀ s : By, (Lib.indexByte s c = -1 ∧ c ∉ s) ∨ ∃ a r, s = a ++ c :: r ∧ c ∉ a ∧ Lib.indexByte s c = (a.length : Nat)
 | [] => Or.inl ⟨rfl, by simp⟩
 | b :: s => by
  unfold Lib.indexByte
  by_cases hb : b = c
  · subst hb
    exact Or.inr ⟨[], s, rfl, by simp, by simp⟩
  · rw [if_neg (by simpa using hb)]
    rcases ib_split c s with ⟨h, hn⟩ | ⟨a, r, rfl, hn, h⟩
    · rw [h]
      refine Or.inl ⟨rfl, ?_⟩
      simp only [List.mem_cons, not_or]
      exact ⟨fun e => hb e.symm, hn⟩
    · rw [h]
      refine Or.inr ⟨b :: a, r, rfl, ?_, ?_⟩
      · simp only [List.mem_cons, not_or]
        exact ⟨fun e => hb e.symm, hn⟩
      · have : ¬ ((a.length : Int) == -1) = true := by rw [beq_iff_eq]; omega
        rw [if_neg this]
        simp
theorem splitK_one (c : UInt8) : ∀ (fuel : Nat) (s : By), s.length < fuel → Lib.splitK [c] 0 (Lib.countFrom [c] fuel s) s = splitS c s
 | 0, s, h => by omega
 | fuel + 1, s, h => by
  rw [Lib.countFrom, Lib.index_one]
  rcases ib_split c s with ⟨e, hn⟩ | ⟨a, r, rfl, hn, e⟩
  · rw [e, splitS_none hn]; rfl
  · have h0 : ¬ ((a.length : Int) == -1) = true := by rw [beq_iff_eq]; omega
    have hd : (a ++ c :: r).drop (a.length + 1) = r := by simp
    rw [e, if_neg h0]
    simp only [Int.toNat_natCast, List.length_cons, List.length_nil, Nat.zero_add, hd]
    rw [Nat.add_comm 1, Lib.splitK, Lib.index_one, e, if_neg h0]
    simp only [Int.toNat_natCast, Nat.add_zero, List.length_cons, List.length_nil, Nat.zero_add, hd]
    rw [splitK_one c fuel r (by simp at h; omega), splitS_hit r hn]
    simp
theorem split_one (c : UInt8) (s : By) : Lib.splitK [c] 0 (Lib.count s [c]) s = splitS c s := splitK_one c _ s (Nat.lt_succ_self _)
def regP (r : Int) : Bool := decide (97 ≤ r ∧ r ≤ 122)
abbrev Rg := Nat × List (List Ky)
def Rg.has (s : Rg) (i : Nat) : List Ky := (s.2[i]?).getD []
def newR : Rg := (0, List.replicate 26 [])
def startR (r : Int) (s : Rg) : Rg × Int := if regP r = true ∧ s.1 = 0 then (((r - 96).toNat, s.2.set (r - 97).toNat []), 0) else (s, 2)
def keepR (l : List Ky) (s : Rg) : Rg × Int := if s.1 = 0 then (s, 0) else if 500 < (s.has (s.1 - 1)).length + l.length then (s, 60) else ((s.1, s.2.set (s.1 - 1) (s.has (s.1 - 1) ++ l)), 0)
def keyR (k : Ky) (s : Rg) : Rg × Int := if mayP k = true then keepR [k] s else (s, 2)
def stopR (s : Rg) : Rg × Int := if s.1 = 0 then (s, 4) else ((0, s.2), 0)
def timesR (n : Nat) (l : List Ky) : List Ky := (List.replicate n l).flatten
def playR (r n : Int) (s : Rg) : List Ky × Rg × Int :=
 if regP r = true ∧ 0 ≤ n ∧ (s.1 : Int) ≠ r - 96 then
  if 500 < n * (s.has (r - 97).toNat).length then ([], s, 60)
  else if (keepR (timesR n.toNat (s.has (r - 97).toNat)) s).2 = 0 then (timesR n.toNat (s.has (r - 97).toNat), (keepR (timesR n.toNat (s.has (r - 97).toNat)) s).1, 0)
  else ([], s, (keepR (timesR n.toNat (s.has (r - 97).toNat)) s).2)
 else ([], s, 2)
def keepsR (s : Rg) : Int × Bool := if s.1 = 0 then (0, false) else (96 + (s.1 : Int), true)
def keysR (r : Int) (s : Rg) : List Ky := if regP r = true then s.has (r - 97).toNat else []
theorem regP_iff {r : Int} : regP r = true ↔ 97 ≤ r ∧ r ≤ 122 := by unfold regP; exact decide_eq_true_iff
theorem times_len (n : Nat) (l : List Ky) : (timesR n l).length = n * l.length := by simp [timesR, List.length_flatten]
theorem times_succ (n : Nat) (l : List Ky) : timesR (n + 1) l = timesR n l ++ l := by
 unfold timesR
 rw [List.replicate_succ', List.flatten_append]; simp
theorem times_nil (n : Nat) : timesR n [] = [] := by
 rw [List.eq_nil_iff_length_eq_zero, times_len]; rfl
structure RgOk (s : Rg) : Prop where
 in' : s.1 ≤ 26
 len : s.2.length = 26
 le : ∀ l ∈ s.2, l.length ≤ 500
theorem RgOk.new : RgOk newR := ⟨by decide, by decide, fun l h => by rw [(List.mem_replicate.1 h).2]; decide⟩
theorem RgOk.has {s : Rg} (k : RgOk s) (i : Nat) : (s.has i).length ≤ 500 := by
 unfold Rg.has
 cases h : s.2[i]? with
 | none => simp
 | some l => exact k.le l (List.mem_of_getElem? h)
theorem Rg.has_some {s : Rg} (k : RgOk s) {i : Nat} (hi : i < 26) : s.2[i]? = some (s.has i) := by
 unfold Rg.has
 rw [List.getElem?_eq_getElem (by rw [k.len]; exact hi)]; rfl
theorem RgOk.set {s : Rg} (k : RgOk s) (j i : Nat) (hj : j ≤ 26) {l : List Ky} (hl : l.length ≤ 500) : RgOk (j, s.2.set i l) :=
 ⟨hj, by rw [List.length_set]; exact k.len, fun x hx => by rcases List.mem_or_eq_of_mem_set hx with h | rfl; exact k.le x h; exact hl⟩
theorem RgOk.start {s : Rg} (k : RgOk s) (r : Int) : RgOk (startR r s).1 := by
 unfold startR
 split
 · rename_i h
   have := regP_iff.1 h.1
   exact k.set _ _ (by omega) (by simp)
 · exact k
theorem RgOk.keep {s : Rg} (k : RgOk s) (l : List Ky) : RgOk (keepR l s).1 := by
 unfold keepR
 split
 · exact k
 · split
   · exact k
   · exact k.set _ _ k.in' (by rw [List.length_append]; omega)
theorem RgOk.stop {s : Rg} (k : RgOk s) : RgOk (stopR s).1 := by
 unfold stopR; split
 · exact k
 · exact ⟨Nat.zero_le _, k.len, k.le⟩
end Go.Proofs.YteicdopggikieaaDoor
