/- Plain words, the logic of walks, and walks that the statement's proof leans on (part 20). -/
import Derived.Test.YtlegopbpofofgaaDoorQa
import Derived.Test.YtlegopbpofofgaaDoorQb
import Derived.Test.YtlegopbpofofgaaDoorQc
import Derived.Test.YtlegopbpofofgaaDoorQd
import Derived.Test.YtlegopbpofofgaaDoorQe
import Derived.Test.YtlegopbpofofgaaDoorQf
import Derived.Test.YtlegopbpofofgaaDoorQg
import Derived.Test.YtlegopbpofofgaaDoorQh
import Derived.Test.YtlegopbpofofgaaDoorQi
import Derived.Test.YtlegopbpofofgaaDoorQj
import Derived.Test.YtlegopbpofofgaaDoorQk
import Derived.Test.YtlegopbpofofgaaDoorQl
import Derived.Test.YtlegopbpofofgaaDoorQm
import Derived.Test.YtlegopbpofofgaaDoorQn
import Derived.Test.YtlegopbpofofgaaDoorQo
import Derived.Test.YtlegopbpofofgaaDoorQp
import Derived.Test.YtlegopbpofofgaaDoorQq
import Derived.Test.YtlegopbpofofgaaDoorQr
import Derived.Test.YtlegopbpofofgaaDoorQs

/- What a state of a table says of texts; which states say anything. -/
namespace Go.Proofs.YtlegopbpofofgaaDoor
open Go

/-- The state behind a text (-1: none). -/
def Tab.go (d : Tab) : By → Int → Int
  | [], s => s
  | c :: l, s => Tab.go d l (if s < 0 then -1 else d.to s.toNat c)
/-- The rule of a text, from a state on. -/
def Tab.says (d : Tab) (s : Int) (w : By) : Int := if d.go w s < 0 then -1 else d.ru (d.go w s).toNat
theorem go_neg (d : Tab) : ∀ (w : By) (s : Int), s < 0 → d.go w s < 0
  | [], s, h => h
  | c :: l, s, h => by
    rw [Tab.go, if_pos h]
    exact go_neg d l (-1) (by decide)
theorem says_neg (d : Tab) (w : By) {s : Int} (h : s < 0) : d.says s w = -1 := by rw [Tab.says, if_pos (go_neg d w s h)]
theorem says_nil (d : Tab) (k : Nat) : d.says (k : Int) [] = d.ru k := by
  rw [Tab.says, Tab.go, if_neg (by omega), Int.toNat_natCast]
theorem says_cons (d : Tab) (k : Nat) (c : UInt8) (w : By) : d.says (k : Int) (c :: w) = d.says (d.to k c) w := by
  have h : ¬ ((k : Int) < 0) := by omega
  rw [Tab.says, Tab.says, Tab.go, if_neg h, Int.toNat_natCast]

def Alive (d : Tab) (k : Nat) : Prop := ∃ w, 0 ≤ d.says (k : Int) w
/-- What the list says is so. -/
def LiveSound (d : Tab) (out : List Bool) : Prop := ∀ k : Nat, out.getD k false = true → Alive d k

theorem row_to {d : Tab} {k : Nat} {t : Int} (h : t ∈ d.row k) : ∃ c : UInt8, d.to k c = t := by
  unfold Tab.row at h
  split at h
  · rename_i r hr
    obtain ⟨i, hi⟩ := List.getElem?_of_mem h
    have hl := (List.getElem?_eq_some_iff.1 hi).1
    rw [r.len] at hl
    refine ⟨UInt8.ofNat i, ?_⟩
    have hc : (UInt8.ofNat i).toNat = i := by simp; omega
    unfold Tab.to
    rw [hr]
    simp only
    rw [hc, List.getD_eq_getElem?_getD, hi]; rfl
  · cases h
theorem to_row {d : Tab} {k : Nat} (c : UInt8) (h : k < d.next.length) : d.to k c ∈ d.row k := by
  have hr : d.next[k]? = some (d.next[k]'h) := List.getElem?_eq_getElem _
  obtain ⟨x, hx, he, hm⟩ := (d.next[k]'h).at c
  unfold Tab.to Tab.row
  rw [hr]
  simp only
  rw [he]; exact hm

theorem liveAt_sound {d : Tab} {out : List Bool} (h : LiveSound d out) (k : Nat) (ha : liveAt d out k = true) : Alive d k := by
  unfold liveAt at ha
  rcases Bool.or_eq_true _ _ ▸ ha with e | e
  · exact ⟨[], by rw [says_nil]; exact of_decide_eq_true e⟩
  · obtain ⟨t, ht, hl⟩ := List.any_eq_true.1 e
    unfold liveTo at hl
    rw [Bool.and_eq_true] at hl
    have h0 := of_decide_eq_true hl.1
    obtain ⟨c, hc⟩ := row_to ht
    obtain ⟨w, hw⟩ := h t.toNat hl.2
    refine ⟨c :: w, ?_⟩
    rw [says_cons, hc]
    rwa [Int.toNat_of_nonneg h0] at hw
theorem set_sound {d : Tab} {out : List Bool} (h : LiveSound d out) (k : Nat) : LiveSound d (out.set k (liveAt d out k)) := by
  intro j hj
  by_cases e : k = j
  · subst e
    rw [List.getD_eq_getElem?_getD] at hj
    by_cases hk : k < out.length
    · rw [List.getElem?_set_self hk] at hj
      exact liveAt_sound h k hj
    · rw [List.getElem?_eq_none (by simp; omega)] at hj; cases hj
  · rw [List.getD_eq_getElem?_getD, List.getElem?_set_ne e, ← List.getD_eq_getElem?_getD] at hj
    exact h j hj
theorem livePass_sound {d : Tab} : ∀ (n k : Nat) (out : List Bool) (ag : Bool), LiveSound d out → LiveSound d (livePass d n k out ag).1
  | 0, _, _, _, h => h
  | n + 1, k, out, ag, h => by
    rw [livePass]
    split
    · exact livePass_sound n (k + 1) out ag h
    · exact livePass_sound n (k + 1) _ _ (set_sound h k)

/-- A pass that turns nothing: all that lives is there. -/
theorem livePass_still {d : Tab} : ∀ (n k : Nat) (out : List Bool) (ag : Bool), k + n ≤ out.length → (livePass d n k out ag).2 = false → (livePass d n k out ag).1 = out ∧ ∀ j, k ≤ j → j < k + n → out.getD j false = false → liveAt d out j = false
  | 0, _, _, _, _, _ => ⟨rfl, fun j h1 h2 => by omega⟩
  | n + 1, k, out, ag, hk, h => by
    rw [livePass] at h ⊢
    split at h
    · rename_i hg
      rw [if_pos hg]
      obtain ⟨h1, h2⟩ := livePass_still n (k + 1) out ag (by omega) h
      exact ⟨h1, fun j hj1 hj2 hj3 => by
        by_cases e : j = k
        · subst e; rw [hg] at hj3; cases hj3
        · exact h2 j (by omega) (by omega) hj3⟩
    · rename_i hg
      rw [if_neg hg]
      have hf : out[k]? = some false := by
        rw [List.getD_eq_getElem?_getD, List.getElem?_eq_getElem (by omega)] at hg
        rw [List.getElem?_eq_getElem (by omega)]
        simpa using hg
      obtain ⟨h1, h2⟩ := livePass_still n (k + 1) _ _ (by simp; omega) h
      have hb : liveAt d out k = false := by
        cases hb : liveAt d out k with
        | false => rfl
        | true =>
          exfalso
          rw [hb, Bool.or_true] at h
          have hmono : ∀ (n k : Nat) (out : List Bool), (livePass d n k out true).2 = true := fun n => by
            induction n with
            | zero => intro k out; rfl
            | succ n ih => intro k out; rw [livePass]; split <;> simp [ih]
          rw [hmono] at h; cases h
      have hset : out.set k (liveAt d out k) = out := by
        rw [hb]
        apply List.ext_getElem?
        intro j
        by_cases e : k = j
        · subst e; rw [List.getElem?_set_self (by omega), hf]
        · rw [List.getElem?_set_ne e]
      rw [hset] at h1 h2
      rw [hset]
      exact ⟨h1, fun j hj1 hj2 hj3 => by
        by_cases e : j = k
        · subst e; exact hb
        · exact h2 j (by omega) (by omega) hj3⟩

def LiveClosed (d : Tab) (out : List Bool) : Prop := ∀ k, k < d.next.length → out.getD k false = false → liveAt d out k = false
theorem liveG_spec {d : Tab} : ∀ (n : Nat) (out : List Bool), out.length = d.next.length → falses out < n → LiveSound d out → LiveSound d (liveG d n out) ∧ LiveClosed d (liveG d n out)
  | 0, _, _, h, _ => absurd h (Nat.not_lt_zero _)
  | n + 1, out, hl, hf, hs => by
    have hless := livePass_less d d.next.length 0 out false (by omega)
    have hsp := livePass_sound d.next.length 0 out false hs
    rw [liveG]
    split
    · rename_i ht
      rcases hless.2 ht with e | e
      · cases e
      · exact liveG_spec n _ (by rw [livePass_len]; exact hl) (by omega) hsp
    · rename_i ht
      have hst := livePass_still d.next.length 0 out false (by omega) (by simpa using ht)
      rw [hst.1]
      exact ⟨hs, fun k hk hko => hst.2 k (Nat.zero_le _) (by omega) hko⟩
theorem closed_alive {d : Tab} {out : List Bool} (hok : d.Ok) (h : LiveClosed d out) : ∀ (w : By) (k : Nat), k < d.next.length → 0 ≤ d.says (k : Int) w → out.getD k false = true
  | [], k, hk, hw => by
    rw [says_nil] at hw
    cases ho : out.getD k false with
    | true => rfl
    | false =>
      have := h k hk ho
      unfold liveAt at this
      rw [decide_eq_true hw] at this
      cases this
  | c :: w, k, hk, hw => by
    rw [says_cons] at hw
    have ht := Tab.to_lt hok (s := k) c
    have h0 : 0 ≤ d.to k c := by
      by_cases e : d.to k c < 0
      · rw [says_neg d w e] at hw; omega
      · omega
    obtain ⟨t, htt⟩ := Int.eq_ofNat_of_zero_le h0
    rw [htt] at hw
    have ih := closed_alive hok h w t (by omega) hw
    cases ho : out.getD k false with
    | true => rfl
    | false =>
      have := h k hk ho
      unfold liveAt at this
      rw [Bool.or_eq_false_iff] at this
      have h2 := List.any_eq_false.1 this.2 _ (to_row c hk)
      unfold liveTo at h2
      rw [htt, Int.toNat_natCast, ih] at h2
      simp at h2
theorem liveP_spec {d : Tab} (hok : d.Ok) {k : Nat} (hk : k < d.next.length) : (liveP d).getD k false = true ↔ Alive d k := by
  have h := liveG_spec (d := d) (d.next.length + 1) (List.replicate d.next.length false) (by simp) (by
    have : falses (List.replicate d.next.length false) ≤ d.next.length := by unfold falses; exact Nat.le_trans (List.length_filter_le _ _) (by simp)
    omega) (fun k hk => by
      rw [List.getD_eq_getElem?_getD, List.getElem?_replicate] at hk
      split at hk <;> cases hk)
  exact ⟨h.1 k, fun ⟨w, hw⟩ => closed_alive hok h.2 w k hk hw⟩

end Go.Proofs.YtlegopbpofofgaaDoor

/- What classes says: which states say the same of all texts. -/
namespace Go.Proofs.YtlegopbpofofgaaDoor
open Go

structure PassKey (d : Tab) (live : List Bool) (cls : List Int) (k : Nat) (seen : List (List Int)) (after : List Int) : Prop where
  len : after.length = k
  once : seen.Nodup
  at_ : ∀ j, j < k → ∃ i : Nat, after[j]? = some (i : Int) ∧ seen[i]? = some (stKey d live cls j)
theorem findK_none : ∀ (ls : List (List Int)) (i : Nat) (l : List Int), findK i ls l = none → l ∉ ls
  | [], i, l, _ => List.not_mem_nil
  | x :: r, i, l, h => by
    rw [findK] at h
    split at h
    · cases h
    · rename_i e
      have := findK_none r (i + 1) l h
      simp only [List.mem_cons, not_or]
      exact ⟨e, this⟩
theorem classPass_key {d : Tab} {live : List Bool} {cls : List Int} : ∀ (n k : Nat) (seen : List (List Int)) (after : List Int), PassKey d live cls k seen after → PassKey d live cls (k + n) (classPass d live cls n k seen after).1 (classPass d live cls n k seen after).2
  | 0, k, seen, after, h => h
  | n + 1, k, seen, after, h => by
    rw [classPass, show k + (n + 1) = (k + 1) + n by omega]
    split
    · rename_i i hi
      have hi' := findK_some seen 0 i _ hi
      refine classPass_key n (k + 1) _ _ ⟨by simp [h.len], h.once, fun j hj => ?_⟩
      by_cases e : j = k
      · subst e
        refine ⟨i, ?_, hi'.2⟩
        rw [← h.len, List.getElem?_concat_length]
      · obtain ⟨i', h1, h2⟩ := h.at_ j (by omega)
        exact ⟨i', by rw [List.getElem?_append_left (by rw [h.len]; omega)]; exact h1, h2⟩
    · rename_i hi
      have hno := findK_none seen 0 _ hi
      refine classPass_key n (k + 1) _ _ ⟨by simp [h.len], List.nodup_append.2 ⟨h.once, by simp, fun a ha b hb e => ?_⟩, fun j hj => ?_⟩
      · have : b = stKey d live cls k := by simpa using hb
        rw [e, this] at ha
        exact hno ha
      · by_cases e : j = k
        · subst e
          refine ⟨seen.length, ?_, by rw [List.getElem?_concat_length]⟩
          rw [← h.len, List.getElem?_concat_length]
        · obtain ⟨i', h1, h2⟩ := h.at_ j (by omega)
          exact ⟨i', by rw [List.getElem?_append_left (by rw [h.len]; omega)]; exact h1, by rw [List.getElem?_append_left (List.getElem?_eq_some_iff.1 h2).1]; exact h2⟩
/-- After a pass two states have one number if and only if they have one key. -/
theorem classPass_iff {d : Tab} {live : List Bool} {cls : List Int} {s t : Nat} (hs : s < d.next.length) (ht : t < d.next.length) :
    (classPass d live cls d.next.length 0 [] []).2.getD s 0 = (classPass d live cls d.next.length 0 [] []).2.getD t 0 ↔ stKey d live cls s = stKey d live cls t := by
  have h := classPass_key (d := d) (live := live) (cls := cls) d.next.length 0 [] [] ⟨rfl, by simp, fun j hj => absurd hj (Nat.not_lt_zero _)⟩
  rw [Nat.zero_add] at h
  obtain ⟨i, h1, h2⟩ := h.at_ s hs
  obtain ⟨j, h3, h4⟩ := h.at_ t ht
  rw [List.getD_eq_getElem?_getD, List.getD_eq_getElem?_getD, h1, h3]
  constructor
  · intro e
    have : i = j := by
      have e' : (i : Int) = (j : Int) := e
      omega
    subst this
    rw [h2] at h4
    exact Option.some.inj h4
  · intro e
    rw [← e] at h4
    have hi := (List.getElem?_eq_some_iff.1 h2)
    have hj := (List.getElem?_eq_some_iff.1 h4)
    obtain ⟨hi1, hi2⟩ := hi
    obtain ⟨hj1, hj2⟩ := hj
    have : i = j := by
      rcases Nat.lt_trichotomy i j with e | e | e
      · exact absurd (hi2.trans hj2.symm) (List.pairwise_iff_getElem.1 h.once i j hi1 hj1 e)
      · exact e
      · exact absurd (hj2.trans hi2.symm) (List.pairwise_iff_getElem.1 h.once j i hj1 hi1 e)
    subst this; rfl

end Go.Proofs.YtlegopbpofofgaaDoor

/- classes tells apart just those states that some text tells apart. -/
namespace Go.Proofs.YtlegopbpofofgaaDoor
open Go

theorem covers_once : ∀ (m : Nat) (l : List Int), Covers m l → l.length = m → l.Nodup
  | 0, l, _, hl => by rw [List.length_eq_zero_iff.1 hl]; exact List.Pairwise.nil
  | m + 1, l, h, hl => by
    have hm := h m (Nat.lt_succ_self m)
    have h1 : Covers m (l.erase (m : Int)) := fun i hi => (List.mem_erase_of_ne (by omega)).2 (h i (by omega))
    have h3 := List.length_erase_of_mem hm
    have h2 := covers_once m _ h1 (by omega)
    have hno : (m : Int) ∉ l.erase (m : Int) := fun hin => by
      have h4 : Covers m ((l.erase (m : Int)).erase (m : Int)) := fun i hi => (List.mem_erase_of_ne (by omega)).2 (h1 i hi)
      have h5 := covers_len _ _ h4
      have h6 := List.length_erase_of_mem hin
      have h7 := List.length_pos_of_mem hin
      omega
    exact (List.perm_cons_erase hm).nodup_iff.2 (List.nodup_cons.2 ⟨hno, h2⟩)

theorem row_get {d : Tab} {s : Nat} (hs : s < d.next.length) (c : UInt8) : (d.row s)[c.toNat]? = some (d.to s c) := by
  have hr : d.next[s]? = some (d.next[s]'hs) := List.getElem?_eq_getElem _
  obtain ⟨x, hx, he, _⟩ := (d.next[s]'hs).at c
  unfold Tab.row Tab.to
  rw [hr]
  simp only
  rw [he]; exact hx
theorem row_len {d : Tab} {s : Nat} (hs : s < d.next.length) : (d.row s).length = 256 := by
  have hr : d.next[s]? = some (d.next[s]'hs) := List.getElem?_eq_getElem _
  unfold Tab.row
  rw [hr]
  exact (d.next[s]'hs).len
theorem row_map {d : Tab} {s t : Nat} (hs : s < d.next.length) (ht : t < d.next.length) (f : Int → Int) : (d.row s).map f = (d.row t).map f ↔ ∀ c : UInt8, f (d.to s c) = f (d.to t c) := by
  constructor
  · intro e c
    have := congrArg (fun l => l[c.toNat]?) e
    simp only [List.getElem?_map, row_get hs c, row_get ht c, Option.map_some, Option.some.injEq] at this
    exact this
  · intro h
    apply List.ext_getElem?
    intro i
    by_cases hi : i < 256
    · have hc : (UInt8.ofNat i).toNat = i := by simp; omega
      have h1 := row_get hs (UInt8.ofNat i)
      have h2 := row_get ht (UInt8.ofNat i)
      rw [hc] at h1 h2
      rw [List.getElem?_map, List.getElem?_map, h1, h2, Option.map_some, Option.map_some, h]
    · rw [List.getElem?_eq_none (by rw [List.length_map, row_len hs]; omega), List.getElem?_eq_none (by rw [List.length_map, row_len ht]; omega)]

def Alike (d : Tab) (a b : Int) : Prop := ∀ w, d.says a w = d.says b w
theorem says_ge {d : Tab} (hok : d.Ok) (a : Int) (w : By) : -1 ≤ d.says a w := by
  unfold Tab.says
  split
  · omega
  · unfold Tab.ru
    rw [List.getD_eq_getElem?_getD]
    cases h : d.rule[(d.go w a).toNat]? with
    | none => decide
    | some x => exact (hok.ru x (List.mem_of_getElem? h)).1
/-- A state that is none, or does not live. -/
theorem dead_iff {d : Tab} (hok : d.Ok) {a : Int} (ha : a < d.next.length) : (a < 0 ∨ (liveP d).getD a.toNat false = false) ↔ ∀ w, d.says a w = -1 := by
  constructor
  · intro h w
    rcases h with h | h
    · exact says_neg d w h
    · by_cases hn : a < 0
      · exact says_neg d w hn
      · obtain ⟨k, rfl⟩ := Int.eq_ofNat_of_zero_le (show 0 ≤ a by omega)
        have hl := liveP_spec hok (k := k) (by omega)
        have hg := says_ge hok (k : Int) w
        by_cases hw : 0 ≤ d.says (k : Int) w
        · rw [Int.toNat_natCast, hl.2 ⟨w, hw⟩] at h; cases h
        · omega
  · intro h
    by_cases hn : a < 0
    · exact .inl hn
    · right
      obtain ⟨k, rfl⟩ := Int.eq_ofNat_of_zero_le (show 0 ≤ a by omega)
      have hl := liveP_spec hok (k := k) (by omega)
      rw [Int.toNat_natCast]
      cases hb : (liveP d).getD k false with
      | false => rfl
      | true =>
        obtain ⟨w, hw⟩ := hl.1 hb
        have := h w; omega

structure ClsOk (d : Tab) (cls : List Int) : Prop where
  len : cls.length = d.next.length
  ge : ∀ k, -1 ≤ cls.getD k 0
  alike : ∀ s t : Nat, s < d.next.length → t < d.next.length → Alike d s t → cls.getD s 0 = cls.getD t 0
  rule : ∀ s t : Nat, s < d.next.length → t < d.next.length → cls.getD s 0 = cls.getD t 0 → d.ru s = d.ru t
theorem behind_alike {d : Tab} (hok : d.Ok) {cls : List Int} (k : ClsOk d cls) {a b : Int} (ha : a < d.next.length) (hb : b < d.next.length) (h : Alike d a b) : behindV (liveP d) cls a = behindV (liveP d) cls b := by
  by_cases hd : a < 0 ∨ (liveP d).getD a.toNat false = false
  · have hd' : b < 0 ∨ (liveP d).getD b.toNat false = false := (dead_iff hok hb).2 fun w => by rw [← h w]; exact (dead_iff hok ha).1 hd w
    rw [behindV, if_pos hd, behindV, if_pos hd']
  · have hd' : ¬ (b < 0 ∨ (liveP d).getD b.toNat false = false) := fun e => hd ((dead_iff hok ha).2 fun w => by rw [h w]; exact (dead_iff hok hb).1 e w)
    rw [behindV, if_neg hd, behindV, if_neg hd']
    have ha0 : 0 ≤ a := by
      by_cases e : a < 0
      · exact absurd (.inl e) hd
      · omega
    have hb0 : 0 ≤ b := by
      by_cases e : b < 0
      · exact absurd (.inl e) hd'
      · omega
    exact k.alike a.toNat b.toNat (by omega) (by omega) (by rw [Int.toNat_of_nonneg ha0, Int.toNat_of_nonneg hb0]; exact h)
theorem key_alike {d : Tab} (hok : d.Ok) {cls : List Int} (k : ClsOk d cls) {s t : Nat} (hs : s < d.next.length) (ht : t < d.next.length) (h : Alike d s t) : stKey d (liveP d) cls s = stKey d (liveP d) cls t := by
  unfold stKey
  rw [k.alike s t hs ht h, (row_map hs ht _).2 fun c => behind_alike hok k (Tab.to_lt hok c).2 (Tab.to_lt hok c).2 fun w => by rw [← says_cons, ← says_cons]; exact h (c :: w)]

end Go.Proofs.YtlegopbpofofgaaDoor

/- classes tells apart just those states that some text tells apart: the rounds. -/
namespace Go.Proofs.YtlegopbpofofgaaDoor
open Go

theorem key_head {d : Tab} {live : List Bool} {cls : List Int} {s t : Nat} (h : stKey d live cls s = stKey d live cls t) : cls.getD s 0 = cls.getD t 0 := by
  unfold stKey at h
  exact (List.cons.inj h).1
theorem pass_cls {d : Tab} (hok : d.Ok) {cls : List Int} (k : ClsOk d cls) : ClsOk d (classPass d (liveP d) cls d.next.length 0 [] []).2 := by
  have hend := classPass_end d (liveP d) cls
  refine ⟨hend.len, fun j => ?_, fun s t hs ht h => (classPass_iff hs ht).2 (key_alike hok k hs ht h), fun s t hs ht h => k.rule s t hs ht (key_head ((classPass_iff hs ht).1 h))⟩
  rw [List.getD_eq_getElem?_getD]
  cases hx : (classPass d (liveP d) cls d.next.length 0 [] []).2[j]? with
  | none => decide
  | some x => have := hend.bound x (List.mem_of_getElem? hx); show -1 ≤ x; omega
theorem ru_getD {d : Tab} (hok : d.Ok) {s : Nat} (hs : s < d.next.length) : d.rule.getD s 0 = d.ru s := by
  have hl := hok.len
  unfold Tab.ru
  rw [List.getD_eq_getElem?_getD, List.getD_eq_getElem?_getD, List.getElem?_eq_getElem (by omega)]; rfl
theorem rule_cls {d : Tab} (hok : d.Ok) : ClsOk d d.rule := by
  refine ⟨hok.len, fun k => ?_, fun s t hs ht h => ?_, fun s t hs ht h => ?_⟩
  · rw [List.getD_eq_getElem?_getD]
    cases hx : d.rule[k]? with
    | none => decide
    | some x => exact (hok.ru x (List.mem_of_getElem? hx)).1
  · rw [ru_getD hok hs, ru_getD hok ht]
    have := h []
    rwa [says_nil, says_nil] at this
  · rwa [ru_getD hok hs, ru_getD hok ht] at h
theorem stable_alike {d : Tab} (hok : d.Ok) {cls : List Int} (k : ClsOk d cls) (hst : ∀ s t, s < d.next.length → t < d.next.length → cls.getD s 0 = cls.getD t 0 → stKey d (liveP d) cls s = stKey d (liveP d) cls t) : ∀ (w : By) (s t : Nat), s < d.next.length → t < d.next.length → cls.getD s 0 = cls.getD t 0 → d.says (s : Int) w = d.says (t : Int) w
  | [], s, t, hs, ht, h => by rw [says_nil, says_nil]; exact k.rule s t hs ht h
  | c :: w, s, t, hs, ht, h => by
    rw [says_cons, says_cons]
    have hk := hst s t hs ht h
    unfold stKey at hk
    have hb := (row_map hs ht _).1 (List.cons.inj hk).2 c
    have ha := (Tab.to_lt hok (s := s) c).2
    have hb2 := (Tab.to_lt hok (s := t) c).2
    generalize d.to s c = a at *
    generalize d.to t c = b at *
    by_cases hd : a < 0 ∨ (liveP d).getD a.toNat false = false
    · have hd' : b < 0 ∨ (liveP d).getD b.toNat false = false := by
        by_cases e : b < 0 ∨ (liveP d).getD b.toNat false = false
        · exact e
        · rw [behindV, if_pos hd, behindV, if_neg e] at hb
          have := k.ge b.toNat
          omega
      rw [(dead_iff hok ha).1 hd w, (dead_iff hok hb2).1 hd' w]
    · by_cases hd' : b < 0 ∨ (liveP d).getD b.toNat false = false
      · rw [behindV, if_neg hd, behindV, if_pos hd'] at hb
        have := k.ge a.toNat
        omega
      · rw [behindV, if_neg hd, behindV, if_neg hd'] at hb
        have ha0 : 0 ≤ a := by
          by_cases e : a < 0
          · exact absurd (.inl e) hd
          · omega
        have hb0 : 0 ≤ b := by
          by_cases e : b < 0
          · exact absurd (.inl e) hd'
          · omega
        have ih := stable_alike hok k hst w a.toNat b.toNat (by omega) (by omega) hb
        rwa [Int.toNat_of_nonneg ha0, Int.toNat_of_nonneg hb0] at ih
theorem classG_spec {d : Tab} (hok : d.Ok) : ∀ (n many : Nat) (cls : List Int), ClsOk d cls → Covers many cls → many ≤ d.next.length → d.next.length + 1 ≤ n + many → ClsOk d (classG d (liveP d) n many cls) ∧ ∀ s t : Nat, s < d.next.length → t < d.next.length → (classG d (liveP d) n many cls).getD s 0 = (classG d (liveP d) n many cls).getD t 0 → Alike d s t
  | 0, many, cls, k, hc, hm, hf => by omega
  | n + 1, many, cls, k, hc, hm, hf => by
    have hend := classPass_end d (liveP d) cls
    have hmore := classPass_more (live := liveP d) hc k.len
    have hp := pass_cls hok k
    rw [classG]
    split
    · rename_i he
      refine ⟨hp, fun s t hs ht h w => ?_⟩
      have hkey := (classPass_iff hs ht).1 h
      refine stable_alike hok k (fun s t hs ht h => ?_) w s t hs ht (key_head hkey)
      have hcov : Covers many ((classPass d (liveP d) cls d.next.length 0 [] []).1.map fun s => s.getD 0 0) := fun i hi => by
        obtain ⟨k', hk'⟩ := List.getElem?_of_mem (hc i hi)
        have hkl := (List.getElem?_eq_some_iff.1 hk').1
        have := hend.all k' (by have := k.len; omega)
        refine List.mem_map.2 ⟨_, this, ?_⟩
        simp [stKey, List.getD_eq_getElem?_getD, hk']
      have hon := covers_once many _ hcov (by simpa using he)
      obtain ⟨i, hi⟩ := List.getElem?_of_mem (hend.all s hs)
      obtain ⟨j, hj⟩ := List.getElem?_of_mem (hend.all t ht)
      have h1 : ((classPass d (liveP d) cls d.next.length 0 [] []).1.map fun s => s.getD 0 0)[i]? = some (cls.getD s 0) := by rw [List.getElem?_map, hi]; rfl
      have h2 : ((classPass d (liveP d) cls d.next.length 0 [] []).1.map fun s => s.getD 0 0)[j]? = some (cls.getD s 0) := by rw [List.getElem?_map, hj, h]; rfl
      obtain ⟨hi1, hi2⟩ := List.getElem?_eq_some_iff.1 h1
      obtain ⟨hj1, hj2⟩ := List.getElem?_eq_some_iff.1 h2
      have hij : i = j := by
        rcases Nat.lt_trichotomy i j with e | e | e
        · exact absurd (hi2.trans hj2.symm) (List.pairwise_iff_getElem.1 hon i j hi1 hj1 e)
        · exact e
        · exact absurd (hj2.trans hi2.symm) (List.pairwise_iff_getElem.1 hon j i hj1 hi1 e)
      subst hij
      rw [hi] at hj
      exact Option.some.inj hj
    · rename_i hne
      have hsz := hend.size
      exact classG_spec hok n _ _ hp hend.nums hsz (by omega)
/-- Two states have one class if and only if they say the same of all texts. -/
theorem classP_spec {d : Tab} (hok : d.Ok) {s t : Nat} (hs : s < d.next.length) (ht : t < d.next.length) : (classP d (liveP d)).getD s 0 = (classP d (liveP d)).getD t 0 ↔ Alike d s t := by
  have h := classG_spec hok (d.next.length + 1) 0 d.rule (rule_cls hok) (fun i hi => absurd hi (Nat.not_lt_zero _)) (Nat.zero_le _) (by omega)
  exact ⟨h.2 s t hs ht, h.1.alike s t hs ht⟩

end Go.Proofs.YtlegopbpofofgaaDoor

/- No state's rule is above the rules' number. -/
namespace Go.Proofs.YtlegopbpofofgaaDoor
open Go

def RuleB (B : Nat) (ss : List Ste) : Prop := ∀ x ∈ ss, x.rule ≤ B
theorem RuleB.snoc {B : Nat} {ss : List Ste} (k : RuleB B ss) {x : Ste} (h : x.rule ≤ B) : RuleB B (ss ++ [x]) := fun y hy => by
  rcases List.mem_append.1 hy with e | e
  · exact k y e
  · have : y = x := by simpa using e
    rw [this]; exact h
theorem RuleB.set {B : Nat} {ss : List Ste} (k : RuleB B ss) {x : Ste} (h : x.rule ≤ B) (i : Nat) : RuleB B (ss.set i x) := fun y hy => by
  rcases List.mem_or_eq_of_mem_set hy with e | e
  · exact k y e
  · rw [e]; exact h
mutual
theorem lay_rb (B : Nat) : ∀ (x : Nd) (ss : List Ste) (to : Nat), RuleB B ss → RuleB B (lay x ss to).1
  | .mk k s kids, ss, to, h => by
    rw [lay]
    split
    · exact h.snoc (Nat.zero_le _)
    · split
      · exact layCat_rb B kids ss to h
      · split
        · exact (layAlt_rb B kids ss to h).snoc (Nat.zero_le _)
        · split
          · exact (layOne_rb B kids ss to h).snoc (Nat.zero_le _)
          · split
            · exact (layOne_rb B kids _ _ (h.snoc (Nat.zero_le _))).set (Nat.zero_le _) _
            · exact h
theorem layCat_rb (B : Nat) : ∀ (l : List Nd) (ss : List Ste) (to : Nat), RuleB B ss → RuleB B (layCat l ss to).1
  | [], ss, to, h => by rw [layCat]; exact h
  | x :: r, ss, to, h => by rw [layCat]; exact lay_rb B x _ _ (layCat_rb B r ss to h)
theorem layAlt_rb (B : Nat) : ∀ (l : List Nd) (ss : List Ste) (to : Nat), RuleB B ss → RuleB B (layAlt l ss to).1
  | [], ss, to, h => by rw [layAlt]; exact h
  | x :: r, ss, to, h => by rw [layAlt]; exact layAlt_rb B r _ to (lay_rb B x ss to h)
theorem layOne_rb (B : Nat) : ∀ (l : List Nd) (ss : List Ste) (to : Nat), RuleB B ss → RuleB B (layOne l ss to).1
  | [], ss, to, h => by rw [layOne]; exact h
  | x :: r, ss, to, h => by rw [layOne]; exact lay_rb B x ss to h
end

theorem makeG_rb (B : Nat) : ∀ (i : Nat) (rules : List By) (ss : List Ste) (t : List Nat) (ss' : List Ste) (t' : List Nat), i + rules.length ≤ B → RuleB B ss → makeG i rules ss t = .inr (ss', t') → RuleB B ss'
  | i, [], ss, t, ss', t', _, h, hm => by
    rw [makeG] at hm; cases hm; exact h
  | i, s :: r, ss, t, ss', t', hB, h, hm => by
    rw [List.length_cons] at hB
    rw [makeG] at hm
    split at hm
    · cases hm
    · exact makeG_rb B (i + 1) r _ _ ss' t' (by omega) (lay_rb B _ _ _ (h.snoc (by show i ≤ B; omega))) hm
theorem makeP_rb {rules : List By} {ss : List Ste} {st : Nat} (h : makeP rules = .inr (ss, st)) : ∀ x ∈ ss, x.rule ≤ 1000000 := by
  unfold makeP at h
  split at h
  · cases h
  · rename_i hn
    split at h
    · cases h
    · rename_i ss1 t1 hg
      split at h
      · cases h
      · cases h
        have := makeG_rb 64 0 rules [] [] ss1 t1 (by omega) (fun x hx => (by cases hx)) hg
        intro x hx
        have := (this.snoc (x := ⟨0, 0, t1, 0⟩) (Nat.zero_le _)) x hx
        omega

end Go.Proofs.YtlegopbpofofgaaDoor

/- Min of any table; made. -/
namespace Go.Proofs.YtlegopbpofofgaaDoor
open Go Go.Lw
set_option maxRecDepth 20000

theorem dmin_calls {h : Heap} {p : Value} {d : Tab} (htens : Tens h) (k : TabAt h p d) (hok : d.Ok) : CallsH Tryd.prog 29 #[p] h (Ret fun r h' => TabAt h' r (minP d) ∧ Ext0 h h') := by
  rcases k with ⟨rfl, rfl⟩ | ⟨db, rfl, k⟩
  · exact dmin_nil
  · exact dmin_at htens k hok

/-- The rules' table, if there is one. -/
def dmadeP (rules : List By) : Int ⊕ Tab := match makeP rules with
  | .inl e => .inl e
  | .inr (ss, st) => dmakeP ss st
def dmadeE (rules : List By) : Int := match dmadeP rules with | .inl e => e | .inr _ => 0
theorem makeG_ne : ∀ (i : Nat) (rules : List By) (ss : List Ste) (t : List Nat) (e : Int), makeG i rules ss t = .inl e → e ≠ 0
  | i, [], ss, t, e, h => by rw [makeG] at h; cases h
  | i, s :: r, ss, t, e, h => by
    rw [makeG] at h
    split at h
    · rename_i hp; cases h; exact hp
    · exact makeG_ne (i + 1) r _ _ e h
theorem makeP_ne {rules : List By} {e : Int} (h : makeP rules = .inl e) : e ≠ 0 := by
  unfold makeP at h
  split at h
  · cases h; decide
  · split at h
    · rename_i e' hg; cases h; exact makeG_ne _ _ _ _ _ hg
    · split at h
      · cases h; decide
      · cases h

/-- What made hands back. -/
def MadeD (h : Heap) (rules : List By) (r : Value) : Prop := ∃ p q, r = .tuple #[p, q, .int .i64 (dmadeE rules)] ∧ match dmadeP rules with
  | .inl _ => q = .pointer none
  | .inr d => MadeAt h p rules ∧ ∃ db, q = .pointer (some ⟨db, 0, none⟩) ∧ TabRd h db d
theorem made12_calls {h : Heap} {lim : Nat} (hg : Sg h lim) (hlim : lim ≤ h.size) (htens : Tens h) {rv : Value} {rules : List By} (hr : SlR eBy h (fun _ => False) rv rules) (hrl : ∀ s ∈ rules, s.length ≤ 1000000) :
    CallsH Tryd.prog 28 #[rv] h (Ret fun r h' => MadeD h' rules r ∧ Ext0 h h') := by
  refine CallsH.of Tryd.func28 rfl rfl ?_
  refine G.seq rfl ?_
  refine G.reg Tryd.func28 rfl ?_
  refine RW.pureS rfl rfl rfl rfl (OpP.assign rfl) ?_
  refine RW.pureS rfl rfl rfl rfl (OpP.assign rfl) ?_
  refine RW.pureS rfl rfl rfl rfl (OpP.assign rfl) ?_
  refine RW.done rfl ?_
  refine G.sub (ρ' := [(0, _), (2, _), (3, _), (4, _)]) ⟨rfl, rfl, rfl, rfl, trivial⟩ ?_
  refine G.seq rfl ?_
  refine G.reg Tryd.func28 rfl ?_
  refine RW.pureS rfl rfl rfl rfl (OpP.move rfl) ?_
  refine RW.opS rfl rfl rfl rfl (OpX.call (vs := [_]) Tryd.func16 rfl H.nm16 rfl (CallsH.toX (make_made hg hlim hr hrl))) ?_
  rintro _ h1 ⟨⟨p, rfl, hp⟩, e1⟩
  rcases hp with ⟨e, hm, rfl⟩ | hmade
  · have he : makeE rules = e := by unfold makeE; rw [hm]
    have hne := makeP_ne hm
    have hd : dmadeP rules = .inl e := by unfold dmadeP; rw [hm]
    have hde : dmadeE rules = e := by unfold dmadeE; rw [hd]
    rw [he]
    refine RW.pureS rfl rfl rfl rfl (OpP.move rfl) ?_
    refine RW.pureS rfl rfl rfl rfl (OpP.extract rfl rfl) ?_
    refine RW.pureS rfl rfl rfl rfl (OpP.extract rfl rfl) ?_
    refine RW.pureS rfl rfl rfl rfl (OpP.assign rfl) ?_
    refine RW.pureS rfl rfl rfl rfl (OpP.assign rfl) ?_
    refine RW.done rfl ?_
    refine G.sub (ρ' := [(0, _), (2, _), (3, _), (4, _), (5, _), (6, _)]) ⟨rfl, rfl, rfl, rfl, rfl, rfl, trivial⟩ ?_
    refine G.seq rfl ?_
    refine G.seq rfl ?_
    refine G.reg Tryd.func28 rfl ?_
    refine RW.pureS rfl rfl rfl rfl (OpP.move rfl) ?_
    refine RW.pureS rfl rfl rfl rfl (OpP.neqInt rfl rfl) ?_
    refine RW.done rfl ?_
    refine G.sub (ρ' := [(0, _), (2, _), (3, _), (4, _), (5, _), (6, _), (15, _)]) ⟨rfl, rfl, rfl, rfl, rfl, rfl, rfl, trivial⟩ ?_
    refine G.ite rfl rfl (fun hz => ?_) (fun hz => ?_)
    · refine G.seq rfl ?_
      refine G.reg Tryd.func28 rfl ?_
      refine RW.pureS rfl rfl rfl rfl (OpP.move rfl) ?_
      refine RW.pureS rfl rfl rfl rfl (OpP.assign rfl) ?_
      refine RW.pureS rfl rfl rfl rfl (OpP.assign rfl) ?_
      refine RW.pureS rfl rfl rfl rfl (OpP.assign rfl) ?_
      refine RW.done rfl ?_
      refine G.sub (ρ' := [(0, _), (2, _), (3, _), (4, _), (5, _), (6, _), (15, _)]) ⟨rfl, rfl, rfl, rfl, rfl, rfl, rfl, trivial⟩ ?_
      refine G.ret Tryd.func28 rfl rfl ?_
      exact ⟨_, rfl, ⟨_, _, by rw [hde]; rfl, by rw [hd]⟩, e1⟩
    · exact absurd (by simpa using hz) hne
  · obtain ⟨O, nb, v, ss, st, rfl, hn, hm⟩ := hmade
    have hmd : MadeAt h1 (.pointer (some ⟨nb, 0, none⟩)) rules := ⟨O, nb, v, ss, st, rfl, hn, hm⟩
    have hM := makeP_made hm
    have hb := made_bounds hM
    have he : makeE rules = 0 := by unfold makeE; rw [hm]
    have hd : dmadeP rules = dmakeP ss st := by unfold dmadeP; rw [hm]
    rw [he]
    refine RW.pureS rfl rfl rfl rfl (OpP.move rfl) ?_
    refine RW.pureS rfl rfl rfl rfl (OpP.extract rfl rfl) ?_
    refine RW.pureS rfl rfl rfl rfl (OpP.extract rfl rfl) ?_
    refine RW.pureS rfl rfl rfl rfl (OpP.assign rfl) ?_
    refine RW.pureS rfl rfl rfl rfl (OpP.assign rfl) ?_
    refine RW.done rfl ?_
    refine G.sub (ρ' := [(0, _), (2, _), (3, _), (4, _), (5, _), (6, _)]) ⟨rfl, rfl, rfl, rfl, rfl, rfl, trivial⟩ ?_
    refine G.seq rfl ?_
    refine G.seq rfl ?_
    refine G.reg Tryd.func28 rfl ?_
    refine RW.pureS rfl rfl rfl rfl (OpP.move rfl) ?_
    refine RW.pureS rfl rfl rfl rfl (OpP.neqInt rfl rfl) ?_
    refine RW.done rfl ?_
    refine G.sub (ρ' := [(0, _), (2, _), (3, _), (4, _), (5, _), (6, _), (15, _)]) ⟨rfl, rfl, rfl, rfl, rfl, rfl, rfl, trivial⟩ ?_
    refine G.cond rfl rfl (fun hc => absurd hc (by simp)) (fun _ => ?_)
    refine G.skip rfl ?_
    refine G.seq rfl ?_
    refine G.reg Tryd.func28 rfl ?_
    refine RW.pureS rfl rfl rfl rfl (OpP.move rfl) ?_
    refine RW.opS rfl rfl rfl rfl (OpX.call (vs := [_]) Tryd.func37 rfl H.nm37 rfl (CallsH.toX (dmake_calls (htens.ext0 e1) hn hM.good hM.len hM.stl hb.2.1 hb.2.2))) ?_
    rintro r2 h2 ⟨hr2, e2⟩
    unfold MakeRes at hr2
    rcases hdm : dmakeP ss st with e | d
    · rw [hdm] at hr2
      simp only at hr2
      subst hr2
      refine RW.pureS rfl rfl rfl rfl (OpP.move rfl) ?_
      refine RW.pureS rfl rfl rfl rfl (OpP.extract rfl rfl) ?_
      refine RW.pureS rfl rfl rfl rfl (OpP.extract rfl rfl) ?_
      refine RW.pureS rfl rfl rfl rfl (OpP.assign rfl) ?_
      refine RW.pureS rfl rfl rfl rfl (OpP.assign rfl) ?_
      refine RW.done rfl ?_
      refine G.sub (ρ' := [(0, _), (2, _), (3, _), (4, _), (5, _), (6, _), (7, _), (8, _), (15, _)]) ⟨rfl, rfl, rfl, rfl, rfl, rfl, rfl, rfl, rfl, trivial⟩ ?_
      refine G.seq rfl ?_
      refine G.reg Tryd.func28 rfl ?_
      refine RW.pureS rfl rfl rfl rfl (OpP.move rfl) ?_
      refine RW.pureS rfl rfl rfl rfl (OpP.move rfl) ?_
      refine RW.pureS rfl rfl rfl rfl (OpP.move rfl) ?_
      refine RW.pureS rfl rfl rfl rfl (OpP.assign rfl) ?_
      refine RW.pureS rfl rfl rfl rfl (OpP.assign rfl) ?_
      refine RW.pureS rfl rfl rfl rfl (OpP.assign rfl) ?_
      refine RW.done rfl ?_
      refine G.sub (ρ' := [(0, _), (2, _), (3, _), (4, _), (5, _), (6, _), (7, _), (8, _), (15, _)]) ⟨rfl, rfl, rfl, rfl, rfl, rfl, rfl, rfl, rfl, trivial⟩ ?_
      refine G.ret Tryd.func28 rfl rfl ?_
      exact ⟨_, rfl, ⟨_, _, by unfold dmadeE; rw [hd, hdm]; rfl, by rw [hd, hdm]; rfl⟩, e1.trans e2⟩
    · rw [hdm] at hr2
      obtain ⟨db, rfl, hk⟩ := hr2
      refine RW.pureS rfl rfl rfl rfl (OpP.move rfl) ?_
      refine RW.pureS rfl rfl rfl rfl (OpP.extract rfl rfl) ?_
      refine RW.pureS rfl rfl rfl rfl (OpP.extract rfl rfl) ?_
      refine RW.pureS rfl rfl rfl rfl (OpP.assign rfl) ?_
      refine RW.pureS rfl rfl rfl rfl (OpP.assign rfl) ?_
      refine RW.done rfl ?_
      refine G.sub (ρ' := [(0, _), (2, _), (3, _), (4, _), (5, _), (6, _), (7, _), (8, _), (15, _)]) ⟨rfl, rfl, rfl, rfl, rfl, rfl, rfl, rfl, rfl, trivial⟩ ?_
      refine G.seq rfl ?_
      refine G.reg Tryd.func28 rfl ?_
      refine RW.pureS rfl rfl rfl rfl (OpP.move rfl) ?_
      refine RW.pureS rfl rfl rfl rfl (OpP.move rfl) ?_
      refine RW.pureS rfl rfl rfl rfl (OpP.move rfl) ?_
      refine RW.pureS rfl rfl rfl rfl (OpP.assign rfl) ?_
      refine RW.pureS rfl rfl rfl rfl (OpP.assign rfl) ?_
      refine RW.pureS rfl rfl rfl rfl (OpP.assign rfl) ?_
      refine RW.done rfl ?_
      refine G.sub (ρ' := [(0, _), (2, _), (3, _), (4, _), (5, _), (6, _), (7, _), (8, _), (15, _)]) ⟨rfl, rfl, rfl, rfl, rfl, rfl, rfl, rfl, rfl, trivial⟩ ?_
      refine G.ret Tryd.func28 rfl rfl ?_
      exact ⟨_, rfl, ⟨_, _, by unfold dmadeE; rw [hd, hdm]; rfl, by rw [hd, hdm]; exact ⟨hmd.ext0 e2, db, rfl, hk⟩⟩, e1.trans e2⟩

end Go.Proofs.YtlegopbpofofgaaDoor

/- The statements' helpers: Make of an NFA that is none; what a table takes; the chapter's rules; what is great. -/
namespace Go.Proofs.YtlegopbpofofgaaDoor
open Go Go.Lw
set_option maxRecDepth 20000

theorem dmake_none {h : Heap} {p : Value} (k : NoneAt h p) : CallsH Tryd.prog 37 #[p] h (Ret fun r h' => r = .tuple #[.pointer none, .int .i64 1] ∧ h' = h) := by
  refine CallsH.of Tryd.func37 rfl rfl ?_
  refine G.seq rfl ?_
  refine G.reg Tryd.func37 rfl ?_
  refine RW.pureS rfl rfl rfl rfl (OpP.assign rfl) ?_
  refine RW.pureS rfl rfl rfl rfl (OpP.assign rfl) ?_
  refine RW.done rfl ?_
  refine G.sub (ρ' := [(0, _), (2, _), (3, _)]) ⟨rfl, rfl, rfl, trivial⟩ ?_
  refine G.seq rfl ?_
  refine G.reg Tryd.func37 rfl ?_
  refine RW.pureS rfl rfl rfl rfl (OpP.move rfl) ?_
  refine RW.opS rfl rfl rfl rfl (OpX.call (vs := [_]) Tryd.func21 rfl H.nm21 rfl (CallsH.toX (start_none k))) ?_
  rintro _ h0 ⟨rfl, hh0⟩
  refine RW.pureS rfl rfl rfl rfl (OpP.assign rfl) ?_
  refine RW.done rfl ?_
  refine G.sub (ρ' := [(0, _), (2, _), (3, _), (4, _)]) ⟨rfl, rfl, rfl, rfl, trivial⟩ ?_
  refine G.seq rfl ?_
  refine G.seq rfl ?_
  refine G.reg Tryd.func37 rfl ?_
  refine RW.pureS rfl rfl rfl rfl (OpP.move rfl) ?_
  refine RW.pureS rfl rfl rfl rfl (OpP.lenSlice Tryd.underlying36 rfl) ?_
  refine RW.pureS rfl rfl rfl rfl (OpP.eqlInt rfl rfl) ?_
  refine RW.done rfl ?_
  refine G.sub (ρ' := [(0, _), (2, _), (3, _), (4, _), (18, _)]) ⟨rfl, rfl, rfl, rfl, rfl, trivial⟩ ?_
  subst hh0
  refine G.cond rfl rfl (fun _ => ?_) (fun hc => absurd hc (by decide))
  refine G.seq rfl ?_
  refine G.reg Tryd.func37 rfl ?_
  refine RW.pureS rfl rfl rfl rfl (OpP.assign rfl) ?_
  refine RW.pureS rfl rfl rfl rfl (OpP.assign rfl) ?_
  refine RW.done rfl ?_
  refine G.sub (ρ' := [(0, _), (2, _), (3, _), (4, _), (18, _)]) ⟨rfl, rfl, rfl, rfl, rfl, trivial⟩ ?_
  refine G.ret Tryd.func37 rfl rfl ?_
  exact ⟨_, rfl, rfl, rfl⟩

theorem takes12_calls {h : Heap} {p : Value} {d : Tab} {s : By} {a x y z : Int} (k : TabAt h p d) (hok : d.Ok) (hs : s.length ≤ 1000000) :
    CallsH Tryd.prog 36 #[p, .string (bs s), .int .i64 a, .int .i64 x, .int .i64 y, .int .i64 z] h (Ret fun r h' => r = .bool (decide (dmatchA d s a = (x, y, z))) ∧ h' = h) := by
  refine CallsH.of Tryd.func36 rfl rfl ?_
  refine G.seq rfl ?_
  refine G.reg Tryd.func36 rfl ?_
  refine RW.pureS rfl rfl rfl rfl (OpP.assign rfl) ?_
  refine RW.done rfl ?_
  refine G.sub (ρ' := [(0, _), (1, _), (2, _), (3, _), (4, _), (5, _), (12, _)]) ⟨rfl, rfl, rfl, rfl, rfl, rfl, rfl, trivial⟩ ?_
  refine G.seq rfl ?_
  refine G.reg Tryd.func36 rfl ?_
  refine RW.pureS rfl rfl rfl rfl (OpP.move rfl) ?_
  refine RW.pureS rfl rfl rfl rfl (OpP.move rfl) ?_
  refine RW.pureS rfl rfl rfl rfl (OpP.move rfl) ?_
  refine RW.opS rfl rfl rfl rfl (OpX.call (vs := [_, _, _]) Tryd.func30 rfl H.nm30 rfl (CallsH.toX (dmatch_calls k hok hs))) ?_
  rintro _ h1 ⟨rfl, hh1⟩
  refine RW.pureS rfl rfl rfl rfl (OpP.move rfl) ?_
  refine RW.pureS rfl rfl rfl rfl (OpP.extract rfl rfl) ?_
  refine RW.pureS rfl rfl rfl rfl (OpP.extract rfl rfl) ?_
  refine RW.pureS rfl rfl rfl rfl (OpP.extract rfl rfl) ?_
  refine RW.pureS rfl rfl rfl rfl (OpP.assign rfl) ?_
  refine RW.pureS rfl rfl rfl rfl (OpP.assign rfl) ?_
  refine RW.pureS rfl rfl rfl rfl (OpP.assign rfl) ?_
  refine RW.done rfl ?_
  refine G.sub (ρ' := [(0, _), (1, _), (2, _), (3, _), (4, _), (5, _), (12, _), (13, _), (14, _), (15, _)]) ⟨rfl, rfl, rfl, rfl, rfl, rfl, rfl, rfl, rfl, rfl, trivial⟩ ?_
  refine G.seq rfl ?_
  subst hh1
  generalize dmatchA d s a = m
  have hmm : decide (m = (x, y, z)) = (decide (m.1 = x) && (decide (m.2.1 = y) && decide (m.2.2 = z))) := by
    rw [← Bool.decide_and, ← Bool.decide_and]; congr 1; rw [Prod.ext_iff, Prod.ext_iff]
  refine G.regTo1 [(12, .bool (decide (m = (x, y, z))))] [(0, _), (1, _), (2, _), (3, _), (4, _), (5, _), (13, _), (14, _), (15, _)] ⟨rfl, rfl, rfl, rfl, rfl, rfl, rfl, rfl, rfl, trivial⟩ Tryd.func36 rfl ?_ ?_
  · refine RW.pureS rfl rfl rfl rfl (OpP.move rfl) ?_
    refine RW.pureS rfl rfl rfl rfl (OpP.move rfl) ?_
    refine RW.pureS rfl rfl rfl rfl (OpP.eqlInt rfl rfl) ?_
    refine RW.pureS rfl rfl rfl rfl (OpP.move rfl) ?_
    refine RW.split (d := 27) rfl (fun hg => ?_) (fun hg => ?_)
    · refine RW.pureS rfl rfl rfl rfl (OpP.move rfl) ?_
      refine RW.pureS rfl rfl rfl rfl (OpP.move rfl) ?_
      refine RW.pureS rfl rfl rfl rfl (OpP.eqlInt rfl rfl) ?_
      refine RW.pureS rfl rfl rfl rfl (OpP.pickT rfl rfl) ?_
      refine RW.pureS rfl rfl rfl rfl (OpP.move rfl) ?_
      refine RW.split (d := 32) rfl (fun hg2 => ?_) (fun hg2 => ?_)
      · refine RW.pureS rfl rfl rfl rfl (OpP.move rfl) ?_
        refine RW.pureS rfl rfl rfl rfl (OpP.move rfl) ?_
        refine RW.pureS rfl rfl rfl rfl (OpP.eqlInt rfl rfl) ?_
        refine RW.pureS rfl rfl rfl rfl (OpP.pickT rfl rfl) ?_
        refine RW.pureS rfl rfl rfl rfl (OpP.assign rfl) ?_
        refine RW.done rfl ?_
        exact ⟨rfl, at_bool rfl (by rw [hmm, hg, hg2, Bool.true_and, Bool.true_and]), rfl, rfl, rfl, rfl, rfl, rfl, rfl, rfl, rfl, trivial⟩
      · refine RW.skipS rfl rfl rfl rfl ?_
        refine RW.skipS rfl rfl rfl rfl ?_
        refine RW.skipS rfl rfl rfl rfl ?_
        refine RW.pureS rfl rfl rfl rfl (OpP.pickF rfl rfl) ?_
        refine RW.pureS rfl rfl rfl rfl (OpP.assign rfl) ?_
        refine RW.done rfl ?_
        exact ⟨rfl, at_bool rfl (by rw [hmm, hg, hg2, Bool.true_and, Bool.false_and]), rfl, rfl, rfl, rfl, rfl, rfl, rfl, rfl, rfl, trivial⟩
    · refine RW.skipS rfl rfl rfl rfl ?_
      refine RW.skipS rfl rfl rfl rfl ?_
      refine RW.skipS rfl rfl rfl rfl ?_
      refine RW.pureS rfl rfl rfl rfl (OpP.pickF rfl rfl) ?_
      refine RW.pureS rfl rfl rfl rfl (OpP.move rfl) ?_
      refine RW.skipS rfl rfl rfl rfl ?_
      refine RW.skipS rfl rfl rfl rfl ?_
      refine RW.skipS rfl rfl rfl rfl ?_
      refine RW.pureS rfl rfl rfl rfl (OpP.pickF rfl rfl) ?_
      refine RW.pureS rfl rfl rfl rfl (OpP.assign rfl) ?_
      refine RW.done rfl ?_
      exact ⟨rfl, at_bool rfl (by rw [hmm, hg, Bool.false_and]), rfl, rfl, rfl, rfl, rfl, rfl, rfl, rfl, rfl, trivial⟩
  · refine G.ret Tryd.func36 rfl rfl ?_
    exact ⟨_, rfl, rfl, rfl⟩

/-! ### The chapter's rules -/

def egA : List By := [[97, 98], [97, 99], [97]]
def egB : List By := [[91, 94, 92, 120, 48, 48, 45, 92, 120, 102, 102, 93, 97]]
def egC : List By := [[97, 98], [98, 98], [98]]
def tabOf (x : Int ⊕ Tab) : Tab := match x with | .inl _ => ⟨[], []⟩ | .inr d => d
def isTab (x : Int ⊕ Tab) : Bool := match x with | .inl _ => false | .inr _ => true
theorem tab_of {x : Int ⊕ Tab} (h : isTab x = true) : x = .inr (tabOf x) := by
  cases x with
  | inl e => cases h
  | inr d => rfl
theorem egA_all : isTab (dmadeP egA) = true ∧ (tabOf (dmadeP egA)).next.length = 4 ∧ (minP (tabOf (dmadeP egA))).next.length = 4 ∧ dmatchA (tabOf (dmadeP egA)) [97, 98, 120] 0 = (2, 0, 2) ∧ dmatchA (tabOf (dmadeP egA)) [98] 0 = (0, -1, 0) := by decide +kernel
theorem egB_all : isTab (dmadeP egB) = true ∧ (tabOf (dmadeP egB)).next.length = 1 ∧ (minP (tabOf (dmadeP egB))).next.length = 1 := by decide +kernel
theorem egC_all : isTab (dmadeP egC) = true ∧ dmatchA (tabOf (dmadeP egC)) [97] 0 = (0, -1, 1) := by decide +kernel

theorem dmadeP_ok {rules : List By} {d : Tab} (h : dmadeP rules = .inr d) : d.Ok ∧ 0 < d.next.length := by
  unfold dmadeP at h
  split at h
  · cases h
  · rename_i ss st hm
    refine ⟨dmakeP_ok h (makeP_rb hm), ?_⟩
    obtain ⟨_, L, _, h2, h3⟩ := dmakeP_lists h
    omega
theorem MadeD.tab {h : Heap} {rules : List By} {r : Value} (k : MadeD h rules r) (hd : isTab (dmadeP rules) = true) : ∃ p q, r = .tuple #[p, q, .int .i64 0] ∧ MadeAt h p rules ∧ TabAt h q (tabOf (dmadeP rules)) ∧ (tabOf (dmadeP rules)).Ok := by
  obtain ⟨p, q, rfl, k⟩ := k
  have e := tab_of hd
  have hok := (dmadeP_ok e).1
  have hE : dmadeE rules = 0 := by unfold dmadeE; rw [e]
  rw [e] at k
  obtain ⟨k1, db, rfl, k2⟩ := k
  exact ⟨p, _, by rw [hE], k1, .inr ⟨db, rfl, k2⟩, hok⟩

end Go.Proofs.YtlegopbpofofgaaDoor

/- The chapter's rules are taken; what is great. -/
namespace Go.Proofs.YtlegopbpofofgaaDoor
open Go Go.Lw
set_option maxRecDepth 20000

theorem tabled_calls {h : Heap} {lim : Nat} (hg : Sg h lim) (hlim : lim ≤ h.size) (htens : Tens h) : CallsH Tryd.prog 27 #[] h (Ret fun r h' => r = .bool true ∧ Ext0 h h') := by
  refine CallsH.of Tryd.func27 rfl rfl ?_
  refine G.seq rfl ?_
  refine G.reg Tryd.func27 rfl ?_
  refine RW.pureS rfl rfl rfl rfl (OpP.assign rfl) ?_
  refine RW.done rfl ?_
  refine G.sub (ρ' := [(0, _)]) ⟨rfl, trivial⟩ ?_
  refine G.seq rfl ?_
  refine G.reg Tryd.func27 rfl ?_
  refine RW.opS rfl rfl rfl rfl (OpX.buildOnes (us := [_, _, _]) Tryd.underlying22 H.el9 rfl rfl (by decide) (by simp [Value.oneCell'])) ?_
  rintro _ _ ⟨rfl, rfl⟩
  refine RW.opS rfl rfl rfl rfl (OpX.call (vs := [_]) Tryd.func28 rfl H.nm28 rfl (CallsH.toX (made12_calls (hg.ext (Ext.push (fun _ => False) h _) (fun _ k => k.elim)) (by simp; omega) (htens.ext0 (Ext.push (fun _ => False) h _)) (lits egA 3 rfl (by decide)) (by intro s hs; simp [egA] at hs; rcases hs with rfl | rfl | rfl <;> decide)))) ?_
  rintro _ h1 ⟨hd, e1⟩
  have e1 : Ext0 h h1 := (Ext.push (fun _ => False) h _).trans e1
  obtain ⟨p1, q1, rfl, _, k1, ok1⟩ := hd.tab egA_all.1
  have hz1 := e1.size
  refine RW.pureS rfl rfl rfl rfl (OpP.move rfl) ?_
  refine RW.pureS rfl rfl rfl rfl (OpP.extract rfl rfl) ?_
  refine RW.pureS rfl rfl rfl rfl (OpP.extract rfl rfl) ?_
  refine RW.pureS rfl rfl rfl rfl (OpP.extract rfl rfl) ?_
  refine RW.pureS rfl rfl rfl rfl (OpP.assign rfl) ?_
  refine RW.pureS rfl rfl rfl rfl (OpP.assign rfl) ?_
  refine RW.pureS rfl rfl rfl rfl (OpP.assign rfl) ?_
  refine RW.done rfl ?_
  refine G.sub (ρ' := [(0, _), (2, _), (3, _)]) ⟨rfl, rfl, rfl, trivial⟩ ?_
  refine G.seq rfl ?_
  refine G.reg Tryd.func27 rfl ?_
  refine RW.opS rfl rfl rfl rfl (OpX.buildOnes (us := [_]) Tryd.underlying22 H.el9 rfl rfl (by decide) (by simp [Value.oneCell'])) ?_
  rintro _ _ ⟨rfl, rfl⟩
  refine RW.opS rfl rfl rfl rfl (OpX.call (vs := [_]) Tryd.func28 rfl H.nm28 rfl (CallsH.toX (made12_calls (hg.ext (e1.trans (Ext.push (fun _ => False) h1 _)) (fun _ k => k.elim)) (by simp; omega) (htens.ext0 (e1.trans (Ext.push (fun _ => False) h1 _))) (lits egB 1 rfl (by decide)) (by intro s hs; simp [egB] at hs; subst hs; decide)))) ?_
  rintro _ h2 ⟨hd, e2⟩
  have e2 : Ext0 h1 h2 := (Ext.push (fun _ => False) h1 _).trans e2
  have e02 := e1.trans e2
  obtain ⟨p2, q2, rfl, _, k2, ok2⟩ := hd.tab egB_all.1
  have hz2 := e02.size
  refine RW.pureS rfl rfl rfl rfl (OpP.move rfl) ?_
  refine RW.pureS rfl rfl rfl rfl (OpP.extract rfl rfl) ?_
  refine RW.pureS rfl rfl rfl rfl (OpP.extract rfl rfl) ?_
  refine RW.pureS rfl rfl rfl rfl (OpP.extract rfl rfl) ?_
  refine RW.pureS rfl rfl rfl rfl (OpP.assign rfl) ?_
  refine RW.pureS rfl rfl rfl rfl (OpP.assign rfl) ?_
  refine RW.pureS rfl rfl rfl rfl (OpP.assign rfl) ?_
  refine RW.done rfl ?_
  refine G.sub (ρ' := [(0, _), (2, _), (3, _), (5, _), (6, _)]) ⟨rfl, rfl, rfl, rfl, rfl, trivial⟩ ?_
  refine G.seq rfl ?_
  refine G.reg Tryd.func27 rfl ?_
  refine RW.opS rfl rfl rfl rfl (OpX.buildOnes (us := [_, _, _]) Tryd.underlying22 H.el9 rfl rfl (by decide) (by simp [Value.oneCell'])) ?_
  rintro _ _ ⟨rfl, rfl⟩
  refine RW.opS rfl rfl rfl rfl (OpX.call (vs := [_]) Tryd.func28 rfl H.nm28 rfl (CallsH.toX (made12_calls (hg.ext (e02.trans (Ext.push (fun _ => False) h2 _)) (fun _ k => k.elim)) (by simp; omega) (htens.ext0 (e02.trans (Ext.push (fun _ => False) h2 _))) (lits egC 3 rfl (by decide)) (by intro s hs; simp [egC] at hs; rcases hs with rfl | rfl | rfl <;> decide)))) ?_
  rintro _ h3 ⟨hd, e3⟩
  have e3 : Ext0 h2 h3 := (Ext.push (fun _ => False) h2 _).trans e3
  have e03 := e02.trans e3
  obtain ⟨p3, q3, rfl, _, k3, ok3⟩ := hd.tab egC_all.1
  have k1 := (k1.ext0 e2).ext0 e3
  have k2 := k2.ext0 e3
  refine RW.pureS rfl rfl rfl rfl (OpP.move rfl) ?_
  refine RW.pureS rfl rfl rfl rfl (OpP.extract rfl rfl) ?_
  refine RW.pureS rfl rfl rfl rfl (OpP.extract rfl rfl) ?_
  refine RW.pureS rfl rfl rfl rfl (OpP.extract rfl rfl) ?_
  refine RW.pureS rfl rfl rfl rfl (OpP.assign rfl) ?_
  refine RW.pureS rfl rfl rfl rfl (OpP.assign rfl) ?_
  refine RW.pureS rfl rfl rfl rfl (OpP.assign rfl) ?_
  refine RW.done rfl ?_
  refine G.sub (ρ' := [(0, _), (2, _), (3, _), (5, _), (6, _), (8, _), (9, _)]) ⟨rfl, rfl, rfl, rfl, rfl, rfl, rfl, trivial⟩ ?_
  refine G.seq rfl ?_
  refine G.regToX (fun (_u : Unit) (h' : Heap) => Ext0 h h') (fun (_u : Unit) => [(0, .bool true)]) [(2, _), (3, _), (5, _), (6, _), (8, _), (9, _)] ⟨rfl, rfl, rfl, rfl, rfl, rfl, trivial⟩ Tryd.func27 rfl ?_ ?_
  · refine RW.pureS rfl rfl rfl rfl (OpP.move rfl) ?_
    refine RW.pureS rfl rfl rfl rfl (OpP.eqlInt rfl rfl) ?_
    refine RW.pureS rfl rfl rfl rfl (OpP.move rfl) ?_
    refine RW.know (d := 30) (b' := true) rfl (rfl) ?_
    refine RW.pureS rfl rfl rfl rfl (OpP.move rfl) ?_
    refine RW.opS rfl rfl rfl rfl (OpX.call (vs := [_]) Tryd.func32 rfl H.nm32 rfl (CallsH.toX (states_calls k1))) ?_
    rintro _ h4 ⟨rfl, hh4⟩
    refine RW.pureS rfl rfl rfl rfl (OpP.eqlInt rfl rfl) ?_
    refine RW.pureS rfl rfl rfl rfl (OpP.pickT rfl rfl) ?_
    refine RW.pureS rfl rfl rfl rfl (OpP.move rfl) ?_
    subst hh4
    refine RW.know (d := 35) (b' := true) rfl ((by rw [egA_all.2.1]; rfl)) ?_
    refine RW.pureS rfl rfl rfl rfl (OpP.move rfl) ?_
    refine RW.opS rfl rfl rfl rfl (OpX.call (vs := [_]) Tryd.func29 rfl H.nm29 rfl (CallsH.toX (dmin_calls (htens.ext0 e03) k1 ok1))) ?_
    rintro _ h4 ⟨m1, e4⟩
    refine RW.opS rfl rfl rfl rfl (OpX.call (vs := [_]) Tryd.func32 rfl H.nm32 rfl (CallsH.toX (states_calls m1))) ?_
    rintro _ h5 ⟨rfl, hh5⟩
    refine RW.pureS rfl rfl rfl rfl (OpP.eqlInt rfl rfl) ?_
    refine RW.pureS rfl rfl rfl rfl (OpP.pickT rfl rfl) ?_
    refine RW.pureS rfl rfl rfl rfl (OpP.move rfl) ?_
    subst hh5
    refine RW.know (d := 41) (b' := true) rfl ((by rw [egA_all.2.2.1]; rfl)) ?_
    refine RW.pureS rfl rfl rfl rfl (OpP.move rfl) ?_
    refine RW.opS rfl rfl rfl rfl (OpX.call (vs := [_, _, _, _, _, _]) Tryd.func36 rfl H.nm36 rfl (CallsH.toX (takes12_calls (s := [97, 98, 120]) (k1.ext0 e4) ok1 (by decide)))) ?_
    rintro _ h5 ⟨rfl, hh5⟩
    refine RW.pureS rfl rfl rfl rfl (OpP.pickT rfl rfl) ?_
    refine RW.pureS rfl rfl rfl rfl (OpP.move rfl) ?_
    subst hh5
    refine RW.know (d := 45) (b' := true) rfl ((by rw [egA_all.2.2.2.1]; rfl)) ?_
    refine RW.pureS rfl rfl rfl rfl (OpP.move rfl) ?_
    refine RW.opS rfl rfl rfl rfl (OpX.call (vs := [_, _, _, _, _, _]) Tryd.func36 rfl H.nm36 rfl (CallsH.toX (takes12_calls (s := [98]) (k1.ext0 e4) ok1 (by decide)))) ?_
    rintro _ h5 ⟨rfl, hh5⟩
    refine RW.pureS rfl rfl rfl rfl (OpP.pickT rfl rfl) ?_
    refine RW.pureS rfl rfl rfl rfl (OpP.move rfl) ?_
    subst hh5
    refine RW.know (d := 49) (b' := true) rfl ((by rw [egA_all.2.2.2.2]; rfl)) ?_
    refine RW.pureS rfl rfl rfl rfl (OpP.move rfl) ?_
    refine RW.pureS rfl rfl rfl rfl (OpP.eqlInt rfl rfl) ?_
    refine RW.pureS rfl rfl rfl rfl (OpP.pickT rfl rfl) ?_
    refine RW.pureS rfl rfl rfl rfl (OpP.move rfl) ?_
    refine RW.know (d := 53) (b' := true) rfl (rfl) ?_
    refine RW.pureS rfl rfl rfl rfl (OpP.move rfl) ?_
    refine RW.opS rfl rfl rfl rfl (OpX.call (vs := [_]) Tryd.func32 rfl H.nm32 rfl (CallsH.toX (states_calls (k2.ext0 e4)))) ?_
    rintro _ h5 ⟨rfl, hh5⟩
    refine RW.pureS rfl rfl rfl rfl (OpP.eqlInt rfl rfl) ?_
    refine RW.pureS rfl rfl rfl rfl (OpP.pickT rfl rfl) ?_
    refine RW.pureS rfl rfl rfl rfl (OpP.move rfl) ?_
    subst hh5
    refine RW.know (d := 58) (b' := true) rfl ((by rw [egB_all.2.1]; rfl)) ?_
    refine RW.pureS rfl rfl rfl rfl (OpP.move rfl) ?_
    refine RW.opS rfl rfl rfl rfl (OpX.call (vs := [_]) Tryd.func29 rfl H.nm29 rfl (CallsH.toX (dmin_calls (htens.ext0 (e03.trans e4)) (k2.ext0 e4) ok2))) ?_
    rintro _ h6 ⟨m2, e6⟩
    refine RW.opS rfl rfl rfl rfl (OpX.call (vs := [_]) Tryd.func32 rfl H.nm32 rfl (CallsH.toX (states_calls m2))) ?_
    rintro _ h7 ⟨rfl, hh7⟩
    refine RW.pureS rfl rfl rfl rfl (OpP.eqlInt rfl rfl) ?_
    refine RW.pureS rfl rfl rfl rfl (OpP.pickT rfl rfl) ?_
    refine RW.pureS rfl rfl rfl rfl (OpP.move rfl) ?_
    subst hh7
    refine RW.know (d := 64) (b' := true) rfl ((by rw [egB_all.2.2]; rfl)) ?_
    refine RW.pureS rfl rfl rfl rfl (OpP.move rfl) ?_
    refine RW.pureS rfl rfl rfl rfl (OpP.eqlInt rfl rfl) ?_
    refine RW.pureS rfl rfl rfl rfl (OpP.pickT rfl rfl) ?_
    refine RW.pureS rfl rfl rfl rfl (OpP.move rfl) ?_
    refine RW.know (d := 68) (b' := true) rfl (rfl) ?_
    refine RW.pureS rfl rfl rfl rfl (OpP.move rfl) ?_
    refine RW.opS rfl rfl rfl rfl (OpX.call (vs := [_, _, _, _, _, _]) Tryd.func36 rfl H.nm36 rfl (CallsH.toX (takes12_calls (s := [97]) ((k3.ext0 e4).ext0 e6) ok3 (by decide)))) ?_
    rintro _ h7 ⟨rfl, hh7⟩
    refine RW.pureS rfl rfl rfl rfl (OpP.pickT rfl rfl) ?_
    refine RW.pureS rfl rfl rfl rfl (OpP.assign rfl) ?_
    subst hh7
    refine RW.done rfl ?_
    exact ⟨(), (e03.trans e4).trans e6, at_bool rfl (by rw [egC_all.2]; rfl), rfl, rfl, rfl, rfl, rfl, rfl, trivial⟩
  · rintro _ h4 e4
    refine G.ret Tryd.func27 rfl rfl ?_
    exact ⟨_, rfl, rfl, e4⟩

def greatD (l : List By) : Bool := decide (5 < l.length) || l.any fun s => decide (24 < s.length)
theorem great12_calls {h : Heap} {rv : Value} {rules : List By} (hr : SlR eBy h (fun _ => False) rv rules) :
    CallsH Tryd.prog 26 #[rv] h (Ret fun r h' => r = .bool (greatD rules) ∧ h' = h) := by
  obtain ⟨oa, kn, kc, rfl, hsl⟩ := id hr.open
  have hkn := hsl.len
  have hkc := hsl.le
  have hcap := hsl.cap
  refine CallsH.of Tryd.func26 rfl rfl ?_
  refine G.seq rfl ?_
  refine G.reg Tryd.func26 rfl ?_
  refine RW.pureS rfl rfl rfl rfl (OpP.assign rfl) ?_
  refine RW.done rfl ?_
  refine G.sub (ρ' := [(0, _), (2, _)]) ⟨rfl, rfl, trivial⟩ ?_
  refine G.seq rfl ?_
  refine G.seq rfl ?_
  refine G.reg Tryd.func26 rfl ?_
  refine RW.pureS rfl rfl rfl rfl (OpP.move rfl) ?_
  refine RW.pureS rfl rfl rfl rfl (OpP.lenSlice Tryd.underlying22 rfl) ?_
  refine RW.pureS rfl rfl rfl rfl (OpP.gtr rfl rfl) ?_
  refine RW.done rfl ?_
  refine G.sub (ρ' := [(0, _), (2, _), (6, _)]) ⟨rfl, rfl, rfl, trivial⟩ ?_
  refine G.ite rfl rfl (fun hbig => ?_) (fun hbig => ?_)
  · refine G.seq rfl ?_
    refine G.reg Tryd.func26 rfl ?_
    refine RW.pureS rfl rfl rfl rfl (OpP.assign rfl) ?_
    refine RW.done rfl ?_
    refine G.sub (ρ' := [(0, _), (2, _), (6, _)]) ⟨rfl, rfl, rfl, trivial⟩ ?_
    refine G.ret Tryd.func26 rfl rfl ?_
    exact ⟨_, rfl, by rw [greatD, decide_eq_true (show 5 < rules.length by omega)]; rfl, rfl⟩
  · have hgp : greatD rules = rules.any fun s => decide (24 < s.length) := by rw [greatD, decide_eq_false (show ¬ 5 < rules.length by omega), Bool.false_or]
    refine G.skip rfl ?_
    refine G.seq rfl ?_
    refine G.seq rfl ?_
    refine G.reg Tryd.func26 rfl ?_
    refine RW.pureS rfl rfl rfl rfl (OpP.assign rfl) ?_
    refine RW.done rfl ?_
    refine G.sub (ρ' := [(0, _), (2, _), (3, _), (6, _)]) ⟨rfl, rfl, rfl, rfl, trivial⟩ ?_
    refine G.block rfl rfl ?_
    refine G.loop (σ := Nat) (fun i => [(0, .slice oa kn kc), (3, .int .i64 (i : Nat))]) (fun i h' => i ≤ kn ∧ h' = h ∧ (rules.drop i).any (fun s => decide (24 < s.length)) = greatD rules) (fun i => kn - i) (0) rfl ⟨rfl, rfl, trivial⟩ ⟨Nat.zero_le _, rfl, hgp.symm⟩ ?_
    rintro i g ⟨hi, rfl, hcon⟩ ih
    refine G.seq rfl ?_
    refine G.seq rfl ?_
    refine G.reg Tryd.func26 rfl ?_
    refine RW.pureS rfl rfl rfl rfl (OpP.move rfl) ?_
    refine RW.pureS rfl rfl rfl rfl (OpP.move rfl) ?_
    refine RW.pureS rfl rfl rfl rfl (OpP.lenSlice Tryd.underlying22 rfl) ?_
    refine RW.pureS rfl rfl rfl rfl (OpP.lss rfl rfl) ?_
    refine RW.done rfl ?_
    refine G.sub (ρ' := [(0, _), (3, _), (10, _)]) ⟨rfl, rfl, rfl, trivial⟩ ?_
    refine G.ite rfl rfl (fun hlt => ?_) (fun hlt => ?_)
    · obtain ⟨s, hs⟩ : ∃ s, rules[i]? = some s := ⟨_, List.getElem?_eq_getElem (by omega)⟩
      have hdr : rules.drop i = s :: rules.drop (i + 1) := by
        obtain ⟨hi', rfl⟩ := List.getElem?_eq_some_iff.1 hs
        exact List.drop_eq_getElem_cons hi'
      rw [hdr, List.any_cons] at hcon
      obtain ⟨b, o, cs, ha, hob, hrow, rfl⟩ := hsl.get i s hs
      have hbs := bs_size s
      refine G.skip rfl ?_
      refine G.seq rfl ?_
      refine G.block rfl rfl ?_
      refine G.seq rfl ?_
      refine G.reg Tryd.func26 rfl ?_
      refine RW.pureS rfl rfl rfl rfl (OpP.move rfl) ?_
      refine RW.pureS rfl rfl rfl rfl (OpP.move rfl) ?_
      refine RW.pureS rfl rfl rfl rfl (OpP.indexSlice Tryd.underlying22 H.sz9 rfl rfl i rfl ha (by omega)) ?_
      refine RW.pureS rfl rfl rfl rfl (OpP.load H.ag9 rfl (hrow 0 _ rfl)) ?_
      refine RW.pureS rfl rfl rfl rfl (OpP.lenString Tryd.underlying9 rfl) ?_
      refine RW.pureS rfl rfl rfl rfl (OpP.gtr rfl rfl) ?_
      refine RW.done rfl ?_
      refine G.sub (ρ' := [(0, _), (3, _), (10, _), (18, _)]) ⟨rfl, rfl, rfl, rfl, trivial⟩ ?_
      refine G.ite rfl rfl (fun hlong => ?_) (fun hlong => ?_)
      · rw [decide_eq_true (show 24 < s.length by omega)] at hcon
        refine G.seq rfl ?_
        refine G.reg Tryd.func26 rfl ?_
        refine RW.pureS rfl rfl rfl rfl (OpP.assign rfl) ?_
        refine RW.done rfl ?_
        refine G.sub (ρ' := [(0, _), (2, _), (3, _), (10, _), (18, _)]) ⟨rfl, rfl, rfl, rfl, rfl, trivial⟩ ?_
        refine G.ret Tryd.func26 rfl rfl ?_
        exact ⟨_, rfl, by rw [← hcon]; rfl, rfl⟩
      · rw [decide_eq_false (show ¬ 24 < s.length by omega), Bool.false_or] at hcon
        refine G.skip rfl ?_
        refine G.blkEnd ?_
        refine G.reg Tryd.func26 rfl ?_
        refine RW.pureS rfl rfl rfl rfl (OpP.move rfl) ?_
        refine RW.pureS rfl rfl rfl rfl (OpP.add64 rfl rfl ⟨by omega, by omega⟩) ?_
        refine RW.pureS rfl rfl rfl rfl (OpP.assign rfl) ?_
        refine RW.done rfl ?_
        refine G.sub (ρ' := [(0, _), (3, _), (10, _), (18, _)]) ⟨rfl, rfl, rfl, rfl, trivial⟩ ?_
        exact ih (i + 1) _ _ ⟨rfl, rfl, trivial⟩ ⟨by omega, rfl, hcon⟩ (by omega)
    · have hnil : rules.drop i = [] := List.drop_of_length_le (by omega)
      rw [hnil] at hcon
      refine G.exit rfl rfl ?_
      refine G.seq rfl ?_
      refine G.reg Tryd.func26 rfl ?_
      refine RW.pureS rfl rfl rfl rfl (OpP.assign rfl) ?_
      refine RW.done rfl ?_
      refine G.sub (ρ' := [(0, _), (2, _), (3, _), (10, _)]) ⟨rfl, rfl, rfl, rfl, trivial⟩ ?_
      refine G.ret Tryd.func26 rfl rfl ?_
      exact ⟨_, rfl, by rw [← hcon]; rfl, rfl⟩
theorem greatD_not {l : List By} (h : greatD l = false) : l.length ≤ 5 ∧ ∀ s ∈ l, s.length ≤ 24 := by
  simp only [greatD, Bool.or_eq_false_iff, decide_eq_false_iff_not, List.any_eq_false] at h
  exact ⟨by omega, fun s hs => by have := h.2 s hs; simpa using this⟩
theorem dmadeP_ne {rules : List By} {e : Int} (h : dmadeP rules = .inl e) : e ≠ 0 := by
  unfold dmadeP at h
  split at h
  · rename_i e' hm; cases h; exact makeP_ne hm
  · unfold dmakeP at h
    split at h
    · cases h; decide
    · split at h
      · cases h; decide
      · cases h

end Go.Proofs.YtlegopbpofofgaaDoor

/- What Make makes, round by round: what the statement of DFAs' states asks of it. -/
namespace Go.Proofs.YtlegopbpofofgaaDoor
open Go

theorem nodup_get {α : Type} {L : List α} (h : L.Nodup) {x y : Nat} {a : α} (hx : L[x]? = some a) (hy : L[y]? = some a) : x = y := by
  obtain ⟨hi1, hi2⟩ := List.getElem?_eq_some_iff.1 hx
  obtain ⟨hj1, hj2⟩ := List.getElem?_eq_some_iff.1 hy
  rcases Nat.lt_trichotomy x y with e | e | e
  · exact absurd (hi2.trans hj2.symm) (List.pairwise_iff_getElem.1 h x y hi1 hj1 e)
  · exact e
  · exact absurd (hj2.trans hi2.symm) (List.pairwise_iff_getElem.1 h y x hj1 hi1 e)
theorem pre_get {α : Type} {l L : List α} (h : l <+: L) {i : Nat} {a : α} (hi : l[i]? = some a) : L[i]? = some a := by
  obtain ⟨t, rfl⟩ := h
  rw [List.getElem?_append_left (List.getElem?_eq_some_iff.1 hi).1]; exact hi
theorem pre_back {α : Type} {l L : List α} (h : l <+: L) {i : Nat} {a : α} (hl : i < l.length) (hi : L[i]? = some a) : l[i]? = some a := by
  obtain ⟨t, rfl⟩ := h
  rwa [List.getElem?_append_left hl] at hi

theorem dmakeG_next {ss : List Ste} {st n k : Nat} {lists : List (List Nat)} {next : List Row} {rule : List Int} {d : Tab} {cur : List Nat} (hG : dmakeG ss (n + 1) k lists next rule = some d) (h : Lists ss st lists ⟨next, rule⟩) (hk : next.length = k) (hcur : lists[k]? = some cur) :
    dmakeG ss n (k + 1) (rowG ss cur 256 0 lists []).1 (next ++ [mkRow (rowG ss cur 256 0 lists []).2]) (rule ++ [acceptsP ss cur]) = some d ∧ Lists ss st (rowG ss cur 256 0 lists []).1 ⟨next ++ [mkRow (rowG ss cur 256 0 lists []).2], rule ++ [acceptsP ss cur]⟩ ∧
      ∃ L, (rowG ss cur 256 0 lists []).1 <+: L ∧ Lists ss st L d ∧ L.length = d.next.length := by
  rw [dmakeG, hcur] at hG
  simp only at hG
  split at hG
  · cases hG
  rename_i hsz
  obtain ⟨h1, h2, ys, h3, h4, h5⟩ := rowG_spec ss cur 256 0 lists [] h.once
  have hkl := (List.getElem?_eq_some_iff.1 hcur).1
  have hlen := h1.length_le
  have hrl : rule.length = next.length := h.rlen
  have hn : Lists ss st (rowG ss cur 256 0 lists []).1 ⟨next ++ [mkRow (rowG ss cur 256 0 lists []).2], rule ++ [acceptsP ss cur]⟩ := ⟨pre_get h1 h.first, h2, by omega, by simp [hrl], fun i r l hr hl b y hy => by
      rcases Nat.lt_or_ge i next.length with hi | hi
      · rw [List.getElem?_append_left hi] at hr
        exact (h.row i r l hr (pre_back h1 (by omega) hl) b y hy).mono h1
      · have hik : i = next.length := by
          have := (List.getElem?_eq_some_iff.1 hr).1
          simp at this; omega
        subst hik
        simp only [List.getElem?_concat_length, Option.some.injEq] at hr
        subst hr
        have hlc := pre_back h1 (by omega) hl
        rw [hk, hcur] at hlc
        cases hlc
        rw [h3, List.nil_append, mkRow_v h4] at hy
        have := h5 b y hy
        rwa [Nat.zero_add] at this, fun i x l hx hl => by
      rcases Nat.lt_or_ge i rule.length with hi | hi
      · rw [List.getElem?_append_left hi] at hx
        exact h.rule i x l hx (pre_back h1 (by omega) hl)
      · have hik : i = rule.length := by
          have := (List.getElem?_eq_some_iff.1 hx).1
          simp at this; omega
        subst hik
        simp only [List.getElem?_concat_length, Option.some.injEq] at hx
        subst hx
        have hlc := pre_back h1 (by omega) hl
        rw [hrl, hk, hcur] at hlc
        cases hlc
        rfl⟩
  obtain ⟨L, g1, g2, g3⟩ := dmakeG_spec n (k + 1) _ _ _ d hn (by simp [hk]) (by omega) hG
  exact ⟨hG, hn, L, g1, g2, g3⟩

theorem byte_step {ss : List Ste} {st i b : Nat} {L ls : List (List Nat)} {d : Tab} {cur : List Nat} (hL : Lists ss st L d) (hLl : L.length = d.next.length) (hcur : L[i]? = some cur) (hn : ls.Nodup) (hpre : (rowStep ss cur ls b).1 <+: L) :
    ((stepP ss (UInt8.ofNat b) cur).length = 0 ∧ d.to i (UInt8.ofNat b) = -1 ∧ (rowStep ss cur ls b).1 = ls) ∨
    ((stepP ss (UInt8.ofNat b) cur).length ≠ 0 ∧ ∃ j : Nat, d.to i (UInt8.ofNat b) = (j : Int) ∧ j < L.length ∧ (∀ (x : Nat) (y : List Nat), ls[x]? = some y → (y = stepP ss (UInt8.ofNat b) cur ↔ x = j)) ∧
      (stepP ss (UInt8.ofNat b) cur ∈ ls → (rowStep ss cur ls b).1 = ls) ∧ (stepP ss (UInt8.ofNat b) cur ∉ ls → (rowStep ss cur ls b).1 = ls ++ [stepP ss (UInt8.ofNat b) cur] ∧ j = ls.length)) := by
  have hto := hL.to hLl hcur (UInt8.ofNat b)
  have hspec := (rowStep_spec ss cur ls b hn).1
  have hpl := hspec.trans hpre
  have hrs : (rowStep ss cur ls b).1 = if (stepP ss (UInt8.ofNat b) cur).length = 0 then ls else match findL 0 ls (stepP ss (UInt8.ofNat b) cur) with | some i => ls | none => ls ++ [stepP ss (UInt8.ofNat b) cur] := by
    unfold rowStep
    split
    · rfl
    · split <;> simp_all
  generalize stepP ss (UInt8.ofNat b) cur = l at *
  rcases hto with ⟨h1, h2⟩ | ⟨h1, j, h2, h3⟩
  · exact .inl ⟨h1, h2, by rw [hrs, if_pos h1]⟩
  · rw [if_neg h1] at hrs
    refine .inr ⟨h1, j, h2, (List.getElem?_eq_some_iff.1 h3).1, fun x y hx => ?_, fun hm => ?_, fun hm => ?_⟩
    · have hx' := pre_get hpl hx
      constructor
      · rintro rfl; exact nodup_get hL.once hx' h3
      · rintro rfl; rw [hx'] at h3; exact Option.some.inj h3
    · rw [hrs]
      cases hf : findL 0 ls l with
      | some i => rfl
      | none => exact absurd hm (findL_none ls 0 l hf)
    · have hf : findL 0 ls l = none := by
        cases hf : findL 0 ls l with
        | none => rfl
        | some i => exact absurd (List.mem_of_getElem? (findL_some ls 0 i l hf).2) hm
      rw [hf] at hrs
      simp only at hrs
      refine ⟨hrs, ?_⟩
      rw [hrs] at hpre
      exact nodup_get hL.once h3 (pre_get hpre (by simp))

theorem dmakeP_G {ss : List Ste} {st : Nat} {d : Tab} (h : dmakeP ss st = .inr d) : dmakeG ss 2002 0 [startP ss st] [] [] = some d := by
  unfold dmakeP at h
  split at h
  · cases h
  · split at h
    · cases h
    · rename_i hd; cases h; exact hd
theorem lists_first (ss : List Ste) (st : Nat) : Lists ss st [startP ss st] ⟨[], []⟩ := ⟨rfl, by simp, by simp, rfl, fun k r l hr => by simp at hr, fun k x l hx => by simp at hx⟩

theorem stepP_none (ss : List Ste) : ∀ (w : By) (T : List Nat), T.length = 0 → (w.foldl (fun T c => stepP ss c T) T).length = 0
  | [], T, h => h
  | c :: w, T, h => stepP_none ss w _ (by
      rw [List.length_eq_zero_iff.1 h]; simp only [stepP_nil]; rfl)
theorem Lists.says {ss : List Ste} {st0 : Nat} {L : List (List Nat)} {d : Tab} (k : Lists ss st0 L d) (hL : L.length = d.next.length) : ∀ (w : By) (s : Nat) (T : List Nat), L[s]? = some T → d.says (s : Int) w = acceptsP ss (w.foldl (fun T c => stepP ss c T) T)
  | [], s, T, h => by rw [says_nil, k.ru hL h]; rfl
  | c :: w, s, T, h => by
    rw [says_cons, List.foldl_cons]
    rcases k.to hL h c with ⟨h1, h2⟩ | ⟨h1, i, h2, h3⟩
    · rw [h2, says_neg d w (by decide), List.length_eq_zero_iff.1 (stepP_none ss w _ h1)]
      simp [acceptsP, accG]
    · rw [h2, k.says hL w i _ h3]
theorem Lists.says0 {ss : List Ste} {st0 : Nat} {L : List (List Nat)} {d : Tab} (k : Lists ss st0 L d) (hL : L.length = d.next.length) (w : By) : d.says 0 w = acceptsP ss (runP ss st0 w) := k.says hL w 0 _ k.first

end Go.Proofs.YtlegopbpofofgaaDoor

/- DfasMake: what it answers. -/
namespace Go.Proofs.YtlegopbpofofgaaDoor
open Go Go.Lw
set_option maxRecDepth 20000

theorem ints_calls {h : Heap} {O1 O2 : Nat → Prop} {va vb : Value} {a b : List Nat} (ha : SlR eNat h O1 va a) (hb : SlR eNat h O2 vb b) :
    CallsH Tryd.prog 35 #[va, vb] h (Ret fun r h' => r = .bool (decide (a = b)) ∧ h' = h) := by
  obtain ⟨oa, n, c, rfl, hal⟩ := id ha.open
  obtain ⟨ob, m, e, rfl, hbl⟩ := id hb.open
  have h1 := hal.len
  have h2 := hal.le
  have hcap := hal.cap
  simp only [maxLen] at hcap
  have h4 := hbl.len
  refine CallsH.of Tryd.func35 rfl rfl ?_
  refine G.seq rfl ?_
  refine G.reg Tryd.func35 rfl ?_
  refine RW.pureS rfl rfl rfl rfl (OpP.assign rfl) ?_
  refine RW.done rfl ?_
  refine G.sub (ρ' := [(0, _), (1, _), (4, _)]) ⟨rfl, rfl, rfl, trivial⟩ ?_
  refine G.seq rfl ?_
  refine G.seq rfl ?_
  refine G.reg Tryd.func35 rfl ?_
  refine RW.pureS rfl rfl rfl rfl (OpP.move rfl) ?_
  refine RW.pureS rfl rfl rfl rfl (OpP.lenSlice Tryd.underlying36 rfl) ?_
  refine RW.pureS rfl rfl rfl rfl (OpP.move rfl) ?_
  refine RW.pureS rfl rfl rfl rfl (OpP.lenSlice Tryd.underlying36 rfl) ?_
  refine RW.pureS rfl rfl rfl rfl (OpP.neqInt rfl rfl) ?_
  refine RW.done rfl ?_
  refine G.sub (ρ' := [(0, _), (1, _), (4, _), (10, _)]) ⟨rfl, rfl, rfl, rfl, trivial⟩ ?_
  refine G.ite rfl rfl (fun hne => ?_) (fun hne => ?_)
  · refine G.seq rfl ?_
    refine G.reg Tryd.func35 rfl ?_
    refine RW.pureS rfl rfl rfl rfl (OpP.assign rfl) ?_
    refine RW.done rfl ?_
    refine G.sub (ρ' := [(0, _), (1, _), (4, _), (10, _)]) ⟨rfl, rfl, rfl, rfl, trivial⟩ ?_
    refine G.ret Tryd.func35 rfl rfl ?_
    exact ⟨_, rfl, by rw [decide_eq_false (fun q => by rw [q] at h1; omega)]; rfl, rfl⟩
  · have hnm : n = m := by omega
    subst hnm
    refine G.skip rfl ?_
    refine G.seq rfl ?_
    refine G.seq rfl ?_
    refine G.reg Tryd.func35 rfl ?_
    refine RW.pureS rfl rfl rfl rfl (OpP.assign rfl) ?_
    refine RW.done rfl ?_
    refine G.sub (ρ' := [(0, _), (1, _), (4, _), (5, _), (10, _)]) ⟨rfl, rfl, rfl, rfl, rfl, trivial⟩ ?_
    refine G.block rfl rfl ?_
    refine G.loop (σ := Nat) (fun i => [(0, .slice oa n c), (1, .slice ob n e), (5, .int .i64 (i : Nat))]) (fun i h' => i ≤ n ∧ h' = h ∧ a.take i = b.take i) (fun i => n - i) (0) rfl ⟨rfl, rfl, rfl, trivial⟩ ⟨Nat.zero_le _, rfl, rfl⟩ ?_
    rintro i g ⟨hi, rfl, htk⟩ ih
    refine G.seq rfl ?_
    refine G.seq rfl ?_
    refine G.reg Tryd.func35 rfl ?_
    refine RW.pureS rfl rfl rfl rfl (OpP.move rfl) ?_
    refine RW.pureS rfl rfl rfl rfl (OpP.move rfl) ?_
    refine RW.pureS rfl rfl rfl rfl (OpP.lenSlice Tryd.underlying36 rfl) ?_
    refine RW.pureS rfl rfl rfl rfl (OpP.lss rfl rfl) ?_
    refine RW.done rfl ?_
    refine G.sub (ρ' := [(0, _), (1, _), (5, _), (14, _)]) ⟨rfl, rfl, rfl, rfl, trivial⟩ ?_
    refine G.ite rfl rfl (fun hlt => ?_) (fun hlt => ?_)
    · obtain ⟨x, hx⟩ : ∃ x, a[i]? = some x := ⟨_, List.getElem?_eq_getElem (by omega)⟩
      obtain ⟨y, hy⟩ : ∃ y, b[i]? = some y := ⟨_, List.getElem?_eq_getElem (by omega)⟩
      obtain ⟨b1, o1, cs1, ha1, hO1, hrow1, rfl⟩ := hal.get i x hx
      obtain ⟨b2, o2, cs2, ha2, hO2, hrow2, rfl⟩ := hbl.get i y hy
      refine G.skip rfl ?_
      refine G.seq rfl ?_
      refine G.block rfl rfl ?_
      refine G.seq rfl ?_
      refine G.drawQ Tryd.func35 H.mixed rfl (by kernel_rfl) ?_
      refine RQ.pureS rfl rfl rfl rfl (OpP.move rfl) ?_
      refine RQ.pureS rfl rfl rfl rfl (OpP.move rfl) ?_
      refine RQ.pureS rfl rfl rfl rfl (OpP.indexSlice Tryd.underlying36 H.sz3 rfl rfl i rfl ha1 (by omega)) ?_
      refine RQ.pureS rfl rfl rfl rfl (OpP.load H.ag3 rfl (hrow1 0 _ rfl)) ?_
      refine RQ.pureS rfl rfl rfl rfl (OpP.move rfl) ?_
      refine RQ.pureS rfl rfl rfl rfl (OpP.move rfl) ?_
      refine RQ.pureS rfl rfl rfl rfl (OpP.indexSlice Tryd.underlying36 H.sz3 rfl rfl i rfl ha2 (by omega)) ?_
      refine RQ.pureS rfl rfl rfl rfl (OpP.load H.ag3 rfl (hrow2 0 _ rfl)) ?_
      refine RQ.pureS rfl rfl rfl rfl (OpP.neqInt rfl rfl) ?_
      refine RQ.done rfl ?_
      refine G.sub (ρ' := [(0, _), (1, _), (5, _), (14, _), (25, _)]) ⟨rfl, rfl, rfl, rfl, rfl, trivial⟩ ?_
      refine G.ite rfl rfl (fun hxy => ?_) (fun hxy => ?_)
      · refine G.seq rfl ?_
        refine G.reg Tryd.func35 rfl ?_
        refine RW.pureS rfl rfl rfl rfl (OpP.assign rfl) ?_
        refine RW.done rfl ?_
        refine G.sub (ρ' := [(0, _), (1, _), (4, _), (5, _), (14, _), (25, _)]) ⟨rfl, rfl, rfl, rfl, rfl, rfl, trivial⟩ ?_
        refine G.ret Tryd.func35 rfl rfl ?_
        exact ⟨_, rfl, by rw [decide_eq_false (fun q => by rw [q, hy] at hx; cases hx; exact hxy rfl)]; rfl, rfl⟩
      · have hxy' : x = y := by omega
        refine G.skip rfl ?_
        refine G.blkEnd ?_
        refine G.reg Tryd.func35 rfl ?_
        refine RW.pureS rfl rfl rfl rfl (OpP.move rfl) ?_
        refine RW.pureS rfl rfl rfl rfl (OpP.add64 rfl rfl ⟨by omega, by omega⟩) ?_
        refine RW.pureS rfl rfl rfl rfl (OpP.assign rfl) ?_
        refine RW.done rfl ?_
        refine G.sub (ρ' := [(0, _), (1, _), (5, _), (14, _), (25, _)]) ⟨rfl, rfl, rfl, rfl, rfl, trivial⟩ ?_
        exact ih (i + 1) _ _ ⟨rfl, rfl, rfl, trivial⟩ ⟨by omega, rfl, by rw [List.take_add_one, List.take_add_one, htk, hx, hy, hxy']⟩ (by omega)
    · have : a = b := by
        have e1 : a.take i = a := List.take_of_length_le (by omega)
        have e2 : b.take i = b := List.take_of_length_le (by omega)
        rw [← e1, ← e2]; exact htk
      refine G.exit rfl rfl ?_
      refine G.seq rfl ?_
      refine G.reg Tryd.func35 rfl ?_
      refine RW.pureS rfl rfl rfl rfl (OpP.assign rfl) ?_
      refine RW.done rfl ?_
      refine G.sub (ρ' := [(0, _), (1, _), (4, _), (5, _), (14, _)]) ⟨rfl, rfl, rfl, rfl, rfl, trivial⟩ ?_
      refine G.ret Tryd.func35 rfl rfl ?_
      exact ⟨_, rfl, by rw [decide_eq_true this]; rfl, rfl⟩

/-- Between the rounds: C are the blocks that the lists' numbers lie in. -/
structure LkAt (h0 h : Heap) (C : Nat → Prop) (vl vs : Value) (lists : List (List Nat)) : Prop where
  ext : Ext0 h0 h
  ls : OwX eLst (fun b => ¬ C b) h h0.size 36 vl lists
  so : OwE encN h h0.size 3 vs (List.range lists.length)
  cty : ∀ b, C b → TyAt h b 3
  cs : ∀ b, vs.ownBlock = some b → ¬ C b
theorem LkAt.ext0 {h0 h h' : Heap} {C : Nat → Prop} {vl vs : Value} {lists : List (List Nat)} (k : LkAt h0 h C vl vs lists) (e : Ext0 h h') : LkAt h0 h' C vl vs lists :=
  ⟨k.ext.trans e, k.ls.ext0 e, OwE.ext0 k.so e, fun b hb => (k.cty b hb).ext e (fun k => k), k.cs⟩

theorem dfasMake_calls {h : Heap} (hg : Sg h h.size) (htens : Tens h) {rv : Value} {rules : List By} (hr : SlR eBy h (fun _ => False) rv rules) :
    CallsH Tryd.prog 10 #[rv] h (Ret fun r h' => r = .bool true ∧ Ext0 h h') := by
  refine CallsH.of Tryd.func10 rfl rfl ?_
  refine G.seq rfl ?_
  refine G.reg Tryd.func10 rfl ?_
  refine RW.pureS rfl rfl rfl rfl (OpP.assign rfl) ?_
  refine RW.done rfl ?_
  refine G.sub (ρ' := [(0, _), (2, _)]) ⟨rfl, rfl, trivial⟩ ?_
  refine G.seq rfl ?_
  refine G.seq rfl ?_
  refine G.reg Tryd.func10 rfl ?_
  refine RW.pureS rfl rfl rfl rfl (OpP.move rfl) ?_
  refine RW.opS rfl rfl rfl rfl (OpX.call (vs := [_]) Tryd.func26 rfl H.nm26 rfl (CallsH.toX (great12_calls hr))) ?_
  rintro _ h0 ⟨rfl, hh0⟩
  subst hh0
  refine RW.done rfl ?_
  refine G.sub (ρ' := [(0, _), (2, _), (16, _)]) ⟨rfl, rfl, rfl, trivial⟩ ?_
  refine G.cond rfl rfl (fun hbig => ?_) (fun hbig => ?_)
  · refine G.seq rfl ?_
    refine G.reg Tryd.func10 rfl ?_
    refine RW.opS rfl rfl rfl rfl (OpX.call (vs := []) Tryd.func27 rfl H.nm27 rfl (CallsH.toX (tabled_calls hg (Nat.le_refl _) htens))) ?_
    rintro _ h1 ⟨rfl, e1⟩
    refine RW.pureS rfl rfl rfl rfl (OpP.assign rfl) ?_
    refine RW.done rfl ?_
    refine G.sub (ρ' := [(0, _), (2, _), (16, _)]) ⟨rfl, rfl, rfl, trivial⟩ ?_
    refine G.ret Tryd.func10 rfl rfl ?_
    exact ⟨_, rfl, rfl, e1⟩
  · have hnot := greatD_not hbig
    refine G.skip rfl ?_
    refine G.seq rfl ?_
    refine G.reg Tryd.func10 rfl ?_
    refine RW.pureS rfl rfl rfl rfl (OpP.move rfl) ?_
    refine RW.opS rfl rfl rfl rfl (OpX.call (vs := [_]) Tryd.func28 rfl H.nm28 rfl (CallsH.toX (made12_calls hg (Nat.le_refl _) htens hr (fun x hx => by have := hnot.2 x hx; omega)))) ?_
    rintro _ h1 ⟨⟨p, q, rfl, hp⟩, e1⟩
    rcases hdm : dmadeP rules with e | d
    · have hE : dmadeE rules = e := by unfold dmadeE; rw [hdm]
      have hne := dmadeP_ne hdm
      rw [hdm] at hp
      obtain rfl := hp
      rw [hE]
      refine RW.pureS rfl rfl rfl rfl (OpP.move rfl) ?_
      refine RW.pureS rfl rfl rfl rfl (OpP.extract rfl rfl) ?_
      refine RW.pureS rfl rfl rfl rfl (OpP.extract rfl rfl) ?_
      refine RW.pureS rfl rfl rfl rfl (OpP.extract rfl rfl) ?_
      refine RW.pureS rfl rfl rfl rfl (OpP.assign rfl) ?_
      refine RW.pureS rfl rfl rfl rfl (OpP.assign rfl) ?_
      refine RW.pureS rfl rfl rfl rfl (OpP.assign rfl) ?_
      refine RW.done rfl ?_
      refine G.sub (ρ' := [(0, _), (2, _), (3, _), (4, _), (5, _), (16, _)]) ⟨rfl, rfl, rfl, rfl, rfl, rfl, trivial⟩ ?_
      refine G.seq rfl ?_
      refine G.seq rfl ?_
      refine G.reg Tryd.func10 rfl ?_
      refine RW.pureS rfl rfl rfl rfl (OpP.move rfl) ?_
      refine RW.pureS rfl rfl rfl rfl (OpP.neqInt rfl rfl) ?_
      refine RW.done rfl ?_
      refine G.sub (ρ' := [(0, _), (2, _), (3, _), (4, _), (5, _), (16, _), (25, _)]) ⟨rfl, rfl, rfl, rfl, rfl, rfl, rfl, trivial⟩ ?_
      refine G.cond rfl rfl (fun _ => ?_) (fun hc => absurd hc (by simp [hne]))
      refine G.seq rfl ?_
      refine G.regToX (fun (_u : Unit) (h' : Heap) => Ext0 h0 h') (fun (_u : Unit) => [(2, .bool true)]) [(0, _), (3, _), (4, _), (5, _), (16, _), (25, _)] ⟨rfl, rfl, rfl, rfl, rfl, rfl, trivial⟩ Tryd.func10 rfl ?_ ?_
      · refine RW.pureS rfl rfl rfl rfl (OpP.move rfl) ?_
        refine RW.pureS rfl rfl rfl rfl (OpP.eqlNil Tryd.underlying50 rfl rfl) ?_
        refine RW.pureS rfl rfl rfl rfl (OpP.move rfl) ?_
        refine RW.know (d := 28) (b' := true) rfl (rfl) ?_
        refine RW.opS rfl rfl rfl rfl (OpX.call (vs := []) Tryd.func27 rfl H.nm27 rfl (CallsH.toX (tabled_calls (hg.ext e1 (fun _ k => k.elim)) e1.size (htens.ext0 e1)))) ?_
        rintro _ h2 ⟨rfl, e2⟩
        refine RW.pureS rfl rfl rfl rfl (OpP.pickT rfl rfl) ?_
        refine RW.pureS rfl rfl rfl rfl (OpP.assign rfl) ?_
        refine RW.done rfl ?_
        exact ⟨(), e1.trans e2, at_bool rfl (rfl), rfl, rfl, rfl, rfl, rfl, rfl, trivial⟩
      · rintro _ h4 e4
        refine G.ret Tryd.func10 rfl rfl ?_
        exact ⟨_, rfl, rfl, e4⟩
    · rw [hdm] at hp
      obtain ⟨⟨O, nb, v, ss, st, rfl, hn, hm⟩, db, rfl, hk⟩ := hp
      have hE : dmadeE rules = 0 := by unfold dmadeE; rw [hdm]
      have hok := (dmadeP_ok hdm).1
      have hM := makeP_made hm
      have hb := made_bounds hM
      have hss := hb.1
      have hdd : dmakeP ss st = .inr d := by unfold dmadeP at hdm; rw [hm] at hdm; exact hdm
      have hG0 := dmakeP_G hdd
      have hLs0 := lists_first ss st
      rw [hE]
      refine RW.pureS rfl rfl rfl rfl (OpP.move rfl) ?_
      refine RW.pureS rfl rfl rfl rfl (OpP.extract rfl rfl) ?_
      refine RW.pureS rfl rfl rfl rfl (OpP.extract rfl rfl) ?_
      refine RW.pureS rfl rfl rfl rfl (OpP.extract rfl rfl) ?_
      refine RW.pureS rfl rfl rfl rfl (OpP.assign rfl) ?_
      refine RW.pureS rfl rfl rfl rfl (OpP.assign rfl) ?_
      refine RW.pureS rfl rfl rfl rfl (OpP.assign rfl) ?_
      refine RW.done rfl ?_
      refine G.sub (ρ' := [(0, _), (2, _), (3, _), (4, _), (5, _), (16, _)]) ⟨rfl, rfl, rfl, rfl, rfl, rfl, trivial⟩ ?_
      refine G.seq rfl ?_
      refine G.seq rfl ?_
      refine G.reg Tryd.func10 rfl ?_
      refine RW.pureS rfl rfl rfl rfl (OpP.move rfl) ?_
      refine RW.pureS rfl rfl rfl rfl (OpP.neqInt rfl rfl) ?_
      refine RW.done rfl ?_
      refine G.sub (ρ' := [(0, _), (2, _), (3, _), (4, _), (5, _), (16, _), (25, _)]) ⟨rfl, rfl, rfl, rfl, rfl, rfl, rfl, trivial⟩ ?_
      refine G.cond rfl rfl (fun hc => absurd hc (by simp)) (fun _ => ?_)
      refine G.skip rfl ?_
      refine G.seq rfl ?_
      refine G.reg Tryd.func10 rfl ?_
      refine RW.pureS rfl rfl rfl rfl (OpP.move rfl) ?_
      refine RW.opS rfl rfl rfl rfl (OpX.call (vs := [_]) Tryd.func21 rfl H.nm21 rfl (CallsH.toX (start_calls hn hM.good hss (.inr hM.stl) hb.2.1))) ?_
      rintro w4 h2 ⟨ho2, e2⟩
      have hsub0 := startP_sub ss st
      generalize startP ss st = l0 at *
      obtain ⟨wa, wc, rfl, _⟩ := (show OwnH h2 h1.size 3 1 w4 l0.length (l0.map encN) from ho2).open
      refine RW.opS rfl rfl rfl rfl (OpX.buildOnes (us := [_]) Tryd.underlying67 H.el36 rfl rfl (by decide) (by simp [Value.oneCell'])) ?_
      rintro _ _ ⟨rfl, rfl⟩
      refine RW.pureS rfl rfl rfl rfl (OpP.assign rfl) ?_
      refine RW.done rfl ?_
      refine G.sub (ρ' := [(0, _), (2, _), (3, _), (4, _), (5, _), (6, _), (16, _), (25, _)]) ⟨rfl, rfl, rfl, rfl, rfl, rfl, rfl, rfl, trivial⟩ ?_
      refine G.seq rfl ?_
      refine G.reg Tryd.func10 rfl ?_
      refine RW.opS rfl rfl rfl rfl (OpX.buildOnes (us := [_]) Tryd.underlying36 H.el3 rfl rfl (by decide) (by simp [Value.oneCell'])) ?_
      rintro _ _ ⟨rfl, rfl⟩
      refine RW.pureS rfl rfl rfl rfl (OpP.assign rfl) ?_
      refine RW.done rfl ?_
      refine G.sub (ρ' := [(0, _), (2, _), (3, _), (4, _), (5, _), (6, _), (7, _), (16, _), (25, _)]) ⟨rfl, rfl, rfl, rfl, rfl, rfl, rfl, rfl, rfl, trivial⟩ ?_
      refine G.seq rfl ?_
      refine G.seq rfl ?_
      refine G.reg Tryd.func10 rfl ?_
      refine RW.pureS rfl rfl rfl rfl (OpP.assign rfl) ?_
      refine RW.done rfl ?_
      refine G.sub (ρ' := [(0, _), (2, _), (3, _), (4, _), (5, _), (6, _), (7, _), (8, _), (16, _), (25, _)]) ⟨rfl, rfl, rfl, rfl, rfl, rfl, rfl, rfl, rfl, rfl, trivial⟩ ?_
      refine G.block rfl rfl ?_
      have e23 : Ext0 h2 (h2.push (.cells #[.slice wa l0.length wc] 36)) := Ext.push _ _ _
      have ls3 : OwX eLst (fun b => ¬ but (Value.slice wa l0.length wc).ownBlock b) (h2.push (.cells #[.slice wa l0.length wc] 36)) h1.size 36 (.slice (some ⟨h2.size, 0, none⟩) 1 1) [l0] :=
        OwX.made1 (e := eLst) (cs := [.slice wa l0.length wc]) ⟨_, rfl, OwnH.shut2 (h1 := fun _ => rfl) ho2 (fun b hb k => k hb.symm)⟩ e2.size
      generalize h2.push (.cells #[.slice wa l0.length wc] 36) = h3 at *
      have z23 := e23.size
      have z12 := e2.size
      have e34 : Ext0 h3 (h3.push (.cells #[.int .i64 0] 3)) := Ext.push _ _ _
      have so4 : OwE encN (h3.push (.cells #[.int .i64 0] 3)) h1.size 3 (.slice (some ⟨h3.size, 0, none⟩) 1 1) [0] := OwE.made encN h3 3 [0] 1 rfl (by decide) h1.size (by omega) rfl
      have mk4 : LkAt h1 (h3.push (.cells #[.int .i64 0] 3)) (but (Value.slice wa l0.length wc).ownBlock) (.slice (some ⟨h2.size, 0, none⟩) 1 1) (.slice (some ⟨h3.size, 0, none⟩) 1 1) [l0] :=
        ⟨(e2.trans e23).trans e34, ls3.ext0 e34, so4, fun b hb => (TyAt.ext (OwnH.ty ho2 hb.symm) e23 (fun k => k)).ext e34 (fun k => k), fun b hb hC => by
          have h5 := (OwnH.lt ho2 hC.symm).2
          simp only [Value.ownBlock, Option.some.injEq] at hb
          omega⟩
      generalize h3.push (.cells #[.int .i64 0] 3) = h4 at *
      refine G.loop (σ := Nat × Value × Value) (fun q => [(3, .pointer (some ⟨nb, 0, none⟩)), (4, .pointer (some ⟨db, 0, none⟩)), (6, q.2.1), (7, q.2.2), (8, .int .i64 (q.1 : Nat))]) (fun q h' => ∃ C lists next rule, LkAt h1 h' C q.2.1 q.2.2 lists ∧ (q.1 ≤ lists.length ∧ lists.length ≤ 40 ∧ ∀ l ∈ lists, l.Sublist (List.range ss.length)) ∧ next.length = q.1 ∧ Lists ss st lists ⟨next, rule⟩ ∧ dmakeG ss (2002 - q.1) q.1 lists next rule = some d) (fun q => 41 - q.1) ((0, .slice (some ⟨h2.size, 0, none⟩) 1 1, .slice (some ⟨h3.size, 0, none⟩) 1 1)) rfl ⟨rfl, rfl, rfl, rfl, rfl, trivial⟩ ⟨_, [l0], [], [], mk4, ⟨Nat.zero_le _, by simp, fun l hl => by simp at hl; subst hl; exact hsub0⟩, rfl, hLs0, hG0⟩ ?_
      rintro ⟨i, vl, vs⟩ g ⟨C, lists, next, rule, mk, ⟨hi, hl40, hsl⟩, hnl, hLs, hG⟩ ih
      try dsimp only
      dsimp only at mk hi hl40 hnl hLs hG
      obtain ⟨css, hc1, hc2, hc3⟩ := id mk.ls
      obtain ⟨la, lc, rfl, _⟩ := hc2.open
      have hso : OwnH g h1.size 3 1 vs (List.range lists.length).length ((List.range lists.length).map encN) := mk.so
      obtain ⟨sa, sc, rfl, _⟩ := hso.open
      have hrl : (List.range lists.length).length = lists.length := List.length_range
      have hng : NfaAt g O nb v ss st := hn.ext0 mk.ext (fun _ _ k => k)
      have hkg : TabAt g (.pointer (some ⟨db, 0, none⟩)) d := .inr ⟨db, rfl, hk.ext0 mk.ext⟩
      have hszd := hok.size
      refine G.seq rfl ?_
      refine G.seq rfl ?_
      refine G.reg Tryd.func10 rfl ?_
      refine RW.pureS rfl rfl rfl rfl (OpP.move rfl) ?_
      refine RW.pureS rfl rfl rfl rfl (OpP.move rfl) ?_
      refine RW.pureS rfl rfl rfl rfl (OpP.lenSlice Tryd.underlying67 rfl) ?_
      refine RW.pureS rfl rfl rfl rfl (OpP.lss rfl rfl) ?_
      refine RW.done rfl ?_
      refine G.sub (ρ' := [(3, _), (4, _), (6, _), (7, _), (8, _), (38, _)]) ⟨rfl, rfl, rfl, rfl, rfl, rfl, trivial⟩ ?_
      refine G.ite rfl rfl (fun hlt => ?_) (fun hlt => ?_)
      · have hil : i < lists.length := by omega
        obtain ⟨cur, hcur⟩ : ∃ cur, lists[i]? = some cur := ⟨_, List.getElem?_eq_getElem hil⟩
        obtain ⟨n, hnn⟩ : ∃ n, 2002 - i = n + 1 := ⟨2001 - i, by omega⟩
        rw [hnn] at hG
        obtain ⟨hG2, hLs2, L, hpre, hLL, hLlen⟩ := dmakeG_next hG hLs hnl hcur
        have hpl := (rowG_spec ss cur 256 0 lists [] hLs.once).1
        have hcL : L[i]? = some cur := pre_get (hpl.trans hpre) hcur
        obtain ⟨g', c', cs, hv', _, _, hrowv, _, ⟨w, rfl, hw⟩, _⟩ := mk.ls.put hcur
        have hla : la = some ⟨g', 0, none⟩ := by cases hv'; rfl
        have hix : (List.range lists.length)[i]? = some i := by rw [List.getElem?_range hil]
        obtain ⟨gg, c4, hv4, _, _, hcell, _, _⟩ := mk.so.at hix
        have hsa : sa = some ⟨gg, 0, none⟩ := by cases hv4; rfl
        have hcsub : cur.Sublist (List.range ss.length) := hsl cur (List.mem_of_getElem? hcur)
        have hwr : SlR eNat g (fun _ => False) w cur := SlR.less hw (fun _ k => k.elim)
        have hnlt : ∀ j ∈ cur, j < ss.length := fun j hj => List.mem_range.1 (hcsub.subset hj)
        have hcl := hcsub.length_le
        rw [List.length_range] at hcl
        refine G.skip rfl ?_
        refine G.seq rfl ?_
        refine G.block rfl rfl ?_
        refine G.seq rfl ?_
        refine G.seq rfl ?_
        refine G.draw (fun b => Array.size g ≤ b) (fun i => Nat.blt i 13) (sz := 13) (listed := #[false, false, false, false, false, false, false, false, false, false, false, false, false]) Tryd.func10 H.mixed rfl rfl rfl ?_
        refine RD.takeS 0 (listed' := #[true, false, false, false, false, false, false, false, false, false, false, false, false]) rfl (by kernel_rfl) (by kernel_rfl) (by kernel_rfl) rfl rfl rfl (fun h' e => OpP.move rfl) rfl ?_
        refine RD.takeS 1 (listed' := #[true, true, false, false, false, false, false, false, false, false, false, false, false]) rfl (by kernel_rfl) (by kernel_rfl) (by kernel_rfl) rfl rfl rfl (fun h' e => OpP.move rfl) rfl ?_
        refine RD.takeS 2 (listed' := #[true, true, true, false, false, false, false, false, false, false, false, false, false]) rfl (by kernel_rfl) (by kernel_rfl) (by kernel_rfl) rfl rfl rfl (fun h' e => OpP.move rfl) rfl ?_
        refine RD.takeS 3 (listed' := #[true, true, true, true, false, false, false, false, false, false, false, false, false]) rfl (by kernel_rfl) (by kernel_rfl) (by kernel_rfl) rfl rfl rfl (fun h' e => OpP.indexSlice Tryd.underlying36 H.sz3 rfl rfl i rfl hsa (by omega)) rfl ?_
        refine RD.takeS 4 (listed' := #[true, true, true, true, true, false, false, false, false, false, false, false, false]) rfl (by kernel_rfl) (by kernel_rfl) (by kernel_rfl) rfl rfl rfl (fun h' e => OpP.load H.ag3 rfl (e.old hcell)) rfl ?_
        refine RD.takeS 6 (listed' := #[true, true, true, true, true, false, true, false, false, false, false, false, false]) rfl (by kernel_rfl) (by kernel_rfl) (by kernel_rfl) rfl rfl rfl (fun h' e => OpP.move rfl) rfl ?_
        refine RD.takeS 7 (listed' := #[true, true, true, true, true, false, true, true, false, false, false, false, false]) rfl (by kernel_rfl) (by kernel_rfl) (by kernel_rfl) rfl rfl rfl (fun h' e => OpP.move rfl) rfl ?_
        refine RD.takeS 8 (listed' := #[true, true, true, true, true, false, true, true, true, false, false, false, false]) rfl (by kernel_rfl) (by kernel_rfl) (by kernel_rfl) rfl rfl rfl (fun h' e => OpP.move rfl) rfl ?_
        refine RD.takeS 9 (listed' := #[true, true, true, true, true, false, true, true, true, true, false, false, false]) rfl (by kernel_rfl) (by kernel_rfl) (by kernel_rfl) rfl rfl rfl (fun h' e => OpP.indexSlice Tryd.underlying67 H.sz36 rfl rfl i rfl hla (by omega)) rfl ?_
        refine RD.takeS 10 (listed' := #[true, true, true, true, true, false, true, true, true, true, true, false, false]) rfl (by kernel_rfl) (by kernel_rfl) (by kernel_rfl) rfl rfl rfl (fun h' e => OpP.load H.ag36 rfl (e.old (hrowv 0 _ rfl))) rfl ?_
        refine RD.oneS 5 (listed' := #[true, true, true, true, true, true, true, true, true, true, true, false, false]) rfl (by kernel_rfl) rfl rfl rfl (OpX.call (vs := [_, _]) Tryd.func34 rfl H.nm34 rfl (CallsH.toX (dacc_calls (i : Int) hkg hok.len (by omega)))) rfl ?_
        rintro _ g1 ⟨rfl, hg1⟩
        refine ⟨fun _ => by subst hg1; exact Ext.refl _ _, ?_⟩
        subst hg1
        refine RD.oneS 11 (listed' := #[true, true, true, true, true, true, true, true, true, true, true, true, false]) rfl (by kernel_rfl) rfl rfl rfl (OpX.call (vs := [_, _]) Tryd.func22 rfl H.nm22 rfl (CallsH.toX (accepts_calls hng hss hwr hnlt (by omega)))) rfl ?_
        rintro _ g1 ⟨rfl, hg1⟩
        refine ⟨fun _ => by subst hg1; exact Ext.refl _ _, ?_⟩
        subst hg1
        have hiL := (List.getElem?_eq_some_iff.1 hcL).1
        have hacc : daccA d (i : Int) = acceptsP ss cur := by rw [daccA, if_neg (by omega), Int.toNat_natCast, hLL.ru hLlen hcL]
        refine RD.takeS 12 (listed' := #[true, true, true, true, true, true, true, true, true, true, true, true, true]) rfl (by kernel_rfl) (by kernel_rfl) (by kernel_rfl) rfl rfl rfl (fun h' e => OpP.neqInt rfl rfl) rfl ?_
        refine RD.done (by kernel_rfl) ?_
        refine G.sub (ρ' := [(3, _), (4, _), (6, _), (7, _), (8, _), (38, _), (53, _)]) ⟨rfl, rfl, rfl, rfl, rfl, rfl, rfl, trivial⟩ ?_
        refine G.cond rfl rfl (fun hc => absurd hc (by simp [hacc])) (fun _ => ?_)
        refine G.skip rfl ?_
        refine G.seq rfl ?_
        refine G.seq rfl ?_
        refine G.reg Tryd.func10 rfl ?_
        refine RW.pureS rfl rfl rfl rfl (OpP.assign rfl) ?_
        refine RW.done rfl ?_
        refine G.sub (ρ' := [(3, _), (4, _), (6, _), (7, _), (8, _), (9, _), (38, _), (53, _)]) ⟨rfl, rfl, rfl, rfl, rfl, rfl, rfl, rfl, trivial⟩ ?_
        refine G.block rfl rfl ?_
        refine G.loop (σ := Nat × Value × Value) (fun q => [(3, .pointer (some ⟨nb, 0, none⟩)), (4, .pointer (some ⟨db, 0, none⟩)), (6, q.2.1), (7, q.2.2), (8, .int .i64 (i : Nat)), (9, .int .i64 (q.1 : Nat))]) (fun q h' => ∃ C ls row, LkAt h1 h' C q.2.1 q.2.2 ls ∧ (q.1 ≤ 256 ∧ ls.length ≤ 40 + q.1 ∧ ∀ l ∈ ls, l.Sublist (List.range ss.length)) ∧ ls.Nodup ∧ ls[i]? = some cur ∧ rowG ss cur (256 - q.1) q.1 ls row = rowG ss cur 256 0 lists []) (fun q => 256 - q.1) ((0, .slice la lists.length lc, .slice sa (List.range lists.length).length sc)) rfl ⟨rfl, rfl, rfl, rfl, rfl, rfl, trivial⟩ ⟨C, lists, [], mk, ⟨Nat.zero_le _, by show _ ≤ 40 + 0; omega, hsl⟩, hLs.once, hcur, rfl⟩ ?_
        rintro ⟨b, vl, vs⟩ g2 ⟨C, ls, row, mk, ⟨hb256, hlb, hsl⟩, hnod, hcur2, hrow⟩ ih2
        try dsimp only
        dsimp only at mk hb256 hlb hcur2 hrow
        clear hc1 hc2 hc3 hv' hw hrowv hla hv4 hcell hsa
        obtain ⟨css, hc1, hc2, hc3⟩ := id mk.ls
        obtain ⟨la, lc, rfl, _⟩ := hc2.open
        have hso : OwnH g2 h1.size 3 1 vs (List.range ls.length).length ((List.range ls.length).map encN) := mk.so
        obtain ⟨sa, sc, rfl, _⟩ := hso.open
        have hrl : (List.range ls.length).length = ls.length := List.length_range
        have hil2 : i < ls.length := (List.getElem?_eq_some_iff.1 hcur2).1
        refine G.seq rfl ?_
        refine G.seq rfl ?_
        refine G.reg Tryd.func10 rfl ?_
        refine RW.pureS rfl rfl rfl rfl (OpP.move rfl) ?_
        refine RW.pureS rfl rfl rfl rfl (OpP.lss rfl rfl) ?_
        refine RW.done rfl ?_
        refine G.sub (ρ' := [(3, _), (4, _), (6, _), (7, _), (8, _), (9, _), (55, _)]) ⟨rfl, rfl, rfl, rfl, rfl, rfl, rfl, trivial⟩ ?_
        refine G.ite rfl rfl (fun hblt => ?_) (fun hblt => ?_)
        · have hng : NfaAt g2 O nb v ss st := hn.ext0 mk.ext (fun _ _ k => k)
          obtain ⟨m, hm2⟩ : ∃ m, 256 - b = m + 1 := ⟨255 - b, by omega⟩
          rw [hm2, rowG] at hrow
          have hrsp := rowStep_spec ss cur ls b hnod
          have hpre2 : (rowStep ss cur ls b).1 <+: L := by
            have := (rowG_spec ss cur m (b + 1) (rowStep ss cur ls b).1 (row ++ [(rowStep ss cur ls b).2]) hrsp.2.1).1
            rw [hrow] at this
            exact this.trans hpre
          have hbs := byte_step hLL hLlen hcL hnod hpre2
          obtain ⟨g', c', cs, hv', _, _, hrowv, _, ⟨w, rfl, hw⟩, _⟩ := mk.ls.put hcur2
          have hla : la = some ⟨g', 0, none⟩ := by cases hv'; rfl
          have hix : (List.range ls.length)[i]? = some i := by rw [List.getElem?_range hil2]
          obtain ⟨gg, c4, hv4, _, _, hcell, _, _⟩ := mk.so.at hix
          have hsa : sa = some ⟨gg, 0, none⟩ := by cases hv4; rfl
          have hwr : SlR eNat g2 (fun _ => False) w cur := SlR.less hw (fun _ k => k.elim)
          have hub : (UInt8.ofNat b).toNat = b := by simp; omega
          have hstep := step_calls (UInt8.ofNat b) hng hM.good hss hwr hnlt (by omega) (hb.2.2 _ _ hcsub)
          rw [hub] at hstep
          have hlsub := stepP_sub ss (UInt8.ofNat b) cur
          refine G.skip rfl ?_
          refine G.seq rfl ?_
          refine G.block rfl rfl ?_
          refine G.seq rfl ?_
          refine G.reg Tryd.func10 rfl ?_
          refine RW.pureS rfl rfl rfl rfl (OpP.move rfl) ?_
          refine RW.pureS rfl rfl rfl rfl (OpP.move rfl) ?_
          refine RW.pureS rfl rfl rfl rfl (OpP.move rfl) ?_
          refine RW.pureS rfl rfl rfl rfl (OpP.indexSlice Tryd.underlying67 H.sz36 rfl rfl i rfl hla (by omega)) ?_
          refine RW.pureS rfl rfl rfl rfl (OpP.load H.ag36 rfl (hrowv 0 _ rfl)) ?_
          refine RW.pureS rfl rfl rfl rfl (OpP.move rfl) ?_
          refine RW.pureS rfl rfl rfl rfl (OpP.convIn Tryd.underlying3 Tryd.underlying5 rfl (wrap_u8 ⟨by omega, by omega⟩)) ?_
          refine RW.opS rfl rfl rfl rfl (OpX.call (vs := [_, _, _]) Tryd.func24 rfl H.nm24 rfl (CallsH.toX (hstep))) ?_
          rintro w10 g3 ⟨ho3, e3⟩
          have mk3 := mk.ext0 e3
          have hkg : TabAt g3 (.pointer (some ⟨db, 0, none⟩)) d := .inr ⟨db, rfl, hk.ext0 mk3.ext⟩
          have hds := dstep_calls (i : Int) (UInt8.ofNat b) hkg (by omega)
          rw [hub] at hds
          generalize hl : stepP ss (UInt8.ofNat b) cur = l at *
          obtain ⟨l10a, l10c, rfl, _⟩ := (show OwnH g3 g2.size 3 1 w10 l.length (l.map encN) from ho3).open
          refine RW.pureS rfl rfl rfl rfl (OpP.assign rfl) ?_
          refine RW.done rfl ?_
          refine G.sub (ρ' := [(3, _), (4, _), (6, _), (7, _), (8, _), (9, _), (10, _), (55, _)]) ⟨rfl, rfl, rfl, rfl, rfl, rfl, rfl, rfl, trivial⟩ ?_
          refine G.seq rfl ?_
          refine G.reg Tryd.func10 rfl ?_
          refine RW.pureS rfl rfl rfl rfl (OpP.move rfl) ?_
          refine RW.pureS rfl rfl rfl rfl (OpP.move rfl) ?_
          refine RW.pureS rfl rfl rfl rfl (OpP.move rfl) ?_
          refine RW.pureS rfl rfl rfl rfl (OpP.indexSlice Tryd.underlying36 H.sz3 rfl rfl i rfl hsa (by omega)) ?_
          refine RW.pureS rfl rfl rfl rfl (OpP.load H.ag3 rfl (e3.cell (fun k => k) hcell)) ?_
          refine RW.pureS rfl rfl rfl rfl (OpP.move rfl) ?_
          refine RW.pureS rfl rfl rfl rfl (OpP.convIn Tryd.underlying3 Tryd.underlying5 rfl (wrap_u8 ⟨by omega, by omega⟩)) ?_
          refine RW.opS rfl rfl rfl rfl (OpX.call (vs := [_, _, _]) Tryd.func33 rfl H.nm33 rfl (CallsH.toX (hds))) ?_
          rintro _ g4 ⟨rfl, hg4⟩
          subst hg4
          have hdst : dstepA d (i : Int) (UInt8.ofNat b) = d.to i (UInt8.ofNat b) := by rw [dstepA, if_neg (by omega), Int.toNat_natCast]
          rw [hdst]
          rcases hbs with ⟨h0l, hto, heq⟩ | ⟨h1l, j, hto, hjL, hiff, hin, hout⟩
          · rw [hto]
            refine RW.pureS rfl rfl rfl rfl (OpP.assign rfl) ?_
            refine RW.done rfl ?_
            refine G.sub (ρ' := [(3, _), (4, _), (6, _), (7, _), (8, _), (9, _), (10, _), (11, _), (55, _)]) ⟨rfl, rfl, rfl, rfl, rfl, rfl, rfl, rfl, rfl, trivial⟩ ?_
            refine G.seq rfl ?_
            refine G.seq rfl ?_
            refine G.regTo1 [(85, .bool false)] [(3, _), (4, _), (6, _), (7, _), (8, _), (9, _), (10, _), (11, _), (55, _)] ⟨rfl, rfl, rfl, rfl, rfl, rfl, rfl, rfl, rfl, trivial⟩ Tryd.func10 rfl ?_ ?_
            · refine RW.pureS rfl rfl rfl rfl (OpP.move rfl) ?_
              refine RW.pureS rfl rfl rfl rfl (OpP.lss rfl rfl) ?_
              refine RW.pureS rfl rfl rfl rfl (OpP.move rfl) ?_
              refine RW.pureS rfl rfl rfl rfl (OpP.lenSlice Tryd.underlying36 rfl) ?_
              refine RW.pureS rfl rfl rfl rfl (OpP.eqlInt rfl rfl) ?_
              refine RW.pureS rfl rfl rfl rfl (OpP.neqBool Tryd.underlying4 rfl rfl) ?_
              refine RW.pureS rfl rfl rfl rfl (OpP.move rfl) ?_
              refine RW.know (d := 80) (b' := false) rfl ((by simp [h0l])) ?_
              refine RW.pureS rfl rfl rfl rfl (OpP.move rfl) ?_
              refine RW.pureS rfl rfl rfl rfl (OpP.move rfl) ?_
              refine RW.opS rfl rfl rfl rfl (OpX.call (vs := [_]) Tryd.func32 rfl H.nm32 rfl (CallsH.toX (states_calls hkg))) ?_
              rintro _ g5 ⟨rfl, hh5⟩
              refine RW.pureS rfl rfl rfl rfl (OpP.geq rfl rfl) ?_
              refine RW.pureS rfl rfl rfl rfl (OpP.pickF rfl rfl) ?_
              subst hh5
              refine RW.done rfl ?_
              exact ⟨rfl, at_bool rfl (by simp; omega), rfl, rfl, rfl, rfl, rfl, rfl, rfl, rfl, rfl, trivial⟩
            · refine G.cond rfl rfl (fun hc => absurd hc (by decide)) (fun _ => ?_)
              refine G.skip rfl ?_
              refine G.seq rfl ?_
              refine G.seq rfl ?_
              refine G.reg Tryd.func10 rfl ?_
              refine RW.pureS rfl rfl rfl rfl (OpP.move rfl) ?_
              refine RW.pureS rfl rfl rfl rfl (OpP.lss rfl rfl) ?_
              refine RW.done rfl ?_
              refine G.sub (ρ' := [(3, _), (4, _), (6, _), (7, _), (8, _), (9, _), (10, _), (11, _), (55, _), (85, _), (87, _)]) ⟨rfl, rfl, rfl, rfl, rfl, rfl, rfl, rfl, rfl, rfl, rfl, trivial⟩ ?_
              refine G.cond rfl rfl (fun _ => ?_) (fun hc => absurd hc (by decide))
              refine G.exit rfl rfl ?_
              refine G.reg Tryd.func10 rfl ?_
              refine RW.pureS rfl rfl rfl rfl (OpP.move rfl) ?_
              refine RW.pureS rfl rfl rfl rfl (OpP.add64 rfl rfl ⟨by omega, by omega⟩) ?_
              refine RW.pureS rfl rfl rfl rfl (OpP.assign rfl) ?_
              refine RW.done rfl ?_
              refine G.sub (ρ' := [(3, _), (4, _), (6, _), (7, _), (8, _), (9, _), (10, _), (11, _), (55, _), (85, _), (87, _)]) ⟨rfl, rfl, rfl, rfl, rfl, rfl, rfl, rfl, rfl, rfl, rfl, trivial⟩ ?_
              exact ih2 (b + 1, _, _) _ _ ⟨rfl, rfl, rfl, rfl, rfl, rfl, trivial⟩ ⟨C, ls, row ++ [(rowStep ss cur ls b).2], mk3, ⟨by show b + 1 ≤ 256; omega, by show _ ≤ 40 + (b + 1); omega, hsl⟩, hnod, hcur2, by show rowG ss cur (256 - (b + 1)) (b + 1) _ _ = _; rw [show 256 - (b + 1) = m by omega]; rw [heq] at hrow; exact hrow⟩ (by show 256 - (b + 1) < 256 - b; omega)
          · rw [hto]
            refine RW.pureS rfl rfl rfl rfl (OpP.assign rfl) ?_
            refine RW.done rfl ?_
            refine G.sub (ρ' := [(3, _), (4, _), (6, _), (7, _), (8, _), (9, _), (10, _), (11, _), (55, _)]) ⟨rfl, rfl, rfl, rfl, rfl, rfl, rfl, rfl, rfl, trivial⟩ ?_
            refine G.seq rfl ?_
            refine G.seq rfl ?_
            refine G.regTo1 [(85, .bool false)] [(3, _), (4, _), (6, _), (7, _), (8, _), (9, _), (10, _), (11, _), (55, _)] ⟨rfl, rfl, rfl, rfl, rfl, rfl, rfl, rfl, rfl, trivial⟩ Tryd.func10 rfl ?_ ?_
            · refine RW.pureS rfl rfl rfl rfl (OpP.move rfl) ?_
              refine RW.pureS rfl rfl rfl rfl (OpP.lss rfl rfl) ?_
              refine RW.pureS rfl rfl rfl rfl (OpP.move rfl) ?_
              refine RW.pureS rfl rfl rfl rfl (OpP.lenSlice Tryd.underlying36 rfl) ?_
              refine RW.pureS rfl rfl rfl rfl (OpP.eqlInt rfl rfl) ?_
              refine RW.pureS rfl rfl rfl rfl (OpP.neqBool Tryd.underlying4 rfl rfl) ?_
              refine RW.pureS rfl rfl rfl rfl (OpP.move rfl) ?_
              refine RW.know (d := 80) (b' := false) rfl ((by simp [h1l])) ?_
              refine RW.pureS rfl rfl rfl rfl (OpP.move rfl) ?_
              refine RW.pureS rfl rfl rfl rfl (OpP.move rfl) ?_
              refine RW.opS rfl rfl rfl rfl (OpX.call (vs := [_]) Tryd.func32 rfl H.nm32 rfl (CallsH.toX (states_calls hkg))) ?_
              rintro _ g5 ⟨rfl, hh5⟩
              refine RW.pureS rfl rfl rfl rfl (OpP.geq rfl rfl) ?_
              refine RW.pureS rfl rfl rfl rfl (OpP.pickF rfl rfl) ?_
              subst hh5
              refine RW.done rfl ?_
              exact ⟨rfl, at_bool rfl (by simp; omega), rfl, rfl, rfl, rfl, rfl, rfl, rfl, rfl, rfl, trivial⟩
            · refine G.cond rfl rfl (fun hc => absurd hc (by decide)) (fun _ => ?_)
              refine G.skip rfl ?_
              refine G.seq rfl ?_
              refine G.seq rfl ?_
              refine G.reg Tryd.func10 rfl ?_
              refine RW.pureS rfl rfl rfl rfl (OpP.move rfl) ?_
              refine RW.pureS rfl rfl rfl rfl (OpP.lss rfl rfl) ?_
              refine RW.done rfl ?_
              refine G.sub (ρ' := [(3, _), (4, _), (6, _), (7, _), (8, _), (9, _), (10, _), (11, _), (55, _), (85, _), (87, _)]) ⟨rfl, rfl, rfl, rfl, rfl, rfl, rfl, rfl, rfl, rfl, rfl, trivial⟩ ?_
              refine G.cond rfl rfl (fun hc => absurd hc (by simp)) (fun _ => ?_)
              refine G.skip rfl ?_
              refine G.seq rfl ?_
              refine G.reg Tryd.func10 rfl ?_
              refine RW.pureS rfl rfl rfl rfl (OpP.assign rfl) ?_
              refine RW.done rfl ?_
              refine G.sub (ρ' := [(3, _), (4, _), (6, _), (7, _), (8, _), (9, _), (10, _), (11, _), (12, _), (55, _), (85, _), (87, _)]) ⟨rfl, rfl, rfl, rfl, rfl, rfl, rfl, rfl, rfl, rfl, rfl, rfl, trivial⟩ ?_
              refine G.seq rfl ?_
              refine G.seq rfl ?_
              refine G.reg Tryd.func10 rfl ?_
              refine RW.pureS rfl rfl rfl rfl (OpP.assign rfl) ?_
              refine RW.done rfl ?_
              refine G.sub (ρ' := [(3, _), (4, _), (6, _), (7, _), (8, _), (9, _), (10, _), (11, _), (12, _), (13, _), (55, _), (85, _), (87, _)]) ⟨rfl, rfl, rfl, rfl, rfl, rfl, rfl, rfl, rfl, rfl, rfl, rfl, rfl, trivial⟩ ?_
              refine G.block rfl rfl ?_
              refine G.loop (σ := Nat × Bool) (fun q => [(3, .pointer (some ⟨nb, 0, none⟩)), (4, .pointer (some ⟨db, 0, none⟩)), (6, .slice la ls.length lc), (7, .slice sa (List.range ls.length).length sc), (8, .int .i64 (i : Nat)), (9, .int .i64 (b : Nat)), (10, .slice l10a l.length l10c), (11, .int .i64 (j : Nat)), (12, .bool q.2), (13, .int .i64 (q.1 : Nat))]) (fun q h' => h' = g4 ∧ q.1 ≤ ls.length ∧ (q.2 = true → l ∈ ls) ∧ (q.2 = false → ∀ y, y < q.1 → ls[y]? ≠ some l)) (fun q => ls.length - q.1) ((0, false)) rfl ⟨rfl, rfl, rfl, rfl, rfl, rfl, rfl, rfl, rfl, rfl, trivial⟩ ⟨rfl, Nat.zero_le _, (fun k => by cases k), fun _ y hy => by exact absurd hy (Nat.not_lt_zero _)⟩ ?_
              rintro ⟨x, had⟩ g5 ⟨hg5, hx, hT, hF⟩ ih3
              try dsimp only
              dsimp only at hx hT hF
              subst hg5
              refine G.seq rfl ?_
              refine G.seq rfl ?_
              refine G.regTo1 [(95, .bool (decide (x < ls.length) && !had))] [(3, _), (4, _), (6, _), (7, _), (8, _), (9, _), (10, _), (11, _), (12, _), (13, _)] ⟨rfl, rfl, rfl, rfl, rfl, rfl, rfl, rfl, rfl, rfl, trivial⟩ Tryd.func10 rfl ?_ ?_
              · refine RW.pureS rfl rfl rfl rfl (OpP.move rfl) ?_
                refine RW.pureS rfl rfl rfl rfl (OpP.move rfl) ?_
                refine RW.pureS rfl rfl rfl rfl (OpP.lenSlice Tryd.underlying67 rfl) ?_
                refine RW.pureS rfl rfl rfl rfl (OpP.lss rfl rfl) ?_
                refine RW.pureS rfl rfl rfl rfl (OpP.move rfl) ?_
                refine RW.split (d := 92) rfl (fun hg1 => ?_) (fun hg1 => ?_)
                · have hg1' := of_decide_eq_true hg1
                  refine RW.pureS rfl rfl rfl rfl (OpP.move rfl) ?_
                  refine RW.pureS rfl rfl rfl rfl (OpP.notB rfl) ?_
                  refine RW.pureS rfl rfl rfl rfl (OpP.pickT rfl rfl) ?_
                  refine RW.done rfl ?_
                  exact ⟨rfl, at_bool rfl (by rw [decide_eq_true (show x < ls.length by omega), Bool.true_and]), rfl, rfl, rfl, rfl, rfl, rfl, rfl, rfl, rfl, rfl, trivial⟩
                · have hg1' := of_decide_eq_false hg1
                  refine RW.skipS rfl rfl rfl rfl ?_
                  refine RW.skipS rfl rfl rfl rfl ?_
                  refine RW.pureS rfl rfl rfl rfl (OpP.pickF rfl rfl) ?_
                  refine RW.done rfl ?_
                  exact ⟨rfl, at_bool rfl (by rw [decide_eq_false (show ¬ x < ls.length by omega), Bool.false_and]), rfl, rfl, rfl, rfl, rfl, rfl, rfl, rfl, rfl, rfl, trivial⟩
              · refine G.cond rfl rfl (fun hc => ?_) (fun hc => ?_)
                · rw [Bool.and_eq_true] at hc
                  have hxl : x < ls.length := of_decide_eq_true hc.1
                  obtain ⟨y, hy⟩ : ∃ y, ls[x]? = some y := ⟨_, List.getElem?_eq_getElem hxl⟩
                  obtain ⟨gy, cy, csy, hvy, _, _, hrowy, _, ⟨wy, rfl, hwy⟩, _⟩ := mk3.ls.put hy
                  have hlay : la = some ⟨gy, 0, none⟩ := by cases hvy; rfl
                  have hixy : (List.range ls.length)[x]? = some x := by rw [List.getElem?_range hxl]
                  obtain ⟨ggy, cgy, hvgy, _, _, hcelly, _, _⟩ := mk3.so.at hixy
                  have hsay : sa = some ⟨ggy, 0, none⟩ := by cases hvgy; rfl
                  have ho3r : SlR eNat g5 (fun _ => False) (.slice l10a l.length l10c) l := OwE.read (h1 := fun _ => rfl) ho3 (fun _ _ k => k)
                  refine G.skip rfl ?_
                  refine G.seq rfl ?_
                  refine G.block rfl rfl ?_
                  refine G.seq rfl ?_
                  refine G.reg Tryd.func10 rfl ?_
                  refine RW.pureS rfl rfl rfl rfl (OpP.move rfl) ?_
                  refine RW.pureS rfl rfl rfl rfl (OpP.move rfl) ?_
                  refine RW.pureS rfl rfl rfl rfl (OpP.indexSlice Tryd.underlying67 H.sz36 rfl rfl x rfl hlay (by omega)) ?_
                  refine RW.pureS rfl rfl rfl rfl (OpP.load H.ag36 rfl (hrowy 0 _ rfl)) ?_
                  refine RW.pureS rfl rfl rfl rfl (OpP.move rfl) ?_
                  refine RW.opS rfl rfl rfl rfl (OpX.call (vs := [_, _]) Tryd.func35 rfl H.nm35 rfl (CallsH.toX (ints_calls hwy ho3r))) ?_
                  rintro _ g6 ⟨rfl, hg6⟩
                  subst hg6
                  have hone : decide (y = l) = decide ((x : Int) = (j : Int)) := by simp only [decide_eq_decide]; rw [hiff x y hy]; omega
                  refine RW.pureS rfl rfl rfl rfl (OpP.assign rfl) ?_
                  refine RW.done rfl ?_
                  refine G.sub (ρ' := [(3, _), (4, _), (6, _), (7, _), (8, _), (9, _), (10, _), (11, _), (12, _), (13, _), (14, _), (95, _)]) ⟨rfl, rfl, rfl, rfl, rfl, rfl, rfl, rfl, rfl, rfl, rfl, rfl, trivial⟩ ?_
                  refine G.seq rfl ?_
                  refine G.seq rfl ?_
                  refine G.reg Tryd.func10 rfl ?_
                  refine RW.pureS rfl rfl rfl rfl (OpP.move rfl) ?_
                  refine RW.pureS rfl rfl rfl rfl (OpP.move rfl) ?_
                  refine RW.pureS rfl rfl rfl rfl (OpP.move rfl) ?_
                  refine RW.pureS rfl rfl rfl rfl (OpP.indexSlice Tryd.underlying36 H.sz3 rfl rfl x rfl hsay (by omega)) ?_
                  refine RW.pureS rfl rfl rfl rfl (OpP.load H.ag3 rfl hcelly) ?_
                  refine RW.pureS rfl rfl rfl rfl (OpP.move rfl) ?_
                  refine RW.pureS rfl rfl rfl rfl (OpP.eqlInt rfl rfl) ?_
                  refine RW.pureS rfl rfl rfl rfl (OpP.neqBool Tryd.underlying4 rfl rfl) ?_
                  refine RW.done rfl ?_
                  refine G.sub (ρ' := [(3, _), (4, _), (6, _), (7, _), (8, _), (9, _), (10, _), (11, _), (12, _), (13, _), (14, _), (95, _), (111, _)]) ⟨rfl, rfl, rfl, rfl, rfl, rfl, rfl, rfl, rfl, rfl, rfl, rfl, rfl, trivial⟩ ?_
                  refine G.cond rfl rfl (fun hc => absurd hc (by rw [hone]; simp)) (fun _ => ?_)
                  refine G.skip rfl ?_
                  refine G.reg Tryd.func10 rfl ?_
                  refine RW.pureS rfl rfl rfl rfl (OpP.move rfl) ?_
                  refine RW.pureS rfl rfl rfl rfl (OpP.assign rfl) ?_
                  refine RW.done rfl ?_
                  refine G.sub (ρ' := [(3, _), (4, _), (6, _), (7, _), (8, _), (9, _), (10, _), (11, _), (12, _), (13, _), (14, _), (95, _), (111, _)]) ⟨rfl, rfl, rfl, rfl, rfl, rfl, rfl, rfl, rfl, rfl, rfl, rfl, rfl, trivial⟩ ?_
                  refine G.blkEnd ?_
                  refine G.reg Tryd.func10 rfl ?_
                  refine RW.pureS rfl rfl rfl rfl (OpP.move rfl) ?_
                  refine RW.pureS rfl rfl rfl rfl (OpP.add64 rfl rfl ⟨by omega, by omega⟩) ?_
                  refine RW.pureS rfl rfl rfl rfl (OpP.assign rfl) ?_
                  refine RW.done rfl ?_
                  refine G.sub (ρ' := [(3, _), (4, _), (6, _), (7, _), (8, _), (9, _), (10, _), (11, _), (12, _), (13, _), (14, _), (95, _), (111, _)]) ⟨rfl, rfl, rfl, rfl, rfl, rfl, rfl, rfl, rfl, rfl, rfl, rfl, rfl, trivial⟩ ?_
                  exact ih3 (x + 1, decide (y = l)) _ _ ⟨rfl, rfl, rfl, rfl, rfl, rfl, rfl, rfl, rfl, rfl, trivial⟩ ⟨rfl, hxl, fun k => by have k : decide (y = l) = true := k; have := of_decide_eq_true k; subst this; exact List.mem_of_getElem? hy, fun k z hz => by have k1 : decide (y = l) = false := k; have k2 := of_decide_eq_false k1; have hz : z < x + 1 := hz; rcases Nat.lt_or_ge z x with hzx | hzx; exact hF (by simpa using hc.2) z hzx; have : z = x := (by omega); subst this; rw [hy]; intro q; exact k2 (Option.some.inj q)⟩ (by show ls.length - (x + 1) < ls.length - x; omega)
                · rcases hhad : had with _ | _
                  · have hxe : x = ls.length := by
                      rw [hhad] at hc
                      have := of_decide_eq_false (by simpa using hc : decide (x < ls.length) = false)
                      omega
                    have hnm : l ∉ ls := fun hm => by
                      obtain ⟨z, hz⟩ := List.getElem?_of_mem hm
                      exact hF hhad z (by have := (List.getElem?_eq_some_iff.1 hz).1; omega) hz
                    obtain ⟨heq, hj⟩ := hout hnm
                    refine G.exit rfl rfl ?_
                    refine G.seq rfl ?_
                    refine G.reg Tryd.func10 rfl ?_
                    refine RW.pureS rfl rfl rfl rfl (OpP.move rfl) ?_
                    refine RW.pureS rfl rfl rfl rfl (OpP.notB rfl) ?_
                    refine RW.done rfl ?_
                    refine G.sub (ρ' := [(3, _), (4, _), (6, _), (7, _), (8, _), (9, _), (10, _), (11, _), (12, _), (13, _), (95, _), (114, _)]) ⟨rfl, rfl, rfl, rfl, rfl, rfl, rfl, rfl, rfl, rfl, rfl, rfl, trivial⟩ ?_
                    refine G.cond rfl rfl (fun _ => ?_) (fun hc => absurd hc (by simp))
                    have ls4 : OwX eLst (fun b => ¬ (C b ∨ but (Value.slice l10a l.length l10c).ownBlock b)) g5 h1.size 36 (.slice la ls.length lc) ls :=
                      mk3.ls.mv2 (Ext.refl (fun _ => False) _) (fun _ _ k => k) (fun _ _ k => k.elim) (fun b _ hb hC => hb (.inl hC))
                    clear hc1 hc2 hc3
                    obtain ⟨css, hc1, hc2, hc3⟩ := id ls4
                    have lty : ∀ b, (Value.slice la ls.length lc).ownBlock = some b → TyAt g5 b 36 := fun b hb => hc2.ty hb
                    have lge : ∀ b, (Value.slice la ls.length lc).ownBlock = some b → h1.size ≤ b := fun b hb => (hc2.lt hb).1
                    have lne : ∀ {b : Nat} {t : TypeId}, TyAt g5 b t → 36 ≠ t → ¬ but (Value.slice la ls.length lc).ownBlock b := fun kt ht e => (lty _ e.symm).ne kt ht rfl
                    have hzz := mk3.ext.size
                    refine G.reg Tryd.func10 rfl ?_
                    refine RW.pureS rfl rfl rfl rfl (OpP.move rfl) ?_
                    refine RW.pureS rfl rfl rfl rfl (OpP.move rfl) ?_
                    refine RW.opS rfl rfl rfl rfl (OpX.buildOnes (us := [_]) Tryd.underlying67 H.el36 rfl rfl (by decide) (by simp [Value.oneCell'])) ?_
                    rintro _ _ ⟨rfl, rfl⟩
                    refine RW.opS rfl rfl rfl rfl (OpX.appendNew Tryd.underlying67 H.el36 rfl rfl (hc2) rfl rfl (by first | decide | simp [Value.oneCell']) (by omega) (by decide) (by omega)) ?_
                    rintro v7 g7 ⟨ho7, hx7, hx7', hv7⟩
                    have hls7 : OwX eLst (fun b => ¬ (C b ∨ but (Value.slice l10a l.length l10c).ownBlock b)) g7 h1.size 36 v7 (ls ++ [l]) :=
                      OwX.pushed (h := g5) (v := .slice la ls.length lc) (css := css) (cs := [.slice l10a l.length l10c]) hc1 hc3 ho7 hx7 hv7 ⟨_, rfl, OwnH.shut2 (h1 := fun _ => rfl) ho3 (fun b hb k => by
                        rcases k with k | k
                        · exact lne (OwnH.ty ho3 hb) (by decide) k
                        · exact k (.inr hb.symm))⟩
                    have so7 : OwE encN g7 h1.size 3 (.slice sa (List.range ls.length).length sc) (List.range ls.length) := OwnH.ext hx7 mk3.so (fun b hb => lne (OwnH.ty mk3.so hb) (by decide))
                    have hso7 : OwnH g7 h1.size 3 1 (.slice sa (List.range ls.length).length sc) (List.range ls.length).length ((List.range ls.length).map encN) := so7
                    have hz7 := hx7.size
                    refine RW.pureS rfl rfl rfl rfl (OpP.move rfl) ?_
                    refine RW.pureS rfl rfl rfl rfl (OpP.move rfl) ?_
                    refine RW.opS rfl rfl rfl rfl (OpX.buildOnes (us := [_]) Tryd.underlying36 H.el3 rfl rfl (by decide) (by simp [Value.oneCell'])) ?_
                    rintro _ _ ⟨rfl, rfl⟩
                    refine RW.opS rfl rfl rfl rfl (OpX.appendNew Tryd.underlying36 H.el3 rfl rfl (hso7) rfl rfl (by first | decide | simp [Value.oneCell']) (by omega) (by decide) (by omega)) ?_
                    rintro v8 g8 ⟨ho8, hx8, hx8', hv8⟩
                    have hz8 := hx8.size
                    have slt : ∀ b, (Value.slice sa (List.range ls.length).length sc).ownBlock = some b → b < g2.size := fun b hb => (OwnH.lt mk.so hb).2
                    have sge : ∀ b, (Value.slice sa (List.range ls.length).length sc).ownBlock = some b → h1.size ≤ b := fun b hb => (OwnH.lt mk.so hb).1
                    have nge : ∀ b, (Value.slice l10a l.length l10c).ownBlock = some b → g2.size ≤ b := fun b hb => (OwnH.lt ho3 hb).1
                    have sty7 : ∀ b, (Value.slice sa (List.range ls.length).length sc).ownBlock = some b → TyAt g7 b 3 := fun b hb => OwnH.ty so7 hb
                    have sne : ∀ {b : Nat} {t : TypeId}, TyAt g7 b t → 3 ≠ t → ¬ but (Value.slice sa (List.range ls.length).length sc).ownBlock b := fun kt ht e => (sty7 _ e.symm).ne kt ht rfl
                    have vty7 : ∀ b, v7.ownBlock = some b → TyAt g7 b 36 := fun b hb => ho7.ty hb
                    have hCs : ∀ b, (C b ∨ but (Value.slice l10a l.length l10c).ownBlock b) → ¬ but (Value.slice sa (List.range ls.length).length sc).ownBlock b := fun b hC e => by
                      rcases hC with hC | hC
                      · exact mk3.cs b e.symm hC
                      · have h1' := slt b e.symm
                        have h2' := nge b hC.symm
                        omega
                    have cty5 : ∀ b, (C b ∨ but (Value.slice l10a l.length l10c).ownBlock b) → TyAt g5 b 3 := fun b hC => by
                      rcases hC with hC | hC
                      · exact mk3.cty b hC
                      · exact OwnH.ty ho3 hC.symm
                    have so8 : OwE encN g8 h1.size 3 v8 (List.range (ls ++ [l]).length) := by
                      rw [List.length_append, List.length_singleton, List.range_succ]
                      exact OwE.of (ys := [ls.length]) (n := (List.range ls.length).length) (by rw [hj] at ho8; exact ho8) rfl rfl rfl
                    have ls8 := hls7.mv2 (O' := fun b => ¬ (C b ∨ but (Value.slice l10a l.length l10c).ownBlock b)) hx8 (fun b hb => sne (vty7 b hb) (by decide)) (fun b _ hb hC => hCs b hC hb) (fun _ _ k => k)
                    have ext8 : Ext0 h1 g8 := ⟨by omega, fun b hb k => by
                      rw [hx8.block b (by omega) (fun e => by have := sge b e.symm; omega), hx7.block b (by omega) (fun e => by have := lge b e.symm; omega)]
                      exact mk3.ext.block b hb k⟩
                    have mk8 : LkAt h1 g8 (fun b => C b ∨ but (Value.slice l10a l.length l10c).ownBlock b) v7 v8 (ls ++ [l]) :=
                      ⟨ext8, ls8, so8, fun b hC => ((cty5 b hC).ext hx7 (lne (cty5 b hC) (by decide))).ext hx8 (hCs b hC), fun b hb hC => by
                        rcases hv8 b hb with e | e
                        · exact hCs b hC e.symm
                        · have := (cty5 b hC).lt; omega⟩
                    obtain ⟨v7a, v7c, rfl, _⟩ := ho7.open
                    obtain ⟨v8a, v8c, rfl, _⟩ := ho8.open
                    refine RW.pureS rfl rfl rfl rfl (OpP.assign rfl) ?_
                    refine RW.pureS rfl rfl rfl rfl (OpP.assign rfl) ?_
                    refine RW.done rfl ?_
                    refine G.sub (ρ' := [(3, _), (4, _), (6, _), (7, _), (8, _), (9, _), (10, _), (11, _), (12, _), (13, _), (95, _), (114, _)]) ⟨rfl, rfl, rfl, rfl, rfl, rfl, rfl, rfl, rfl, rfl, rfl, rfl, trivial⟩ ?_
                    refine G.blkEnd ?_
                    refine G.reg Tryd.func10 rfl ?_
                    refine RW.pureS rfl rfl rfl rfl (OpP.move rfl) ?_
                    refine RW.pureS rfl rfl rfl rfl (OpP.add64 rfl rfl ⟨by omega, by omega⟩) ?_
                    refine RW.pureS rfl rfl rfl rfl (OpP.assign rfl) ?_
                    refine RW.done rfl ?_
                    refine G.sub (ρ' := [(3, _), (4, _), (6, _), (7, _), (8, _), (9, _), (10, _), (11, _), (12, _), (13, _), (95, _), (114, _)]) ⟨rfl, rfl, rfl, rfl, rfl, rfl, rfl, rfl, rfl, rfl, rfl, rfl, trivial⟩ ?_
                    exact ih2 (b + 1, _, _) _ _ ⟨rfl, rfl, rfl, rfl, rfl, rfl, trivial⟩ ⟨_, ls ++ [l], row ++ [(rowStep ss cur ls b).2], mk8, ⟨by show b + 1 ≤ 256; omega, by show _ ≤ 40 + (b + 1); rw [List.length_append, List.length_singleton]; omega, fun x hx => by rcases List.mem_append.1 hx with k | k; exact hsl x k; rw [List.mem_singleton.1 k]; exact hlsub⟩, by rw [← heq]; exact hrsp.2.1, by rw [List.getElem?_append_left hil2]; exact hcur2, by show rowG ss cur (256 - (b + 1)) (b + 1) _ _ = _; rw [show 256 - (b + 1) = m by omega]; rw [heq] at hrow; exact hrow⟩ (by show 256 - (b + 1) < 256 - b; omega)
                  · have heq := hin (hT hhad)
                    refine G.exit rfl rfl ?_
                    refine G.seq rfl ?_
                    refine G.reg Tryd.func10 rfl ?_
                    refine RW.pureS rfl rfl rfl rfl (OpP.move rfl) ?_
                    refine RW.pureS rfl rfl rfl rfl (OpP.notB rfl) ?_
                    refine RW.done rfl ?_
                    refine G.sub (ρ' := [(3, _), (4, _), (6, _), (7, _), (8, _), (9, _), (10, _), (11, _), (12, _), (13, _), (95, _), (114, _)]) ⟨rfl, rfl, rfl, rfl, rfl, rfl, rfl, rfl, rfl, rfl, rfl, rfl, trivial⟩ ?_
                    refine G.cond rfl rfl (fun hc => absurd hc (by simp)) (fun _ => ?_)
                    refine G.skip rfl ?_
                    refine G.blkEnd ?_
                    refine G.reg Tryd.func10 rfl ?_
                    refine RW.pureS rfl rfl rfl rfl (OpP.move rfl) ?_
                    refine RW.pureS rfl rfl rfl rfl (OpP.add64 rfl rfl ⟨by omega, by omega⟩) ?_
                    refine RW.pureS rfl rfl rfl rfl (OpP.assign rfl) ?_
                    refine RW.done rfl ?_
                    refine G.sub (ρ' := [(3, _), (4, _), (6, _), (7, _), (8, _), (9, _), (10, _), (11, _), (12, _), (13, _), (95, _), (114, _)]) ⟨rfl, rfl, rfl, rfl, rfl, rfl, rfl, rfl, rfl, rfl, rfl, rfl, trivial⟩ ?_
                    exact ih2 (b + 1, _, _) _ _ ⟨rfl, rfl, rfl, rfl, rfl, rfl, trivial⟩ ⟨C, ls, row ++ [(rowStep ss cur ls b).2], mk3, ⟨by show b + 1 ≤ 256; omega, by show _ ≤ 40 + (b + 1); omega, hsl⟩, hnod, hcur2, by show rowG ss cur (256 - (b + 1)) (b + 1) _ _ = _; rw [show 256 - (b + 1) = m by omega]; rw [heq] at hrow; exact hrow⟩ (by show 256 - (b + 1) < 256 - b; omega)
        · have hbe : b = 256 := by omega
          subst hbe
          rw [Nat.sub_self, rowG] at hrow
          rw [← hrow] at hG2 hLs2
          dsimp only at hG2 hLs2
          refine G.exit rfl rfl ?_
          refine G.seq rfl ?_
          refine G.reg Tryd.func10 rfl ?_
          refine RW.pureS rfl rfl rfl rfl (OpP.move rfl) ?_
          refine RW.pureS rfl rfl rfl rfl (OpP.lenSlice Tryd.underlying67 rfl) ?_
          refine RW.pureS rfl rfl rfl rfl (OpP.gtr rfl rfl) ?_
          refine RW.done rfl ?_
          refine G.sub (ρ' := [(3, _), (4, _), (6, _), (7, _), (8, _), (9, _), (55, _), (125, _)]) ⟨rfl, rfl, rfl, rfl, rfl, rfl, rfl, rfl, trivial⟩ ?_
          refine G.ite rfl rfl (fun hbig40 => ?_) (fun hbig40 => ?_)
          · have e0 := e1.trans mk.ext
            refine G.seq rfl ?_
            refine G.reg Tryd.func10 rfl ?_
            refine RW.opS rfl rfl rfl rfl (OpX.call (vs := []) Tryd.func27 rfl H.nm27 rfl (CallsH.toX (tabled_calls (hg.ext e0 (fun _ k => k.elim)) e0.size (htens.ext0 e0)))) ?_
            rintro _ h9 ⟨rfl, e9⟩
            refine RW.pureS rfl rfl rfl rfl (OpP.assign rfl) ?_
            refine RW.done rfl ?_
            refine G.sub (ρ' := [(2, _), (3, _), (4, _), (6, _), (7, _), (8, _), (9, _), (55, _), (125, _)]) ⟨rfl, rfl, rfl, rfl, rfl, rfl, rfl, rfl, rfl, trivial⟩ ?_
            refine G.ret Tryd.func10 rfl rfl ?_
            exact ⟨_, rfl, rfl, e0.trans e9⟩
          · refine G.skip rfl ?_
            refine G.blkEnd ?_
            refine G.reg Tryd.func10 rfl ?_
            refine RW.pureS rfl rfl rfl rfl (OpP.move rfl) ?_
            refine RW.pureS rfl rfl rfl rfl (OpP.add64 rfl rfl ⟨by omega, by omega⟩) ?_
            refine RW.pureS rfl rfl rfl rfl (OpP.assign rfl) ?_
            refine RW.done rfl ?_
            refine G.sub (ρ' := [(3, _), (4, _), (6, _), (7, _), (8, _), (9, _), (55, _), (125, _)]) ⟨rfl, rfl, rfl, rfl, rfl, rfl, rfl, rfl, trivial⟩ ?_
            exact ih (i + 1, _, _) _ _ ⟨rfl, rfl, rfl, rfl, rfl, trivial⟩ ⟨C, ls, _, _, mk, ⟨hil2, by omega, hsl⟩, by simp [hnl], hLs2, by show dmakeG ss (2002 - (i + 1)) (i + 1) _ _ _ = _; rw [show 2002 - (i + 1) = n by omega]; exact hG2⟩ (by show 41 - (i + 1) < 41 - i; omega)
      · have hie : i = lists.length := by omega
        obtain ⟨n, hnn⟩ : ∃ n, 2002 - i = n + 1 := ⟨2001 - i, by omega⟩
        have hnone : lists[i]? = none := List.getElem?_eq_none (by omega)
        rw [hnn, dmakeG, hnone] at hG
        simp only [Option.some.injEq] at hG
        have hdn : d.next.length = lists.length := by rw [← hG]; show next.length = _; omega
        have e0 := e1.trans mk.ext
        refine G.exit rfl rfl ?_
        refine G.seq rfl ?_
        refine G.regToX (fun (_u : Unit) (h' : Heap) => Ext0 h0 h') (fun (_u : Unit) => [(2, .bool true)]) [(3, _), (4, _), (6, _), (7, _), (8, _), (38, _)] ⟨rfl, rfl, rfl, rfl, rfl, rfl, trivial⟩ Tryd.func10 rfl ?_ ?_
        · refine RW.pureS rfl rfl rfl rfl (OpP.move rfl) ?_
          refine RW.opS rfl rfl rfl rfl (OpX.call (vs := [_]) Tryd.func32 rfl H.nm32 rfl (CallsH.toX (states_calls hkg))) ?_
          rintro _ g5 ⟨rfl, hh5⟩
          refine RW.pureS rfl rfl rfl rfl (OpP.move rfl) ?_
          refine RW.pureS rfl rfl rfl rfl (OpP.lenSlice Tryd.underlying67 rfl) ?_
          refine RW.pureS rfl rfl rfl rfl (OpP.eqlInt rfl rfl) ?_
          refine RW.pureS rfl rfl rfl rfl (OpP.move rfl) ?_
          subst hh5
          refine RW.know (d := 132) (b' := true) rfl ((by simp [hdn])) ?_
          refine RW.opS rfl rfl rfl rfl (OpX.call (vs := []) Tryd.func27 rfl H.nm27 rfl (CallsH.toX (tabled_calls (hg.ext e0 (fun _ k => k.elim)) e0.size (htens.ext0 e0)))) ?_
          rintro _ h9 ⟨rfl, e9⟩
          refine RW.pureS rfl rfl rfl rfl (OpP.pickT rfl rfl) ?_
          refine RW.pureS rfl rfl rfl rfl (OpP.assign rfl) ?_
          refine RW.done rfl ?_
          exact ⟨(), e0.trans e9, at_bool rfl (rfl), rfl, rfl, rfl, rfl, rfl, rfl, trivial⟩
        · rintro _ h9 e9
          refine G.ret Tryd.func10 rfl rfl ?_
          exact ⟨_, rfl, rfl, e9⟩

end Go.Proofs.YtlegopbpofofgaaDoor
