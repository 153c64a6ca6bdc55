/- Plain words, the logic of walks, and walks that the statement's proof leans on (part 20). -/
import Derived.Test.YtlegopbpofofgaaDoorQa
import Derived.Test.YtlegopbpofofgaaDoorQb
import Derived.Test.YtlegopbpofofgaaDoorQc
import Derived.Test.YtlegopbpofofgaaDoorQd
import Derived.Test.YtlegopbpofofgaaDoorQe
import Derived.Test.YtlegopbpofofgaaDoorQf
import Derived.Test.YtlegopbpofofgaaDoorQg
import Derived.Test.YtlegopbpofofgaaDoorQh
import Derived.Test.YtlegopbpofofgaaDoorQi
import Derived.Test.YtlegopbpofofgaaDoorQj
import Derived.Test.YtlegopbpofofgaaDoorQk
import Derived.Test.YtlegopbpofofgaaDoorQl
import Derived.Test.YtlegopbpofofgaaDoorQm
import Derived.Test.YtlegopbpofofgaaDoorQn
import Derived.Test.YtlegopbpofofgaaDoorQo
import Derived.Test.YtlegopbpofofgaaDoorQp
import Derived.Test.YtlegopbpofofgaaDoorQq
import Derived.Test.YtlegopbpofofgaaDoorQr
import Derived.Test.YtlegopbpofofgaaDoorQs

/- What a state of a table says of texts; which states say anything. -/
namespace Go.Proofs.YtlegopbpofofgaaDoor
open Go

/-- The state behind a text (-1: none). -/
def Tab.go (d : Tab) : By → Int → Int
  | [], s => s
  | c :: l, s => Tab.go d l (if s < 0 then -1 else d.to s.toNat c)
/-- The rule of a text, from a state on. -/
def Tab.says (d : Tab) (s : Int) (w : By) : Int := if d.go w s < 0 then -1 else d.ru (d.go w s).toNat
theorem go_neg (d : Tab) : ∀ (w : By) (s : Int), s < 0 → d.go w s < 0
  | [], s, h => h
  | c :: l, s, h => by
    rw [Tab.go, if_pos h]
    exact go_neg d l (-1) (by decide)
theorem says_neg (d : Tab) (w : By) {s : Int} (h : s < 0) : d.says s w = -1 := by rw [Tab.says, if_pos (go_neg d w s h)]
theorem says_nil (d : Tab) (k : Nat) : d.says (k : Int) [] = d.ru k := by
  rw [Tab.says, Tab.go, if_neg (by omega), Int.toNat_natCast]
theorem says_cons (d : Tab) (k : Nat) (c : UInt8) (w : By) : d.says (k : Int) (c :: w) = d.says (d.to k c) w := by
  have h : ¬ ((k : Int) < 0) := by omega
  rw [Tab.says, Tab.says, Tab.go, if_neg h, Int.toNat_natCast]

def Alive (d : Tab) (k : Nat) : Prop := ∃ w, 0 ≤ d.says (k : Int) w
/-- What the list says is so. -/
def LiveSound (d : Tab) (out : List Bool) : Prop := ∀ k : Nat, out.getD k false = true → Alive d k

theorem row_to {d : Tab} {k : Nat} {t : Int} (h : t ∈ d.row k) : ∃ c : UInt8, d.to k c = t := by
  unfold Tab.row at h
  split at h
  · rename_i r hr
    obtain ⟨i, hi⟩ := List.getElem?_of_mem h
    have hl := (List.getElem?_eq_some_iff.1 hi).1
    rw [r.len] at hl
    refine ⟨UInt8.ofNat i, ?_⟩
    have hc : (UInt8.ofNat i).toNat = i := by simp; omega
    unfold Tab.to
    rw [hr]
    simp only
    rw [hc, List.getD_eq_getElem?_getD, hi]; rfl
  · cases h
theorem to_row {d : Tab} {k : Nat} (c : UInt8) (h : k < d.next.length) : d.to k c ∈ d.row k := by
  have hr : d.next[k]? = some (d.next[k]'h) := List.getElem?_eq_getElem _
  obtain ⟨x, hx, he, hm⟩ := (d.next[k]'h).at c
  unfold Tab.to Tab.row
  rw [hr]
  simp only
  rw [he]; exact hm

theorem liveAt_sound {d : Tab} {out : List Bool} (h : LiveSound d out) (k : Nat) (ha : liveAt d out k = true) : Alive d k := by
  unfold liveAt at ha
  rcases Bool.or_eq_true _ _ ▸ ha with e | e
  · exact ⟨[], by rw [says_nil]; exact of_decide_eq_true e⟩
  · obtain ⟨t, ht, hl⟩ := List.any_eq_true.1 e
    unfold liveTo at hl
    rw [Bool.and_eq_true] at hl
    have h0 := of_decide_eq_true hl.1
    obtain ⟨c, hc⟩ := row_to ht
    obtain ⟨w, hw⟩ := h t.toNat hl.2
    refine ⟨c :: w, ?_⟩
    rw [says_cons, hc]
    rwa [Int.toNat_of_nonneg h0] at hw
theorem set_sound {d : Tab} {out : List Bool} (h : LiveSound d out) (k : Nat) : LiveSound d (out.set k (liveAt d out k)) := by
  intro j hj
  by_cases e : k = j
  · subst e
    rw [List.getD_eq_getElem?_getD] at hj
    by_cases hk : k < out.length
    · rw [List.getElem?_set_self hk] at hj
      exact liveAt_sound h k hj
    · rw [List.getElem?_eq_none (by simp; omega)] at hj; cases hj
  · rw [List.getD_eq_getElem?_getD, List.getElem?_set_ne e, ← List.getD_eq_getElem?_getD] at hj
    exact h j hj
theorem livePass_sound {d : Tab} : ∀ (n k : Nat) (out : List Bool) (ag : Bool), LiveSound d out → LiveSound d (livePass d n k out ag).1
  | 0, _, _, _, h => h
  | n + 1, k, out, ag, h => by
    rw [livePass]
    split
    · exact livePass_sound n (k + 1) out ag h
    · exact livePass_sound n (k + 1) _ _ (set_sound h k)

/-- A pass that turns nothing: all that lives is there. -/
theorem livePass_still {d : Tab} : ∀ (n k : Nat) (out : List Bool) (ag : Bool), k + n ≤ out.length → (livePass d n k out ag).2 = false → (livePass d n k out ag).1 = out ∧ ∀ j, k ≤ j → j < k + n → out.getD j false = false → liveAt d out j = false
  | 0, _, _, _, _, _ => ⟨rfl, fun j h1 h2 => by omega⟩
  | n + 1, k, out, ag, hk, h => by
    rw [livePass] at h ⊢
    split at h
    · rename_i hg
      rw [if_pos hg]
      obtain ⟨h1, h2⟩ := livePass_still n (k + 1) out ag (by omega) h
      exact ⟨h1, fun j hj1 hj2 hj3 => by
        by_cases e : j = k
        · subst e; rw [hg] at hj3; cases hj3
        · exact h2 j (by omega) (by omega) hj3⟩
    · rename_i hg
      rw [if_neg hg]
      have hf : out[k]? = some false := by
        rw [List.getD_eq_getElem?_getD, List.getElem?_eq_getElem (by omega)] at hg
        rw [List.getElem?_eq_getElem (by omega)]
        simpa using hg
      obtain ⟨h1, h2⟩ := livePass_still n (k + 1) _ _ (by simp; omega) h
      have hb : liveAt d out k = false := by
        cases hb : liveAt d out k with
        | false => rfl
        | true =>
          exfalso
          rw [hb, Bool.or_true] at h
          have hmono : ∀ (n k : Nat) (out : List Bool), (livePass d n k out true).2 = true := fun n => by
            induction n with
            | zero => intro k out; rfl
            | succ n ih => intro k out; rw [livePass]; split <;> simp [ih]
          rw [hmono] at h; cases h
      have hset : out.set k (liveAt d out k) = out := by
        rw [hb]
        apply List.ext_getElem?
        intro j
        by_cases e : k = j
        · subst e; rw [List.getElem?_set_self (by omega), hf]
        · rw [List.getElem?_set_ne e]
      rw [hset] at h1 h2
      rw [hset]
      exact ⟨h1, fun j hj1 hj2 hj3 => by
        by_cases e : j = k
        · subst e; exact hb
        · exact h2 j (by omega) (by omega) hj3⟩

def LiveClosed (d : Tab) (out : List Bool) : Prop := ∀ k, k < d.next.length → out.getD k false = false → liveAt d out k = false
theorem liveG_spec {d : Tab} : ∀ (n : Nat) (out : List Bool), out.length = d.next.length → falses out < n → LiveSound d out → LiveSound d (liveG d n out) ∧ LiveClosed d (liveG d n out)
  | 0, _, _, h, _ => absurd h (Nat.not_lt_zero _)
  | n + 1, out, hl, hf, hs => by
    have hless := livePass_less d d.next.length 0 out false (by omega)
    have hsp := livePass_sound d.next.length 0 out false hs
    rw [liveG]
    split
    · rename_i ht
      rcases hless.2 ht with e | e
      · cases e
      · exact liveG_spec n _ (by rw [livePass_len]; exact hl) (by omega) hsp
    · rename_i ht
      have hst := livePass_still d.next.length 0 out false (by omega) (by simpa using ht)
      rw [hst.1]
      exact ⟨hs, fun k hk hko => hst.2 k (Nat.zero_le _) (by omega) hko⟩
theorem closed_alive {d : Tab} {out : List Bool} (hok : d.Ok) (h : LiveClosed d out) : ∀ (w : By) (k : Nat), k < d.next.length → 0 ≤ d.says (k : Int) w → out.getD k false = true
  | [], k, hk, hw => by
    rw [says_nil] at hw
    cases ho : out.getD k false with
    | true => rfl
    | false =>
      have := h k hk ho
      unfold liveAt at this
      rw [decide_eq_true hw] at this
      cases this
  | c :: w, k, hk, hw => by
    rw [says_cons] at hw
    have ht := Tab.to_lt hok (s := k) c
    have h0 : 0 ≤ d.to k c := by
      by_cases e : d.to k c < 0
      · rw [says_neg d w e] at hw; omega
      · omega
    obtain ⟨t, htt⟩ := Int.eq_ofNat_of_zero_le h0
    rw [htt] at hw
    have ih := closed_alive hok h w t (by omega) hw
    cases ho : out.getD k false with
    | true => rfl
    | false =>
      have := h k hk ho
      unfold liveAt at this
      rw [Bool.or_eq_false_iff] at this
      have h2 := List.any_eq_false.1 this.2 _ (to_row c hk)
      unfold liveTo at h2
      rw [htt, Int.toNat_natCast, ih] at h2
      simp at h2
theorem liveP_spec {d : Tab} (hok : d.Ok) {k : Nat} (hk : k < d.next.length) : (liveP d).getD k false = true ↔ Alive d k := by
  have h := liveG_spec (d := d) (d.next.length + 1) (List.replicate d.next.length false) (by simp) (by
    have : falses (List.replicate d.next.length false) ≤ d.next.length := by unfold falses; exact Nat.le_trans (List.length_filter_le _ _) (by simp)
    omega) (fun k hk => by
      rw [List.getD_eq_getElem?_getD, List.getElem?_replicate] at hk
      split at hk <;> cases hk)
  exact ⟨h.1 k, fun ⟨w, hw⟩ => closed_alive hok h.2 w k hk hw⟩

end Go.Proofs.YtlegopbpofofgaaDoor

/- What classes says: which states say the same of all texts. -/
namespace Go.Proofs.YtlegopbpofofgaaDoor
open Go

structure PassKey (d : Tab) (live : List Bool) (cls : List Int) (k : Nat) (seen : List (List Int)) (after : List Int) : Prop where
  len : after.length = k
  once : seen.Nodup
  at_ : ∀ j, j < k → ∃ i : Nat, after[j]? = some (i : Int) ∧ seen[i]? = some (stKey d live cls j)
theorem findK_none : ∀ (ls : List (List Int)) (i : Nat) (l : List Int), findK i ls l = none → l ∉ ls
  | [], i, l, _ => List.not_mem_nil
  | x :: r, i, l, h => by
    rw [findK] at h
    split at h
    · cases h
    · rename_i e
      have := findK_none r (i + 1) l h
      simp only [List.mem_cons, not_or]
      exact ⟨e, this⟩
theorem classPass_key {d : Tab} {live : List Bool} {cls : List Int} : ∀ (n k : Nat) (seen : List (List Int)) (after : List Int), PassKey d live cls k seen after → PassKey d live cls (k + n) (classPass d live cls n k seen after).1 (classPass d live cls n k seen after).2
  | 0, k, seen, after, h => h
  | n + 1, k, seen, after, h => by
    rw [classPass, show k + (n + 1) = (k + 1) + n by omega]
    split
    · rename_i i hi
      have hi' := findK_some seen 0 i _ hi
      refine classPass_key n (k + 1) _ _ ⟨by simp [h.len], h.once, fun j hj => ?_⟩
      by_cases e : j = k
      · subst e
        refine ⟨i, ?_, hi'.2⟩
        rw [← h.len, List.getElem?_concat_length]
      · obtain ⟨i', h1, h2⟩ := h.at_ j (by omega)
        exact ⟨i', by rw [List.getElem?_append_left (by rw [h.len]; omega)]; exact h1, h2⟩
    · rename_i hi
      have hno := findK_none seen 0 _ hi
      refine classPass_key n (k + 1) _ _ ⟨by simp [h.len], List.nodup_append.2 ⟨h.once, by simp, fun a ha b hb e => ?_⟩, fun j hj => ?_⟩
      · have : b = stKey d live cls k := by simpa using hb
        rw [e, this] at ha
        exact hno ha
      · by_cases e : j = k
        · subst e
          refine ⟨seen.length, ?_, by rw [List.getElem?_concat_length]⟩
          rw [← h.len, List.getElem?_concat_length]
        · obtain ⟨i', h1, h2⟩ := h.at_ j (by omega)
          exact ⟨i', by rw [List.getElem?_append_left (by rw [h.len]; omega)]; exact h1, by rw [List.getElem?_append_left (List.getElem?_eq_some_iff.1 h2).1]; exact h2⟩
/-- After a pass two states have one number if and only if they have one key. -/
theorem classPass_iff {d : Tab} {live : List Bool} {cls : List Int} {s t : Nat} (hs : s < d.next.length) (ht : t < d.next.length) :
    (classPass d live cls d.next.length 0 [] []).2.getD s 0 = (classPass d live cls d.next.length 0 [] []).2.getD t 0 ↔ stKey d live cls s = stKey d live cls t := by
  have h := classPass_key (d := d) (live := live) (cls := cls) d.next.length 0 [] [] ⟨rfl, by simp, fun j hj => absurd hj (Nat.not_lt_zero _)⟩
  rw [Nat.zero_add] at h
  obtain ⟨i, h1, h2⟩ := h.at_ s hs
  obtain ⟨j, h3, h4⟩ := h.at_ t ht
  rw [List.getD_eq_getElem?_getD, List.getD_eq_getElem?_getD, h1, h3]
  constructor
  · intro e
    have : i = j := by
      have e' : (i : Int) = (j : Int) := e
      omega
    subst this
    rw [h2] at h4
    exact Option.some.inj h4
  · intro e
    rw [← e] at h4
    have hi := (List.getElem?_eq_some_iff.1 h2)
    have hj := (List.getElem?_eq_some_iff.1 h4)
    obtain ⟨hi1, hi2⟩ := hi
    obtain ⟨hj1, hj2⟩ := hj
    have : i = j := by
      rcases Nat.lt_trichotomy i j with e | e | e
      · exact absurd (hi2.trans hj2.symm) (List.pairwise_iff_getElem.1 h.once i j hi1 hj1 e)
      · exact e
      · exact absurd (hj2.trans hi2.symm) (List.pairwise_iff_getElem.1 h.once j i hj1 hi1 e)
    subst this; rfl

end Go.Proofs.YtlegopbpofofgaaDoor

/- classes tells apart just those states that some text tells apart. -/
namespace Go.Proofs.YtlegopbpofofgaaDoor
open Go

theorem covers_once : ∀ (m : Nat) (l : List Int), Covers m l → l.length = m → l.Nodup
  | 0, l, _, hl => by rw [List.length_eq_zero_iff.1 hl]; exact List.Pairwise.nil
  | m + 1, l, h, hl => by
    have hm := h m (Nat.lt_succ_self m)
    have h1 : Covers m (l.erase (m : Int)) := fun i hi => (List.mem_erase_of_ne (by omega)).2 (h i (by omega))
    have h3 := List.length_erase_of_mem hm
    have h2 := covers_once m _ h1 (by omega)
    have hno : (m : Int) ∉ l.erase (m : Int) := fun hin => by
      have h4 : Covers m ((l.erase (m : Int)).erase (m : Int)) := fun i hi => (List.mem_erase_of_ne (by omega)).2 (h1 i hi)
      have h5 := covers_len _ _ h4
      have h6 := List.length_erase_of_mem hin
      have h7 := List.length_pos_of_mem hin
      omega
    exact (List.perm_cons_erase hm).nodup_iff.2 (List.nodup_cons.2 ⟨hno, h2⟩)

theorem row_get {d : Tab} {s : Nat} (hs : s < d.next.length) (c : UInt8) : (d.row s)[c.toNat]? = some (d.to s c) := by
  have hr : d.next[s]? = some (d.next[s]'hs) := List.getElem?_eq_getElem _
  obtain ⟨x, hx, he, _⟩ := (d.next[s]'hs).at c
  unfold Tab.row Tab.to
  rw [hr]
  simp only
  rw [he]; exact hx
theorem row_len {d : Tab} {s : Nat} (hs : s < d.next.length) : (d.row s).length = 256 := by
  have hr : d.next[s]? = some (d.next[s]'hs) := List.getElem?_eq_getElem _
  unfold Tab.row
  rw [hr]
  exact (d.next[s]'hs).len
theorem row_map {d : Tab} {s t : Nat} (hs : s < d.next.length) (ht : t < d.next.length) (f : Int → Int) : (d.row s).map f = (d.row t).map f ↔ ∀ c : UInt8, f (d.to s c) = f (d.to t c) := by
  constructor
  · intro e c
    have := congrArg (fun l => l[c.toNat]?) e
    simp only [List.getElem?_map, row_get hs c, row_get ht c, Option.map_some, Option.some.injEq] at this
    exact this
  · intro h
    apply List.ext_getElem?
    intro i
    by_cases hi : i < 256
    · have hc : (UInt8.ofNat i).toNat = i := by simp; omega
      have h1 := row_get hs (UInt8.ofNat i)
      have h2 := row_get ht (UInt8.ofNat i)
      rw [hc] at h1 h2
      rw [List.getElem?_map, List.getElem?_map, h1, h2, Option.map_some, Option.map_some, h]
    · rw [List.getElem?_eq_none (by rw [List.length_map, row_len hs]; omega), List.getElem?_eq_none (by rw [List.length_map, row_len ht]; omega)]

def Alike (d : Tab) (a b : Int) : Prop := ∀ w, d.says a w = d.says b w
theorem says_ge {d : Tab} (hok : d.Ok) (a : Int) (w : By) : -1 ≤ d.says a w := by
  unfold Tab.says
  split
  · omega
  · unfold Tab.ru
    rw [List.getD_eq_getElem?_getD]
    cases h : d.rule[(d.go w a).toNat]? with
    | none => decide
    | some x => exact (hok.ru x (List.mem_of_getElem? h)).1
/-- A state that is none, or does not live. -/
theorem dead_iff {d : Tab} (hok : d.Ok) {a : Int} (ha : a < d.next.length) : (a < 0 ∨ (liveP d).getD a.toNat false = false) ↔ ∀ w, d.says a w = -1 := by
  constructor
  · intro h w
    rcases h with h | h
    · exact says_neg d w h
    · by_cases hn : a < 0
      · exact says_neg d w hn
      · obtain ⟨k, rfl⟩ := Int.eq_ofNat_of_zero_le (show 0 ≤ a by omega)
        have hl := liveP_spec hok (k := k) (by omega)
        have hg := says_ge hok (k : Int) w
        by_cases hw : 0 ≤ d.says (k : Int) w
        · rw [Int.toNat_natCast, hl.2 ⟨w, hw⟩] at h; cases h
        · omega
  · intro h
    by_cases hn : a < 0
    · exact .inl hn
    · right
      obtain ⟨k, rfl⟩ := Int.eq_ofNat_of_zero_le (show 0 ≤ a by omega)
      have hl := liveP_spec hok (k := k) (by omega)
      rw [Int.toNat_natCast]
      cases hb : (liveP d).getD k false with
      | false => rfl
      | true =>
        obtain ⟨w, hw⟩ := hl.1 hb
        have := h w; omega

structure ClsOk (d : Tab) (cls : List Int) : Prop where
  len : cls.length = d.next.length
  ge : ∀ k, -1 ≤ cls.getD k 0
  alike : ∀ s t : Nat, s < d.next.length → t < d.next.length → Alike d s t → cls.getD s 0 = cls.getD t 0
  rule : ∀ s t : Nat, s < d.next.length → t < d.next.length → cls.getD s 0 = cls.getD t 0 → d.ru s = d.ru t
theorem behind_alike {d : Tab} (hok : d.Ok) {cls : List Int} (k : ClsOk d cls) {a b : Int} (ha : a < d.next.length) (hb : b < d.next.length) (h : Alike d a b) : behindV (liveP d) cls a = behindV (liveP d) cls b := by
  by_cases hd : a < 0 ∨ (liveP d).getD a.toNat false = false
  · have hd' : b < 0 ∨ (liveP d).getD b.toNat false = false := (dead_iff hok hb).2 fun w => by rw [← h w]; exact (dead_iff hok ha).1 hd w
    rw [behindV, if_pos hd, behindV, if_pos hd']
  · have hd' : ¬ (b < 0 ∨ (liveP d).getD b.toNat false = false) := fun e => hd ((dead_iff hok ha).2 fun w => by rw [h w]; exact (dead_iff hok hb).1 e w)
    rw [behindV, if_neg hd, behindV, if_neg hd']
    have ha0 : 0 ≤ a := by
      by_cases e : a < 0
      · exact absurd (.inl e) hd
      · omega
    have hb0 : 0 ≤ b := by
      by_cases e : b < 0
      · exact absurd (.inl e) hd'
      · omega
    exact k.alike a.toNat b.toNat (by omega) (by omega) (by rw [Int.toNat_of_nonneg ha0, Int.toNat_of_nonneg hb0]; exact h)
theorem key_alike {d : Tab} (hok : d.Ok) {cls : List Int} (k : ClsOk d cls) {s t : Nat} (hs : s < d.next.length) (ht : t < d.next.length) (h : Alike d s t) : stKey d (liveP d) cls s = stKey d (liveP d) cls t := by
  unfold stKey
  rw [k.alike s t hs ht h, (row_map hs ht _).2 fun c => behind_alike hok k (Tab.to_lt hok c).2 (Tab.to_lt hok c).2 fun w => by rw [← says_cons, ← says_cons]; exact h (c :: w)]

end Go.Proofs.YtlegopbpofofgaaDoor

/- classes tells apart just those states that some text tells apart: the rounds. -/
namespace Go.Proofs.YtlegopbpofofgaaDoor
open Go

theorem key_head {d : Tab} {live : List Bool} {cls : List Int} {s t : Nat} (h : stKey d live cls s = stKey d live cls t) : cls.getD s 0 = cls.getD t 0 := by
  unfold stKey at h
  exact (List.cons.inj h).1
theorem pass_cls {d : Tab} (hok : d.Ok) {cls : List Int} (k : ClsOk d cls) : ClsOk d (classPass d (liveP d) cls d.next.length 0 [] []).2 := by
  have hend := classPass_end d (liveP d) cls
  refine ⟨hend.len, fun j => ?_, fun s t hs ht h => (classPass_iff hs ht).2 (key_alike hok k hs ht h), fun s t hs ht h => k.rule s t hs ht (key_head ((classPass_iff hs ht).1 h))⟩
  rw [List.getD_eq_getElem?_getD]
  cases hx : (classPass d (liveP d) cls d.next.length 0 [] []).2[j]? with
  | none => decide
  | some x => have := hend.bound x (List.mem_of_getElem? hx); show -1 ≤ x; omega
theorem ru_getD {d : Tab} (hok : d.Ok) {s : Nat} (hs : s < d.next.length) : d.rule.getD s 0 = d.ru s := by
  have hl := hok.len
  unfold Tab.ru
  rw [List.getD_eq_getElem?_getD, List.getD_eq_getElem?_getD, List.getElem?_eq_getElem (by omega)]; rfl
theorem rule_cls {d : Tab} (hok : d.Ok) : ClsOk d d.rule := by
  refine ⟨hok.len, fun k => ?_, fun s t hs ht h => ?_, fun s t hs ht h => ?_⟩
  · rw [List.getD_eq_getElem?_getD]
    cases hx : d.rule[k]? with
    | none => decide
    | some x => exact (hok.ru x (List.mem_of_getElem? hx)).1
  · rw [ru_getD hok hs, ru_getD hok ht]
    have := h []
    rwa [says_nil, says_nil] at this
  · rwa [ru_getD hok hs, ru_getD hok ht] at h
theorem stable_alike {d : Tab} (hok : d.Ok) {cls : List Int} (k : ClsOk d cls) (hst : ∀ s t, s < d.next.length → t < d.next.length → cls.getD s 0 = cls.getD t 0 → stKey d (liveP d) cls s = stKey d (liveP d) cls t) : ∀ (w : By) (s t : Nat), s < d.next.length → t < d.next.length → cls.getD s 0 = cls.getD t 0 → d.says (s : Int) w = d.says (t : Int) w
  | [], s, t, hs, ht, h => by rw [says_nil, says_nil]; exact k.rule s t hs ht h
  | c :: w, s, t, hs, ht, h => by
    rw [says_cons, says_cons]
    have hk := hst s t hs ht h
    unfold stKey at hk
    have hb := (row_map hs ht _).1 (List.cons.inj hk).2 c
    have ha := (Tab.to_lt hok (s := s) c).2
    have hb2 := (Tab.to_lt hok (s := t) c).2
    generalize d.to s c = a at *
    generalize d.to t c = b at *
    by_cases hd : a < 0 ∨ (liveP d).getD a.toNat false = false
    · have hd' : b < 0 ∨ (liveP d).getD b.toNat false = false := by
        by_cases e : b < 0 ∨ (liveP d).getD b.toNat false = false
        · exact e
        · rw [behindV, if_pos hd, behindV, if_neg e] at hb
          have := k.ge b.toNat
          omega
      rw [(dead_iff hok ha).1 hd w, (dead_iff hok hb2).1 hd' w]
    · by_cases hd' : b < 0 ∨ (liveP d).getD b.toNat false = false
      · rw [behindV, if_neg hd, behindV, if_pos hd'] at hb
        have := k.ge a.toNat
        omega
      · rw [behindV, if_neg hd, behindV, if_neg hd'] at hb
        have ha0 : 0 ≤ a := by
          by_cases e : a < 0
          · exact absurd (.inl e) hd
          · omega
        have hb0 : 0 ≤ b := by
          by_cases e : b < 0
          · exact absurd (.inl e) hd'
          · omega
        have ih := stable_alike hok k hst w a.toNat b.toNat (by omega) (by omega) hb
        rwa [Int.toNat_of_nonneg ha0, Int.toNat_of_nonneg hb0] at ih
theorem classG_spec {d : Tab} (hok : d.Ok) : ∀ (n many : Nat) (cls : List Int), ClsOk d cls → Covers many cls → many ≤ d.next.length → d.next.length + 1 ≤ n + many → ClsOk d (classG d (liveP d) n many cls) ∧ ∀ s t : Nat, s < d.next.length → t < d.next.length → (classG d (liveP d) n many cls).getD s 0 = (classG d (liveP d) n many cls).getD t 0 → Alike d s t
  | 0, many, cls, k, hc, hm, hf => by omega
  | n + 1, many, cls, k, hc, hm, hf => by
    have hend := classPass_end d (liveP d) cls
    have hmore := classPass_more (live := liveP d) hc k.len
    have hp := pass_cls hok k
    rw [classG]
    split
    · rename_i he
      refine ⟨hp, fun s t hs ht h w => ?_⟩
      have hkey := (classPass_iff hs ht).1 h
      refine stable_alike hok k (fun s t hs ht h => ?_) w s t hs ht (key_head hkey)
      have hcov : Covers many ((classPass d (liveP d) cls d.next.length 0 [] []).1.map fun s => s.getD 0 0) := fun i hi => by
        obtain ⟨k', hk'⟩ := List.getElem?_of_mem (hc i hi)
        have hkl := (List.getElem?_eq_some_iff.1 hk').1
        have := hend.all k' (by have := k.len; omega)
        refine List.mem_map.2 ⟨_, this, ?_⟩
        simp [stKey, List.getD_eq_getElem?_getD, hk']
      have hon := covers_once many _ hcov (by simpa using he)
      obtain ⟨i, hi⟩ := List.getElem?_of_mem (hend.all s hs)
      obtain ⟨j, hj⟩ := List.getElem?_of_mem (hend.all t ht)
      have h1 : ((classPass d (liveP d) cls d.next.length 0 [] []).1.map fun s => s.getD 0 0)[i]? = some (cls.getD s 0) := by rw [List.getElem?_map, hi]; rfl
      have h2 : ((classPass d (liveP d) cls d.next.length 0 [] []).1.map fun s => s.getD 0 0)[j]? = some (cls.getD s 0) := by rw [List.getElem?_map, hj, h]; rfl
      obtain ⟨hi1, hi2⟩ := List.getElem?_eq_some_iff.1 h1
      obtain ⟨hj1, hj2⟩ := List.getElem?_eq_some_iff.1 h2
      have hij : i = j := by
        rcases Nat.lt_trichotomy i j with e | e | e
        · exact absurd (hi2.trans hj2.symm) (List.pairwise_iff_getElem.1 hon i j hi1 hj1 e)
        · exact e
        · exact absurd (hj2.trans hi2.symm) (List.pairwise_iff_getElem.1 hon j i hj1 hi1 e)
      subst hij
      rw [hi] at hj
      exact Option.some.inj hj
    · rename_i hne
      have hsz := hend.size
      exact classG_spec hok n _ _ hp hend.nums hsz (by omega)
/-- Two states have one class if and only if they say the same of all texts. -/
theorem classP_spec {d : Tab} (hok : d.Ok) {s t : Nat} (hs : s < d.next.length) (ht : t < d.next.length) : (classP d (liveP d)).getD s 0 = (classP d (liveP d)).getD t 0 ↔ Alike d s t := by
  have h := classG_spec hok (d.next.length + 1) 0 d.rule (rule_cls hok) (fun i hi => absurd hi (Nat.not_lt_zero _)) (Nat.zero_le _) (by omega)
  exact ⟨h.2 s t hs ht, h.1.alike s t hs ht⟩

end Go.Proofs.YtlegopbpofofgaaDoor

/- No state's rule is above the rules' number. -/
namespace Go.Proofs.YtlegopbpofofgaaDoor
open Go

def RuleB (B : Nat) (ss : List Ste) : Prop := ∀ x ∈ ss, x.rule ≤ B
theorem RuleB.snoc {B : Nat} {ss : List Ste} (k : RuleB B ss) {x : Ste} (h : x.rule ≤ B) : RuleB B (ss ++ [x]) := fun y hy => by
  rcases List.mem_append.1 hy with e | e
  · exact k y e
  · have : y = x := by simpa using e
    rw [this]; exact h
theorem RuleB.set {B : Nat} {ss : List Ste} (k : RuleB B ss) {x : Ste} (h : x.rule ≤ B) (i : Nat) : RuleB B (ss.set i x) := fun y hy => by
  rcases List.mem_or_eq_of_mem_set hy with e | e
  · exact k y e
  · rw [e]; exact h
mutual
theorem lay_rb (B : Nat) : ∀ (x : Nd) (ss : List Ste) (to : Nat), RuleB B ss → RuleB B (lay x ss to).1
  | .mk k s kids, ss, to, h => by
    rw [lay]
    split
    · exact h.snoc (Nat.zero_le _)
    · split
      · exact layCat_rb B kids ss to h
      · split
        · exact (layAlt_rb B kids ss to h).snoc (Nat.zero_le _)
        · split
          · exact (layOne_rb B kids ss to h).snoc (Nat.zero_le _)
          · split
            · exact (layOne_rb B kids _ _ (h.snoc (Nat.zero_le _))).set (Nat.zero_le _) _
            · exact h
theorem layCat_rb (B : Nat) : ∀ (l : List Nd) (ss : List Ste) (to : Nat), RuleB B ss → RuleB B (layCat l ss to).1
  | [], ss, to, h => by rw [layCat]; exact h
  | x :: r, ss, to, h => by rw [layCat]; exact lay_rb B x _ _ (layCat_rb B r ss to h)
theorem layAlt_rb (B : Nat) : ∀ (l : List Nd) (ss : List Ste) (to : Nat), RuleB B ss → RuleB B (layAlt l ss to).1
  | [], ss, to, h => by rw [layAlt]; exact h
  | x :: r, ss, to, h => by rw [layAlt]; exact layAlt_rb B r _ to (lay_rb B x ss to h)
theorem layOne_rb (B : Nat) : ∀ (l : List Nd) (ss : List Ste) (to : Nat), RuleB B ss → RuleB B (layOne l ss to).1
  | [], ss, to, h => by rw [layOne]; exact h
  | x :: r, ss, to, h => by rw [layOne]; exact lay_rb B x ss to h
end

theorem makeG_rb (B : Nat) : ∀ (i : Nat) (rules : List By) (ss : List Ste) (t : List Nat) (ss' : List Ste) (t' : List Nat), i + rules.length ≤ B → RuleB B ss → makeG i rules ss t = .inr (ss', t') → RuleB B ss'
  | i, [], ss, t, ss', t', _, h, hm => by
    rw [makeG] at hm; cases hm; exact h
  | i, s :: r, ss, t, ss', t', hB, h, hm => by
    rw [List.length_cons] at hB
    rw [makeG] at hm
    split at hm
    · cases hm
    · exact makeG_rb B (i + 1) r _ _ ss' t' (by omega) (lay_rb B _ _ _ (h.snoc (by show i ≤ B; omega))) hm
theorem makeP_rb {rules : List By} {ss : List Ste} {st : Nat} (h : makeP rules = .inr (ss, st)) : ∀ x ∈ ss, x.rule ≤ 1000000 := by
  unfold makeP at h
  split at h
  · cases h
  · rename_i hn
    split at h
    · cases h
    · rename_i ss1 t1 hg
      split at h
      · cases h
      · cases h
        have := makeG_rb 64 0 rules [] [] ss1 t1 (by omega) (fun x hx => (by cases hx)) hg
        intro x hx
        have := (this.snoc (x := ⟨0, 0, t1, 0⟩) (Nat.zero_le _)) x hx
        omega

end Go.Proofs.YtlegopbpofofgaaDoor

/- Min of any table; made. -/
namespace Go.Proofs.YtlegopbpofofgaaDoor
open Go Go.Lw
set_option maxRecDepth 20000

theorem dmin_calls {h : Heap} {p : Value} {d : Tab} (htens : Tens h) (k : TabAt h p d) (hok : d.Ok) : CallsH Tryd.prog 29 #[p] h (Ret fun r h' => TabAt h' r (minP d) ∧ Ext0 h h') := by
  rcases k with ⟨rfl, rfl⟩ | ⟨db, rfl, k⟩
  · exact dmin_nil
  · exact dmin_at htens k hok

/-- The rules' table, if there is one. -/
def dmadeP (rules : List By) : Int ⊕ Tab := match makeP rules with
  | .inl e => .inl e
  | .inr (ss, st) => dmakeP ss st
def dmadeE (rules : List By) : Int := match dmadeP rules with | .inl e => e | .inr _ => 0
theorem makeG_ne : ∀ (i : Nat) (rules : List By) (ss : List Ste) (t : List Nat) (e : Int), makeG i rules ss t = .inl e → e ≠ 0
  | i, [], ss, t, e, h => by rw [makeG] at h; cases h
  | i, s :: r, ss, t, e, h => by
    rw [makeG] at h
    split at h
    · rename_i hp; cases h; exact hp
    · exact makeG_ne (i + 1) r _ _ e h
theorem makeP_ne {rules : List By} {e : Int} (h : makeP rules = .inl e) : e ≠ 0 := by
  unfold makeP at h
  split at h
  · cases h; decide
  · split at h
    · rename_i e' hg; cases h; exact makeG_ne _ _ _ _ _ hg
    · split at h
      · cases h; decide
      · cases h

/-- What made hands back. -/
def MadeD (h : Heap) (rules : List By) (r : Value) : Prop := ∃ p q, r = .tuple #[p, q, .int .i64 (dmadeE rules)] ∧ match dmadeP rules with
  | .inl _ => q = .pointer none
  | .inr d => MadeAt h p rules ∧ ∃ db, q = .pointer (some ⟨db, 0, none⟩) ∧ TabRd h db d
theorem made12_calls {h : Heap} {lim : Nat} (hg : Sg h lim) (hlim : lim ≤ h.size) (htens : Tens h) {rv : Value} {rules : List By} (hr : SlR eBy h (fun _ => False) rv rules) (hrl : ∀ s ∈ rules, s.length ≤ 1000000) :
    CallsH Tryd.prog 28 #[rv] h (Ret fun r h' => MadeD h' rules r ∧ Ext0 h h') := by
  refine CallsH.of Tryd.func28 rfl rfl ?_
  refine G.seq rfl ?_
  refine G.reg Tryd.func28 rfl ?_
  refine RW.pureS rfl rfl rfl rfl (OpP.assign rfl) ?_
  refine RW.pureS rfl rfl rfl rfl (OpP.assign rfl) ?_
  refine RW.pureS rfl rfl rfl rfl (OpP.assign rfl) ?_
  refine RW.done rfl ?_
  refine G.sub (ρ' := [(0, _), (2, _), (3, _), (4, _)]) ⟨rfl, rfl, rfl, rfl, trivial⟩ ?_
  refine G.seq rfl ?_
  refine G.reg Tryd.func28 rfl ?_
  refine RW.pureS rfl rfl rfl rfl (OpP.move rfl) ?_
  refine RW.opS rfl rfl rfl rfl (OpX.call (vs := [_]) Tryd.func16 rfl H.nm16 rfl (CallsH.toX (make_made hg hlim hr hrl))) ?_
  rintro _ h1 ⟨⟨p, rfl, hp⟩, e1⟩
  rcases hp with ⟨e, hm, rfl⟩ | hmade
  · have he : makeE rules = e := by unfold makeE; rw [hm]
    have hne := makeP_ne hm
    have hd : dmadeP rules = .inl e := by unfold dmadeP; rw [hm]
    have hde : dmadeE rules = e := by unfold dmadeE; rw [hd]
    rw [he]
    refine RW.pureS rfl rfl rfl rfl (OpP.move rfl) ?_
    refine RW.pureS rfl rfl rfl rfl (OpP.extract rfl rfl) ?_
    refine RW.pureS rfl rfl rfl rfl (OpP.extract rfl rfl) ?_
    refine RW.pureS rfl rfl rfl rfl (OpP.assign rfl) ?_
    refine RW.pureS rfl rfl rfl rfl (OpP.assign rfl) ?_
    refine RW.done rfl ?_
    refine G.sub (ρ' := [(0, _), (2, _), (3, _), (4, _), (5, _), (6, _)]) ⟨rfl, rfl, rfl, rfl, rfl, rfl, trivial⟩ ?_
    refine G.seq rfl ?_
    refine G.seq rfl ?_
    refine G.reg Tryd.func28 rfl ?_
    refine RW.pureS rfl rfl rfl rfl (OpP.move rfl) ?_
    refine RW.pureS rfl rfl rfl rfl (OpP.neqInt rfl rfl) ?_
    refine RW.done rfl ?_
    refine G.sub (ρ' := [(0, _), (2, _), (3, _), (4, _), (5, _), (6, _), (15, _)]) ⟨rfl, rfl, rfl, rfl, rfl, rfl, rfl, trivial⟩ ?_
    refine G.ite rfl rfl (fun hz => ?_) (fun hz => ?_)
    · refine G.seq rfl ?_
      refine G.reg Tryd.func28 rfl ?_
      refine RW.pureS rfl rfl rfl rfl (OpP.move rfl) ?_
      refine RW.pureS rfl rfl rfl rfl (OpP.assign rfl) ?_
      refine RW.pureS rfl rfl rfl rfl (OpP.assign rfl) ?_
      refine RW.pureS rfl rfl rfl rfl (OpP.assign rfl) ?_
      refine RW.done rfl ?_
      refine G.sub (ρ' := [(0, _), (2, _), (3, _), (4, _), (5, _), (6, _), (15, _)]) ⟨rfl, rfl, rfl, rfl, rfl, rfl, rfl, trivial⟩ ?_
      refine G.ret Tryd.func28 rfl rfl ?_
      exact ⟨_, rfl, ⟨_, _, by rw [hde]; rfl, by rw [hd]⟩, e1⟩
    · exact absurd (by simpa using hz) hne
  · obtain ⟨O, nb, v, ss, st, rfl, hn, hm⟩ := hmade
    have hmd : MadeAt h1 (.pointer (some ⟨nb, 0, none⟩)) rules := ⟨O, nb, v, ss, st, rfl, hn, hm⟩
    have hM := makeP_made hm
    have hb := made_bounds hM
    have he : makeE rules = 0 := by unfold makeE; rw [hm]
    have hd : dmadeP rules = dmakeP ss st := by unfold dmadeP; rw [hm]
    rw [he]
    refine RW.pureS rfl rfl rfl rfl (OpP.move rfl) ?_
    refine RW.pureS rfl rfl rfl rfl (OpP.extract rfl rfl) ?_
    refine RW.pureS rfl rfl rfl rfl (OpP.extract rfl rfl) ?_
    refine RW.pureS rfl rfl rfl rfl (OpP.assign rfl) ?_
    refine RW.pureS rfl rfl rfl rfl (OpP.assign rfl) ?_
    refine RW.done rfl ?_
    refine G.sub (ρ' := [(0, _), (2, _), (3, _), (4, _), (5, _), (6, _)]) ⟨rfl, rfl, rfl, rfl, rfl, rfl, trivial⟩ ?_
    refine G.seq rfl ?_
    refine G.seq rfl ?_
    refine G.reg Tryd.func28 rfl ?_
    refine RW.pureS rfl rfl rfl rfl (OpP.move rfl) ?_
    refine RW.pureS rfl rfl rfl rfl (OpP.neqInt rfl rfl) ?_
    refine RW.done rfl ?_
    refine G.sub (ρ' := [(0, _), (2, _), (3, _), (4, _), (5, _), (6, _), (15, _)]) ⟨rfl, rfl, rfl, rfl, rfl, rfl, rfl, trivial⟩ ?_
    refine G.cond rfl rfl (fun hc => absurd hc (by simp)) (fun _ => ?_)
    refine G.skip rfl ?_
    refine G.seq rfl ?_
    refine G.reg Tryd.func28 rfl ?_
    refine RW.pureS rfl rfl rfl rfl (OpP.move rfl) ?_
    refine RW.opS rfl rfl rfl rfl (OpX.call (vs := [_]) Tryd.func37 rfl H.nm37 rfl (CallsH.toX (dmake_calls (htens.ext0 e1) hn hM.good hM.len hM.stl hb.2.1 hb.2.2))) ?_
    rintro r2 h2 ⟨hr2, e2⟩
    unfold MakeRes at hr2
    rcases hdm : dmakeP ss st with e | d
    · rw [hdm] at hr2
      simp only at hr2
      subst hr2
      refine RW.pureS rfl rfl rfl rfl (OpP.move rfl) ?_
      refine RW.pureS rfl rfl rfl rfl (OpP.extract rfl rfl) ?_
      refine RW.pureS rfl rfl rfl rfl (OpP.extract rfl rfl) ?_
      refine RW.pureS rfl rfl rfl rfl (OpP.assign rfl) ?_
      refine RW.pureS rfl rfl rfl rfl (OpP.assign rfl) ?_
      refine RW.done rfl ?_
      refine G.sub (ρ' := [(0, _), (2, _), (3, _), (4, _), (5, _), (6, _), (7, _), (8, _), (15, _)]) ⟨rfl, rfl, rfl, rfl, rfl, rfl, rfl, rfl, rfl, trivial⟩ ?_
      refine G.seq rfl ?_
      refine G.reg Tryd.func28 rfl ?_
      refine RW.pureS rfl rfl rfl rfl (OpP.move rfl) ?_
      refine RW.pureS rfl rfl rfl rfl (OpP.move rfl) ?_
      refine RW.pureS rfl rfl rfl rfl (OpP.move rfl) ?_
      refine RW.pureS rfl rfl rfl rfl (OpP.assign rfl) ?_
      refine RW.pureS rfl rfl rfl rfl (OpP.assign rfl) ?_
      refine RW.pureS rfl rfl rfl rfl (OpP.assign rfl) ?_
      refine RW.done rfl ?_
      refine G.sub (ρ' := [(0, _), (2, _), (3, _), (4, _), (5, _), (6, _), (7, _), (8, _), (15, _)]) ⟨rfl, rfl, rfl, rfl, rfl, rfl, rfl, rfl, rfl, trivial⟩ ?_
      refine G.ret Tryd.func28 rfl rfl ?_
      exact ⟨_, rfl, ⟨_, _, by unfold dmadeE; rw [hd, hdm]; rfl, by rw [hd, hdm]; rfl⟩, e1.trans e2⟩
    · rw [hdm] at hr2
      obtain ⟨db, rfl, hk⟩ := hr2
      refine RW.pureS rfl rfl rfl rfl (OpP.move rfl) ?_
      refine RW.pureS rfl rfl rfl rfl (OpP.extract rfl rfl) ?_
      refine RW.pureS rfl rfl rfl rfl (OpP.extract rfl rfl) ?_
      refine RW.pureS rfl rfl rfl rfl (OpP.assign rfl) ?_
      refine RW.pureS rfl rfl rfl rfl (OpP.assign rfl) ?_
      refine RW.done rfl ?_
      refine G.sub (ρ' := [(0, _), (2, _), (3, _), (4, _), (5, _), (6, _), (7, _), (8, _), (15, _)]) ⟨rfl, rfl, rfl, rfl, rfl, rfl, rfl, rfl, rfl, trivial⟩ ?_
      refine G.seq rfl ?_
      refine G.reg Tryd.func28 rfl ?_
      refine RW.pureS rfl rfl rfl rfl (OpP.move rfl) ?_
      refine RW.pureS rfl rfl rfl rfl (OpP.move rfl) ?_
      refine RW.pureS rfl rfl rfl rfl (OpP.move rfl) ?_
      refine RW.pureS rfl rfl rfl rfl (OpP.assign rfl) ?_
      refine RW.pureS rfl rfl rfl rfl (OpP.assign rfl) ?_
      refine RW.pureS rfl rfl rfl rfl (OpP.assign rfl) ?_
      refine RW.done rfl ?_
      refine G.sub (ρ' := [(0, _), (2, _), (3, _), (4, _), (5, _), (6, _), (7, _), (8, _), (15, _)]) ⟨rfl, rfl, rfl, rfl, rfl, rfl, rfl, rfl, rfl, trivial⟩ ?_
      refine G.ret Tryd.func28 rfl rfl ?_
      exact ⟨_, rfl, ⟨_, _, by unfold dmadeE; rw [hd, hdm]; rfl, by rw [hd, hdm]; exact ⟨hmd.ext0 e2, db, rfl, hk⟩⟩, e1.trans e2⟩

end Go.Proofs.YtlegopbpofofgaaDoor

/- The statements' helpers: Make of an NFA that is none; what a table takes; the chapter's rules; what is great. -/
namespace Go.Proofs.YtlegopbpofofgaaDoor
open Go Go.Lw
set_option maxRecDepth 20000

theorem dmake_none {h : Heap} {p : Value} (k : NoneAt h p) : CallsH Tryd.prog 37 #[p] h (Ret fun r h' => r = .tuple #[.pointer none, .int .i64 1] ∧ h' = h) := by
  refine CallsH.of Tryd.func37 rfl rfl ?_
  refine G.seq rfl ?_
  refine G.reg Tryd.func37 rfl ?_
  refine RW.pureS rfl rfl rfl rfl (OpP.assign rfl) ?_
  refine RW.pureS rfl rfl rfl rfl (OpP.assign rfl) ?_
  refine RW.done rfl ?_
  refine G.sub (ρ' := [(0, _), (2, _), (3, _)]) ⟨rfl, rfl, rfl, trivial⟩ ?_
  refine G.seq rfl ?_
  refine G.reg Tryd.func37 rfl ?_
  refine RW.pureS rfl rfl rfl rfl (OpP.move rfl) ?_
  refine RW.opS rfl rfl rfl rfl (OpX.call (vs := [_]) Tryd.func21 rfl H.nm21 rfl (CallsH.toX (start_none k))) ?_
  rintro _ h0 ⟨rfl, hh0⟩
  refine RW.pureS rfl rfl rfl rfl (OpP.assign rfl) ?_
  refine RW.done rfl ?_
  refine G.sub (ρ' := [(0, _), (2, _), (3, _), (4, _)]) ⟨rfl, rfl, rfl, rfl, trivial⟩ ?_
  refine G.seq rfl ?_
  refine G.seq rfl ?_
  refine G.reg Tryd.func37 rfl ?_
  refine RW.pureS rfl rfl rfl rfl (OpP.move rfl) ?_
  refine RW.pureS rfl rfl rfl rfl (OpP.lenSlice Tryd.underlying36 rfl) ?_
  refine RW.pureS rfl rfl rfl rfl (OpP.eqlInt rfl rfl) ?_
  refine RW.done rfl ?_
  refine G.sub (ρ' := [(0, _), (2, _), (3, _), (4, _), (18, _)]) ⟨rfl, rfl, rfl, rfl, rfl, trivial⟩ ?_
  subst hh0
  refine G.cond rfl rfl (fun _ => ?_) (fun hc => absurd hc (by decide))
  refine G.seq rfl ?_
  refine G.reg Tryd.func37 rfl ?_
  refine RW.pureS rfl rfl rfl rfl (OpP.assign rfl) ?_
  refine RW.pureS rfl rfl rfl rfl (OpP.assign rfl) ?_
  refine RW.done rfl ?_
  refine G.sub (ρ' := [(0, _), (2, _), (3, _), (4, _), (18, _)]) ⟨rfl, rfl, rfl, rfl, rfl, trivial⟩ ?_
  refine G.ret Tryd.func37 rfl rfl ?_
  exact ⟨_, rfl, rfl, rfl⟩

theorem takes12_calls {h : Heap} {p : Value} {d : Tab} {s : By} {a x y z : Int} (k : TabAt h p d) (hok : d.Ok) (hs : s.length ≤ 1000000) :
    CallsH Tryd.prog 36 #[p, .string (bs s), .int .i64 a, .int .i64 x, .int .i64 y, .int .i64 z] h (Ret fun r h' => r = .bool (decide (dmatchA d s a = (x, y, z))) ∧ h' = h) := by
  refine CallsH.of Tryd.func36 rfl rfl ?_
  refine G.seq rfl ?_
  refine G.reg Tryd.func36 rfl ?_
  refine RW.pureS rfl rfl rfl rfl (OpP.assign rfl) ?_
  refine RW.done rfl ?_
  refine G.sub (ρ' := [(0, _), (1, _), (2, _), (3, _), (4, _), (5, _), (12, _)]) ⟨rfl, rfl, rfl, rfl, rfl, rfl, rfl, trivial⟩ ?_
  refine G.seq rfl ?_
  refine G.reg Tryd.func36 rfl ?_
  refine RW.pureS rfl rfl rfl rfl (OpP.move rfl) ?_
  refine RW.pureS rfl rfl rfl rfl (OpP.move rfl) ?_
  refine RW.pureS rfl rfl rfl rfl (OpP.move rfl) ?_
  refine RW.opS rfl rfl rfl rfl (OpX.call (vs := [_, _, _]) Tryd.func30 rfl H.nm30 rfl (CallsH.toX (dmatch_calls k hok hs))) ?_
  rintro _ h1 ⟨rfl, hh1⟩
  refine RW.pureS rfl rfl rfl rfl (OpP.move rfl) ?_
  refine RW.pureS rfl rfl rfl rfl (OpP.extract rfl rfl) ?_
  refine RW.pureS rfl rfl rfl rfl (OpP.extract rfl rfl) ?_
  refine RW.pureS rfl rfl rfl rfl (OpP.extract rfl rfl) ?_
  refine RW.pureS rfl rfl rfl rfl (OpP.assign rfl) ?_
  refine RW.pureS rfl rfl rfl rfl (OpP.assign rfl) ?_
  refine RW.pureS rfl rfl rfl rfl (OpP.assign rfl) ?_
  refine RW.done rfl ?_
  refine G.sub (ρ' := [(0, _), (1, _), (2, _), (3, _), (4, _), (5, _), (12, _), (13, _), (14, _), (15, _)]) ⟨rfl, rfl, rfl, rfl, rfl, rfl, rfl, rfl, rfl, rfl, trivial⟩ ?_
  refine G.seq rfl ?_
  subst hh1
  generalize dmatchA d s a = m
  have hmm : decide (m = (x, y, z)) = (decide (m.1 = x) && (decide (m.2.1 = y) && decide (m.2.2 = z))) := by
    rw [← Bool.decide_and, ← Bool.decide_and]; congr 1; rw [Prod.ext_iff, Prod.ext_iff]
  refine G.regTo1 [(12, .bool (decide (m = (x, y, z))))] [(0, _), (1, _), (2, _), (3, _), (4, _), (5, _), (13, _), (14, _), (15, _)] ⟨rfl, rfl, rfl, rfl, rfl, rfl, rfl, rfl, rfl, trivial⟩ Tryd.func36 rfl ?_ ?_
  · refine RW.pureS rfl rfl rfl rfl (OpP.move rfl) ?_
    refine RW.pureS rfl rfl rfl rfl (OpP.move rfl) ?_
    refine RW.pureS rfl rfl rfl rfl (OpP.eqlInt rfl rfl) ?_
    refine RW.pureS rfl rfl rfl rfl (OpP.move rfl) ?_
    refine RW.split (d := 27) rfl (fun hg => ?_) (fun hg => ?_)
    · refine RW.pureS rfl rfl rfl rfl (OpP.move rfl) ?_
      refine RW.pureS rfl rfl rfl rfl (OpP.move rfl) ?_
      refine RW.pureS rfl rfl rfl rfl (OpP.eqlInt rfl rfl) ?_
      refine RW.pureS rfl rfl rfl rfl (OpP.pickT rfl rfl) ?_
      refine RW.pureS rfl rfl rfl rfl (OpP.move rfl) ?_
      refine RW.split (d := 32) rfl (fun hg2 => ?_) (fun hg2 => ?_)
      · refine RW.pureS rfl rfl rfl rfl (OpP.move rfl) ?_
        refine RW.pureS rfl rfl rfl rfl (OpP.move rfl) ?_
        refine RW.pureS rfl rfl rfl rfl (OpP.eqlInt rfl rfl) ?_
        refine RW.pureS rfl rfl rfl rfl (OpP.pickT rfl rfl) ?_
        refine RW.pureS rfl rfl rfl rfl (OpP.assign rfl) ?_
        refine RW.done rfl ?_
        exact ⟨rfl, at_bool rfl (by rw [hmm, hg, hg2, Bool.true_and, Bool.true_and]), rfl, rfl, rfl, rfl, rfl, rfl, rfl, rfl, rfl, trivial⟩
      · refine RW.skipS rfl rfl rfl rfl ?_
        refine RW.skipS rfl rfl rfl rfl ?_
        refine RW.skipS rfl rfl rfl rfl ?_
        refine RW.pureS rfl rfl rfl rfl (OpP.pickF rfl rfl) ?_
        refine RW.pureS rfl rfl rfl rfl (OpP.assign rfl) ?_
        refine RW.done rfl ?_
        exact ⟨rfl, at_bool rfl (by rw [hmm, hg, hg2, Bool.true_and, Bool.false_and]), rfl, rfl, rfl, rfl, rfl, rfl, rfl, rfl, rfl, trivial⟩
    · refine RW.skipS rfl rfl rfl rfl ?_
      refine RW.skipS rfl rfl rfl rfl ?_
      refine RW.skipS rfl rfl rfl rfl ?_
      refine RW.pureS rfl rfl rfl rfl (OpP.pickF rfl rfl) ?_
      refine RW.pureS rfl rfl rfl rfl (OpP.move rfl) ?_
      refine RW.skipS rfl rfl rfl rfl ?_
      refine RW.skipS rfl rfl rfl rfl ?_
      refine RW.skipS rfl rfl rfl rfl ?_
      refine RW.pureS rfl rfl rfl rfl (OpP.pickF rfl rfl) ?_
      refine RW.pureS rfl rfl rfl rfl (OpP.assign rfl) ?_
      refine RW.done rfl ?_
      exact ⟨rfl, at_bool rfl (by rw [hmm, hg, Bool.false_and]), rfl, rfl, rfl, rfl, rfl, rfl, rfl, rfl, rfl, trivial⟩
  · refine G.ret Tryd.func36 rfl rfl ?_
    exact ⟨_, rfl, rfl, rfl⟩

/-! ### The chapter's rules -/

def egA : List By := [[97, 98], [97, 99], [97]]
def egB : List By := [[91, 94, 92, 120, 48, 48, 45, 92, 120, 102, 102, 93, 97]]
def egC : List By := [[97, 98], [98, 98], [98]]
def tabOf (x : Int ⊕ Tab) : Tab := match x with | .inl _ => ⟨[], []⟩ | .inr d => d
def isTab (x : Int ⊕ Tab) : Bool := match x with | .inl _ => false | .inr _ => true
theorem tab_of {x : Int ⊕ Tab} (h : isTab x = true) : x = .inr (tabOf x) := by
  cases x with
  | inl e => cases h
  | inr d => rfl
theorem egA_all : isTab (dmadeP egA) = true ∧ (tabOf (dmadeP egA)).next.length = 4 ∧ (minP (tabOf (dmadeP egA))).next.length = 4 ∧ dmatchA (tabOf (dmadeP egA)) [97, 98, 120] 0 = (2, 0, 2) ∧ dmatchA (tabOf (dmadeP egA)) [98] 0 = (0, -1, 0) := by decide +kernel
theorem egB_all : isTab (dmadeP egB) = true ∧ (tabOf (dmadeP egB)).next.length = 1 ∧ (minP (tabOf (dmadeP egB))).next.length = 1 := by decide +kernel
theorem egC_all : isTab (dmadeP egC) = true ∧ dmatchA (tabOf (dmadeP egC)) [97] 0 = (0, -1, 1) := by decide +kernel

theorem dmadeP_ok {rules : List By} {d : Tab} (h : dmadeP rules = .inr d) : d.Ok ∧ 0 < d.next.length := by
  unfold dmadeP at h
  split at h
  · cases h
  · rename_i ss st hm
    refine ⟨dmakeP_ok h (makeP_rb hm), ?_⟩
    obtain ⟨_, L, _, h2, h3⟩ := dmakeP_lists h
    omega
theorem MadeD.tab {h : Heap} {rules : List By} {r : Value} (k : MadeD h rules r) (hd : isTab (dmadeP rules) = true) : ∃ p q, r = .tuple #[p, q, .int .i64 0] ∧ MadeAt h p rules ∧ TabAt h q (tabOf (dmadeP rules)) ∧ (tabOf (dmadeP rules)).Ok := by
  obtain ⟨p, q, rfl, k⟩ := k
  have e := tab_of hd
  have hok := (dmadeP_ok e).1
  have hE : dmadeE rules = 0 := by unfold dmadeE; rw [e]
  rw [e] at k
  obtain ⟨k1, db, rfl, k2⟩ := k
  exact ⟨p, _, by rw [hE], k1, .inr ⟨db, rfl, k2⟩, hok⟩

end Go.Proofs.YtlegopbpofofgaaDoor

/- The chapter's rules are taken; what is great. -/
namespace Go.Proofs.YtlegopbpofofgaaDoor
open Go Go.Lw
set_option maxRecDepth 20000

theorem tabled_calls {h : Heap} {lim : Nat} (hg : Sg h lim) (hlim : lim ≤ h.size) (htens : Tens h) : CallsH Tryd.prog 27 #[] h (Ret fun r h' => r = .bool true ∧ Ext0 h h') := by
  refine CallsH.of Tryd.func27 rfl rfl ?_
  refine G.seq rfl ?_
  refine G.reg Tryd.func27 rfl ?_
  refine RW.pureS rfl rfl rfl rfl (OpP.assign rfl) ?_
  refine RW.done rfl ?_
  refine G.sub (ρ' := [(0, _)]) ⟨rfl, trivial⟩ ?_
  refine G.seq rfl ?_
  refine G.reg Tryd.func27 rfl ?_
  refine RW.opS rfl rfl rfl rfl (OpX.buildOnes (us := [_, _, _]) Tryd.underlying22 H.el9 rfl rfl (by decide) (by simp [Value.oneCell'])) ?_
  rintro _ _ ⟨rfl, rfl⟩
  refine RW.opS rfl rfl rfl rfl (OpX.call (vs := [_]) Tryd.func28 rfl H.nm28 rfl (CallsH.toX (made12_calls (hg.ext (Ext.push (fun _ => False) h _) (fun _ k => k.elim)) (by simp; omega) (htens.ext0 (Ext.push (fun _ => False) h _)) (lits egA 3 rfl (by decide)) (by intro s hs; simp [egA] at hs; rcases hs with rfl | rfl | rfl <;> decide)))) ?_
  rintro _ h1 ⟨hd, e1⟩
  have e1 : Ext0 h h1 := (Ext.push (fun _ => False) h _).trans e1
  obtain ⟨p1, q1, rfl, _, k1, ok1⟩ := hd.tab egA_all.1
  have hz1 := e1.size
  refine RW.pureS rfl rfl rfl rfl (OpP.move rfl) ?_
  refine RW.pureS rfl rfl rfl rfl (OpP.extract rfl rfl) ?_
  refine RW.pureS rfl rfl rfl rfl (OpP.extract rfl rfl) ?_
  refine RW.pureS rfl rfl rfl rfl (OpP.extract rfl rfl) ?_
  refine RW.pureS rfl rfl rfl rfl (OpP.assign rfl) ?_
  refine RW.pureS rfl rfl rfl rfl (OpP.assign rfl) ?_
  refine RW.pureS rfl rfl rfl rfl (OpP.assign rfl) ?_
  refine RW.done rfl ?_
  refine G.sub (ρ' := [(0, _), (2, _), (3, _)]) ⟨rfl, rfl, rfl, trivial⟩ ?_
  refine G.seq rfl ?_
  refine G.reg Tryd.func27 rfl ?_
  refine RW.opS rfl rfl rfl rfl (OpX.buildOnes (us := [_]) Tryd.underlying22 H.el9 rfl rfl (by decide) (by simp [Value.oneCell'])) ?_
  rintro _ _ ⟨rfl, rfl⟩
  refine RW.opS rfl rfl rfl rfl (OpX.call (vs := [_]) Tryd.func28 rfl H.nm28 rfl (CallsH.toX (made12_calls (hg.ext (e1.trans (Ext.push (fun _ => False) h1 _)) (fun _ k => k.elim)) (by simp; omega) (htens.ext0 (e1.trans (Ext.push (fun _ => False) h1 _))) (lits egB 1 rfl (by decide)) (by intro s hs; simp [egB] at hs; subst hs; decide)))) ?_
  rintro _ h2 ⟨hd, e2⟩
  have e2 : Ext0 h1 h2 := (Ext.push (fun _ => False) h1 _).trans e2
  have e02 := e1.trans e2
  obtain ⟨p2, q2, rfl, _, k2, ok2⟩ := hd.tab egB_all.1
  have hz2 := e02.size
  refine RW.pureS rfl rfl rfl rfl (OpP.move rfl) ?_
  refine RW.pureS rfl rfl rfl rfl (OpP.extract rfl rfl) ?_
  refine RW.pureS rfl rfl rfl rfl (OpP.extract rfl rfl) ?_
  refine RW.pureS rfl rfl rfl rfl (OpP.extract rfl rfl) ?_
  refine RW.pureS rfl rfl rfl rfl (OpP.assign rfl) ?_
  refine RW.pureS rfl rfl rfl rfl (OpP.assign rfl) ?_
  refine RW.pureS rfl rfl rfl rfl (OpP.assign rfl) ?_
  refine RW.done rfl ?_
  refine G.sub (ρ' := [(0, _), (2, _), (3, _), (5, _), (6, _)]) ⟨rfl, rfl, rfl, rfl, rfl, trivial⟩ ?_
  refine G.seq rfl ?_
  refine G.reg Tryd.func27 rfl ?_
  refine RW.opS rfl rfl rfl rfl (OpX.buildOnes (us := [_, _, _]) Tryd.underlying22 H.el9 rfl rfl (by decide) (by simp [Value.oneCell'])) ?_
  rintro _ _ ⟨rfl, rfl⟩
  refine RW.opS rfl rfl rfl rfl (OpX.call (vs := [_]) Tryd.func28 rfl H.nm28 rfl (CallsH.toX (made12_calls (hg.ext (e02.trans (Ext.push (fun _ => False) h2 _)) (fun _ k => k.elim)) (by simp; omega) (htens.ext0 (e02.trans (Ext.push (fun _ => False) h2 _))) (lits egC 3 rfl (by decide)) (by intro s hs; simp [egC] at hs; rcases hs with rfl | rfl | rfl <;> decide)))) ?_
  rintro _ h3 ⟨hd, e3⟩
  have e3 : Ext0 h2 h3 := (Ext.push (fun _ => False) h2 _).trans e3
  have e03 := e02.trans e3
  obtain ⟨p3, q3, rfl, _, k3, ok3⟩ := hd.tab egC_all.1
  have k1 := (k1.ext0 e2).ext0 e3
  have k2 := k2.ext0 e3
  refine RW.pureS rfl rfl rfl rfl (OpP.move rfl) ?_
  refine RW.pureS rfl rfl rfl rfl (OpP.extract rfl rfl) ?_
  refine RW.pureS rfl rfl rfl rfl (OpP.extract rfl rfl) ?_
  refine RW.pureS rfl rfl rfl rfl (OpP.extract rfl rfl) ?_
  refine RW.pureS rfl rfl rfl rfl (OpP.assign rfl) ?_
  refine RW.pureS rfl rfl rfl rfl (OpP.assign rfl) ?_
  refine RW.pureS rfl rfl rfl rfl (OpP.assign rfl) ?_
  refine RW.done rfl ?_
  refine G.sub (ρ' := [(0, _), (2, _), (3, _), (5, _), (6, _), (8, _), (9, _)]) ⟨rfl, rfl, rfl, rfl, rfl, rfl, rfl, trivial⟩ ?_
  refine G.seq rfl ?_
  refine G.regToX (fun (_u : Unit) (h' : Heap) => Ext0 h h') (fun (_u : Unit) => [(0, .bool true)]) [(2, _), (3, _), (5, _), (6, _), (8, _), (9, _)] ⟨rfl, rfl, rfl, rfl, rfl, rfl, trivial⟩ Tryd.func27 rfl ?_ ?_
  · refine RW.pureS rfl rfl rfl rfl (OpP.move rfl) ?_
    refine RW.pureS rfl rfl rfl rfl (OpP.eqlInt rfl rfl) ?_
    refine RW.pureS rfl rfl rfl rfl (OpP.move rfl) ?_
    refine RW.know (d := 30) (b' := true) rfl (rfl) ?_
    refine RW.pureS rfl rfl rfl rfl (OpP.move rfl) ?_
    refine RW.opS rfl rfl rfl rfl (OpX.call (vs := [_]) Tryd.func32 rfl H.nm32 rfl (CallsH.toX (states_calls k1))) ?_
    rintro _ h4 ⟨rfl, hh4⟩
    refine RW.pureS rfl rfl rfl rfl (OpP.eqlInt rfl rfl) ?_
    refine RW.pureS rfl rfl rfl rfl (OpP.pickT rfl rfl) ?_
    refine RW.pureS rfl rfl rfl rfl (OpP.move rfl) ?_
    subst hh4
    refine RW.know (d := 35) (b' := true) rfl ((by rw [egA_all.2.1]; rfl)) ?_
    refine RW.pureS rfl rfl rfl rfl (OpP.move rfl) ?_
    refine RW.opS rfl rfl rfl rfl (OpX.call (vs := [_]) Tryd.func29 rfl H.nm29 rfl (CallsH.toX (dmin_calls (htens.ext0 e03) k1 ok1))) ?_
    rintro _ h4 ⟨m1, e4⟩
    refine RW.opS rfl rfl rfl rfl (OpX.call (vs := [_]) Tryd.func32 rfl H.nm32 rfl (CallsH.toX (states_calls m1))) ?_
    rintro _ h5 ⟨rfl, hh5⟩
    refine RW.pureS rfl rfl rfl rfl (OpP.eqlInt rfl rfl) ?_
    refine RW.pureS rfl rfl rfl rfl (OpP.pickT rfl rfl) ?_
    refine RW.pureS rfl rfl rfl rfl (OpP.move rfl) ?_
    subst hh5
    refine RW.know (d := 41) (b' := true) rfl ((by rw [egA_all.2.2.1]; rfl)) ?_
    refine RW.pureS rfl rfl rfl rfl (OpP.move rfl) ?_
    refine RW.opS rfl rfl rfl rfl (OpX.call (vs := [_, _, _, _, _, _]) Tryd.func36 rfl H.nm36 rfl (CallsH.toX (takes12_calls (s := [97, 98, 120]) (k1.ext0 e4) ok1 (by decide)))) ?_
    rintro _ h5 ⟨rfl, hh5⟩
    refine RW.pureS rfl rfl rfl rfl (OpP.pickT rfl rfl) ?_
    refine RW.pureS rfl rfl rfl rfl (OpP.move rfl) ?_
    subst hh5
    refine RW.know (d := 45) (b' := true) rfl ((by rw [egA_all.2.2.2.1]; rfl)) ?_
    refine RW.pureS rfl rfl rfl rfl (OpP.move rfl) ?_
    refine RW.opS rfl rfl rfl rfl (OpX.call (vs := [_, _, _, _, _, _]) Tryd.func36 rfl H.nm36 rfl (CallsH.toX (takes12_calls (s := [98]) (k1.ext0 e4) ok1 (by decide)))) ?_
    rintro _ h5 ⟨rfl, hh5⟩
    refine RW.pureS rfl rfl rfl rfl (OpP.pickT rfl rfl) ?_
    refine RW.pureS rfl rfl rfl rfl (OpP.move rfl) ?_
    subst hh5
    refine RW.know (d := 49) (b' := true) rfl ((by rw [egA_all.2.2.2.2]; rfl)) ?_
    refine RW.pureS rfl rfl rfl rfl (OpP.move rfl) ?_
    refine RW.pureS rfl rfl rfl rfl (OpP.eqlInt rfl rfl) ?_
    refine RW.pureS rfl rfl rfl rfl (OpP.pickT rfl rfl) ?_
    refine RW.pureS rfl rfl rfl rfl (OpP.move rfl) ?_
    refine RW.know (d := 53) (b' := true) rfl (rfl) ?_
    refine RW.pureS rfl rfl rfl rfl (OpP.move rfl) ?_
    refine RW.opS rfl rfl rfl rfl (OpX.call (vs := [_]) Tryd.func32 rfl H.nm32 rfl (CallsH.toX (states_calls (k2.ext0 e4)))) ?_
    rintro _ h5 ⟨rfl, hh5⟩
    refine RW.pureS rfl rfl rfl rfl (OpP.eqlInt rfl rfl) ?_
    refine RW.pureS rfl rfl rfl rfl (OpP.pickT rfl rfl) ?_
    refine RW.pureS rfl rfl rfl rfl (OpP.move rfl) ?_
    subst hh5
    refine RW.know (d := 58) (b' := true) rfl ((by rw [egB_all.2.1]; rfl)) ?_
    refine RW.pureS rfl rfl rfl rfl (OpP.move rfl) ?_
    refine RW.opS rfl rfl rfl rfl (OpX.call (vs := [_]) Tryd.func29 rfl H.nm29 rfl (CallsH.toX (dmin_calls (htens.ext0 (e03.trans e4)) (k2.ext0 e4) ok2))) ?_
    rintro _ h6 ⟨m2, e6⟩
    refine RW.opS rfl rfl rfl rfl (OpX.call (vs := [_]) Tryd.func32 rfl H.nm32 rfl (CallsH.toX (states_calls m2))) ?_
    rintro _ h7 ⟨rfl, hh7⟩
    refine RW.pureS rfl rfl rfl rfl (OpP.eqlInt rfl rfl) ?_
    refine RW.pureS rfl rfl rfl rfl (OpP.pickT rfl rfl) ?_
    refine RW.pureS rfl rfl rfl rfl (OpP.move rfl) ?_
    subst hh7
    refine RW.know (d := 64) (b' := true) rfl ((by rw [egB_all.2.2]; rfl)) ?_
    refine RW.pureS rfl rfl rfl rfl (OpP.move rfl) ?_
    refine RW.pureS rfl rfl rfl rfl (OpP.eqlInt rfl rfl) ?_
    refine RW.pureS rfl rfl rfl rfl (OpP.pickT rfl rfl) ?_
    refine RW.pureS rfl rfl rfl rfl (OpP.move rfl) ?_
    refine RW.know (d := 68) (b' := true) rfl (rfl) ?_
    refine RW.pureS rfl rfl rfl rfl (OpP.move rfl) ?_
    refine RW.opS rfl rfl rfl rfl (OpX.call (vs := [_, _, _, _, _, _]) Tryd.func36 rfl H.nm36 rfl (CallsH.toX (takes12_calls (s := [97]) ((k3.ext0 e4).ext0 e6) ok3 (by decide)))) ?_
    rintro _ h7 ⟨rfl, hh7⟩
    refine RW.pureS rfl rfl rfl rfl (OpP.pickT rfl rfl) ?_
    refine RW.pureS rfl rfl rfl rfl (OpP.assign rfl) ?_
    subst hh7
    refine RW.done rfl ?_
    exact ⟨(), (e03.trans e4).trans e6, at_bool rfl (by rw [egC_all.2]; rfl), rfl, rfl, rfl, rfl, rfl, rfl, trivial⟩
  · rintro _ h4 e4
    refine G.ret Tryd.func27 rfl rfl ?_
    exact ⟨_, rfl, rfl, e4⟩

def greatD (l : List By) : Bool := decide (5 < l.length) || l.any fun s => decide (24 < s.length)
theorem great12_calls {h : Heap} {rv : Value} {rules : List By} (hr : SlR eBy h (fun _ => False) rv rules) :
    CallsH Tryd.prog 26 #[rv] h (Ret fun r h' => r = .bool (greatD rules) ∧ h' = h) := by
  obtain ⟨oa, kn, kc, rfl, hsl⟩ := id hr.open
  have hkn := hsl.len
  have hkc := hsl.le
  have hcap := hsl.cap
  refine CallsH.of Tryd.func26 rfl rfl ?_
  refine G.seq rfl ?_
  refine G.reg Tryd.func26 rfl ?_
  refine RW.pureS rfl rfl rfl rfl (OpP.assign rfl) ?_
  refine RW.done rfl ?_
  refine G.sub (ρ' := [(0, _), (2, _)]) ⟨rfl, rfl, trivial⟩ ?_
  refine G.seq rfl ?_
  refine G.seq rfl ?_
  refine G.reg Tryd.func26 rfl ?_
  refine RW.pureS rfl rfl rfl rfl (OpP.move rfl) ?_
  refine RW.pureS rfl rfl rfl rfl (OpP.lenSlice Tryd.underlying22 rfl) ?_
  refine RW.pureS rfl rfl rfl rfl (OpP.gtr rfl rfl) ?_
  refine RW.done rfl ?_
  refine G.sub (ρ' := [(0, _), (2, _), (6, _)]) ⟨rfl, rfl, rfl, trivial⟩ ?_
  refine G.ite rfl rfl (fun hbig => ?_) (fun hbig => ?_)
  · refine G.seq rfl ?_
    refine G.reg Tryd.func26 rfl ?_
    refine RW.pureS rfl rfl rfl rfl (OpP.assign rfl) ?_
    refine RW.done rfl ?_
    refine G.sub (ρ' := [(0, _), (2, _), (6, _)]) ⟨rfl, rfl, rfl, trivial⟩ ?_
    refine G.ret Tryd.func26 rfl rfl ?_
    exact ⟨_, rfl, by rw [greatD, decide_eq_true (show 5 < rules.length by omega)]; rfl, rfl⟩
  · have hgp : greatD rules = rules.any fun s => decide (24 < s.length) := by rw [greatD, decide_eq_false (show ¬ 5 < rules.length by omega), Bool.false_or]
    refine G.skip rfl ?_
    refine G.seq rfl ?_
    refine G.seq rfl ?_
    refine G.reg Tryd.func26 rfl ?_
    refine RW.pureS rfl rfl rfl rfl (OpP.assign rfl) ?_
    refine RW.done rfl ?_
    refine G.sub (ρ' := [(0, _), (2, _), (3, _), (6, _)]) ⟨rfl, rfl, rfl, rfl, trivial⟩ ?_
    refine G.block rfl rfl ?_
    refine G.loop (σ := Nat) (fun i => [(0, .slice oa kn kc), (3, .int .i64 (i : Nat))]) (fun i h' => i ≤ kn ∧ h' = h ∧ (rules.drop i).any (fun s => decide (24 < s.length)) = greatD rules) (fun i => kn - i) (0) rfl ⟨rfl, rfl, trivial⟩ ⟨Nat.zero_le _, rfl, hgp.symm⟩ ?_
    rintro i g ⟨hi, rfl, hcon⟩ ih
    refine G.seq rfl ?_
    refine G.seq rfl ?_
    refine G.reg Tryd.func26 rfl ?_
    refine RW.pureS rfl rfl rfl rfl (OpP.move rfl) ?_
    refine RW.pureS rfl rfl rfl rfl (OpP.move rfl) ?_
    refine RW.pureS rfl rfl rfl rfl (OpP.lenSlice Tryd.underlying22 rfl) ?_
    refine RW.pureS rfl rfl rfl rfl (OpP.lss rfl rfl) ?_
    refine RW.done rfl ?_
    refine G.sub (ρ' := [(0, _), (3, _), (10, _)]) ⟨rfl, rfl, rfl, trivial⟩ ?_
    refine G.ite rfl rfl (fun hlt => ?_) (fun hlt => ?_)
    · obtain ⟨s, hs⟩ : ∃ s, rules[i]? = some s := ⟨_, List.getElem?_eq_getElem (by omega)⟩
      have hdr : rules.drop i = s :: rules.drop (i + 1) := by
        obtain ⟨hi', rfl⟩ := List.getElem?_eq_some_iff.1 hs
        exact List.drop_eq_getElem_cons hi'
      rw [hdr, List.any_cons] at hcon
      obtain ⟨b, o, cs, ha, hob, hrow, rfl⟩ := hsl.get i s hs
      have hbs := bs_size s
      refine G.skip rfl ?_
      refine G.seq rfl ?_
      refine G.block rfl rfl ?_
      refine G.seq rfl ?_
      refine G.reg Tryd.func26 rfl ?_
      refine RW.pureS rfl rfl rfl rfl (OpP.move rfl) ?_
      refine RW.pureS rfl rfl rfl rfl (OpP.move rfl) ?_
      refine RW.pureS rfl rfl rfl rfl (OpP.indexSlice Tryd.underlying22 H.sz9 rfl rfl i rfl ha (by omega)) ?_
      refine RW.pureS rfl rfl rfl rfl (OpP.load H.ag9 rfl (hrow 0 _ rfl)) ?_
      refine RW.pureS rfl rfl rfl rfl (OpP.lenString Tryd.underlying9 rfl) ?_
      refine RW.pureS rfl rfl rfl rfl (OpP.gtr rfl rfl) ?_
      refine RW.done rfl ?_
      refine G.sub (ρ' := [(0, _), (3, _), (10, _), (18, _)]) ⟨rfl, rfl, rfl, rfl, trivial⟩ ?_
      refine G.ite rfl rfl (fun hlong => ?_) (fun hlong => ?_)
      · rw [decide_eq_true (show 24 < s.length by omega)] at hcon
        refine G.seq rfl ?_
        refine G.reg Tryd.func26 rfl ?_
        refine RW.pureS rfl rfl rfl rfl (OpP.assign rfl) ?_
        refine RW.done rfl ?_
        refine G.sub (ρ' := [(0, _), (2, _), (3, _), (10, _), (18, _)]) ⟨rfl, rfl, rfl, rfl, rfl, trivial⟩ ?_
        refine G.ret Tryd.func26 rfl rfl ?_
        exact ⟨_, rfl, by rw [← hcon]; rfl, rfl⟩
      · rw [decide_eq_false (show ¬ 24 < s.length by omega), Bool.false_or] at hcon
        refine G.skip rfl ?_
        refine G.blkEnd ?_
        refine G.reg Tryd.func26 rfl ?_
        refine RW.pureS rfl rfl rfl rfl (OpP.move rfl) ?_
        refine RW.pureS rfl rfl rfl rfl (OpP.add64 rfl rfl ⟨by omega, by omega⟩) ?_
        refine RW.pureS rfl rfl rfl rfl (OpP.assign rfl) ?_
        refine RW.done rfl ?_
        refine G.sub (ρ' := [(0, _), (3, _), (10, _), (18, _)]) ⟨rfl, rfl, rfl, rfl, trivial⟩ ?_
        exact ih (i + 1) _ _ ⟨rfl, rfl, trivial⟩ ⟨by omega, rfl, hcon⟩ (by omega)
    · have hnil : rules.drop i = [] := List.drop_of_length_le (by omega)
      rw [hnil] at hcon
      refine G.exit rfl rfl ?_
      refine G.seq rfl ?_
      refine G.reg Tryd.func26 rfl ?_
      refine RW.pureS rfl rfl rfl rfl (OpP.assign rfl) ?_
      refine RW.done rfl ?_
      refine G.sub (ρ' := [(0, _), (2, _), (3, _), (10, _)]) ⟨rfl, rfl, rfl, rfl, trivial⟩ ?_
      refine G.ret Tryd.func26 rfl rfl ?_
      exact ⟨_, rfl, by rw [← hcon]; rfl, rfl⟩
theorem greatD_not {l : List By} (h : greatD l = false) : l.length ≤ 5 ∧ ∀ s ∈ l, s.length ≤ 24 := by
  simp only [greatD, Bool.or_eq_false_iff, decide_eq_false_iff_not, List.any_eq_false] at h
  exact ⟨by omega, fun s hs => by have := h.2 s hs; simpa using this⟩
theorem dmadeP_ne {rules : List By} {e : Int} (h : dmadeP rules = .inl e) : e ≠ 0 := by
  unfold dmadeP at h
  split at h
  · rename_i e' hm; cases h; exact makeP_ne hm
  · unfold dmakeP at h
    split at h
    · cases h; decide
    · split at h
      · cases h; decide
      · cases h

end Go.Proofs.YtlegopbpofofgaaDoor

/- DfasNone, DfasNfa: what they answer. -/
namespace Go.Proofs.YtlegopbpofofgaaDoor
open Go Go.Lw
set_option maxRecDepth 20000

theorem emptyTab_ok : Tab.Ok ⟨[], []⟩ := ⟨rfl, by decide, fun r hr => (by cases hr), fun x hx => (by cases hx)⟩
theorem dmin_empty {h : Heap} {p : Value} (k : TabAt h p ⟨[], []⟩) : CallsH Tryd.prog 29 #[p] h (Ret fun r h' => r = .pointer none ∧ h' = h) := by
  refine CallsH.of Tryd.func29 rfl rfl ?_
  refine G.seq rfl ?_
  refine G.reg Tryd.func29 rfl ?_
  refine RW.pureS rfl rfl rfl rfl (OpP.assign rfl) ?_
  refine RW.done rfl ?_
  refine G.sub (ρ' := [(0, _), (2, _)]) ⟨rfl, rfl, trivial⟩ ?_
  refine G.seq rfl ?_
  refine G.seq rfl ?_
  refine G.reg Tryd.func29 rfl ?_
  refine RW.pureS rfl rfl rfl rfl (OpP.move rfl) ?_
  refine RW.opS rfl rfl rfl rfl (OpX.call (vs := [_]) Tryd.func51 rfl H.nm51 rfl (CallsH.toX (dnone_calls k))) ?_
  rintro _ h0 ⟨rfl, hh0⟩
  subst hh0
  refine RW.done rfl ?_
  refine G.sub (ρ' := [(0, _), (2, _), (15, _)]) ⟨rfl, rfl, rfl, trivial⟩ ?_
  refine G.cond rfl rfl (fun _ => ?_) (fun hc => absurd hc (by simp))
  refine G.seq rfl ?_
  refine G.reg Tryd.func29 rfl ?_
  refine RW.pureS rfl rfl rfl rfl (OpP.assign rfl) ?_
  refine RW.done rfl ?_
  refine G.sub (ρ' := [(0, _), (2, _), (15, _)]) ⟨rfl, rfl, rfl, trivial⟩ ?_
  refine G.ret Tryd.func29 rfl rfl ?_
  exact ⟨_, rfl, rfl, rfl⟩
theorem dfasNone_calls {h : Heap} (hg : Sg h h.size) (htens : Tens h) {s : By} {a st : Int} (hst : -9223372036854775808 ≤ st ∧ st ≤ 9223372036854775807) :
    CallsH Tryd.prog 11 #[.string (bs s), .int .i64 a, .int .i64 st] h (Ret fun r h' => r = .bool true ∧ Ext0 h h') := by
  have hbs := bs_size s
  refine CallsH.of Tryd.func11 rfl rfl ?_
  refine G.seq rfl ?_
  refine G.reg Tryd.func11 rfl ?_
  refine RW.pureS rfl rfl rfl rfl (OpP.assign rfl) ?_
  refine RW.done rfl ?_
  refine G.sub (ρ' := [(0, _), (1, _), (2, _), (6, _)]) ⟨rfl, rfl, rfl, rfl, trivial⟩ ?_
  refine G.seq rfl ?_
  refine G.seq rfl ?_
  refine G.reg Tryd.func11 rfl ?_
  refine RW.pureS rfl rfl rfl rfl (OpP.move rfl) ?_
  refine RW.pureS rfl rfl rfl rfl (OpP.lenString Tryd.underlying9 rfl) ?_
  refine RW.pureS rfl rfl rfl rfl (OpP.gtr rfl rfl) ?_
  refine RW.done rfl ?_
  refine G.sub (ρ' := [(0, _), (1, _), (2, _), (6, _), (15, _)]) ⟨rfl, rfl, rfl, rfl, rfl, trivial⟩ ?_
  refine G.ite rfl rfl (fun hbig => ?_) (fun hbig => ?_)
  · refine G.seq rfl ?_
    refine G.reg Tryd.func11 rfl ?_
    refine RW.opS rfl rfl rfl rfl (OpX.call (vs := []) Tryd.func27 rfl H.nm27 rfl (CallsH.toX (tabled_calls hg (Nat.le_refl _) htens))) ?_
    rintro _ h1 ⟨rfl, e1⟩
    refine RW.pureS rfl rfl rfl rfl (OpP.assign rfl) ?_
    refine RW.done rfl ?_
    refine G.sub (ρ' := [(0, _), (1, _), (2, _), (6, _), (15, _)]) ⟨rfl, rfl, rfl, rfl, rfl, trivial⟩ ?_
    refine G.ret Tryd.func11 rfl rfl ?_
    exact ⟨_, rfl, rfl, e1⟩
  · have hs : s.length ≤ 1000000 := by omega
    refine G.skip rfl ?_
    refine G.seq rfl ?_
    refine G.reg Tryd.func11 rfl ?_
    refine RW.pureS rfl rfl rfl rfl (OpP.assign rfl) ?_
    refine RW.done rfl ?_
    refine G.sub (ρ' := [(0, _), (1, _), (2, _), (6, _), (7, _), (15, _)]) ⟨rfl, rfl, rfl, rfl, rfl, rfl, trivial⟩ ?_
    refine G.seq rfl ?_
    refine G.seq rfl ?_
    refine G.reg Tryd.func11 rfl ?_
    refine RW.pureS rfl rfl rfl rfl (OpP.assign rfl) ?_
    refine RW.done rfl ?_
    refine G.sub (ρ' := [(0, _), (1, _), (2, _), (6, _), (7, _), (8, _), (15, _)]) ⟨rfl, rfl, rfl, rfl, rfl, rfl, rfl, trivial⟩ ?_
    refine G.block rfl rfl ?_
    refine G.loop (σ := Nat × Option Addr) (fun q => [(0, .string (bs s)), (1, .int .i64 a), (2, .int .i64 st), (7, .pointer q.2), (8, .int .i64 (q.1 : Nat))]) (fun q h' => q.1 ≤ 2 ∧ Ext0 h h' ∧ TabAt h' (.pointer q.2) ⟨[], []⟩) (fun q => 2 - q.1) ((0, none)) rfl ⟨rfl, rfl, rfl, rfl, rfl, trivial⟩ ⟨by decide, Ext.refl _ _, .inl ⟨rfl, rfl⟩⟩ ?_
    rintro ⟨i, q⟩ g ⟨hi, eg, hq⟩ ih
    try dsimp only
    dsimp only at hi hq
    refine G.seq rfl ?_
    refine G.seq rfl ?_
    refine G.reg Tryd.func11 rfl ?_
    refine RW.pureS rfl rfl rfl rfl (OpP.move rfl) ?_
    refine RW.pureS rfl rfl rfl rfl (OpP.lss rfl rfl) ?_
    refine RW.done rfl ?_
    refine G.sub (ρ' := [(0, _), (1, _), (2, _), (7, _), (8, _), (18, _)]) ⟨rfl, rfl, rfl, rfl, rfl, rfl, trivial⟩ ?_
    refine G.ite rfl rfl (fun hlt => ?_) (fun hlt => ?_)
    · refine G.skip rfl ?_
      refine G.seq rfl ?_
      refine G.block rfl rfl ?_
      refine G.seq rfl ?_
      refine G.seq rfl ?_
      refine G.regToX (fun (_u : Unit) (h' : Heap) => h' = g) (fun (_u : Unit) => [(47, .bool false)]) [(0, _), (1, _), (2, _), (7, _), (8, _), (18, _)] ⟨rfl, rfl, rfl, rfl, rfl, rfl, trivial⟩ Tryd.func11 rfl ?_ ?_
      · refine RW.pureS rfl rfl rfl rfl (OpP.move rfl) ?_
        refine RW.opS rfl rfl rfl rfl (OpX.call (vs := [_]) Tryd.func29 rfl H.nm29 rfl (CallsH.toX (dmin_empty hq))) ?_
        rintro _ g1 ⟨rfl, hh1⟩
        subst hh1
        refine RW.pureS rfl rfl rfl rfl (OpP.neqNil Tryd.underlying50 rfl rfl) ?_
        refine RW.pureS rfl rfl rfl rfl (OpP.move rfl) ?_
        refine RW.know (d := 24) (b' := false) rfl (rfl) ?_
        refine RW.pureS rfl rfl rfl rfl (OpP.move rfl) ?_
        refine RW.opS rfl rfl rfl rfl (OpX.call (vs := [_]) Tryd.func32 rfl H.nm32 rfl (CallsH.toX (states_calls hq))) ?_
        rintro _ g1 ⟨rfl, hh1⟩
        refine RW.pureS rfl rfl rfl rfl (OpP.neqInt rfl rfl) ?_
        refine RW.pureS rfl rfl rfl rfl (OpP.pickF rfl rfl) ?_
        refine RW.pureS rfl rfl rfl rfl (OpP.move rfl) ?_
        subst hh1
        refine RW.know (d := 29) (b' := false) rfl (rfl) ?_
        refine RW.pureS rfl rfl rfl rfl (OpP.move rfl) ?_
        refine RW.pureS rfl rfl rfl rfl (OpP.move rfl) ?_
        refine RW.opS rfl rfl rfl rfl (OpX.call (vs := [_, _, _]) Tryd.func33 rfl H.nm33 rfl (CallsH.toX (dstep_calls st 97 hq hst))) ?_
        rintro _ g1 ⟨rfl, hh1⟩
        refine RW.pureS rfl rfl rfl rfl (OpP.neqInt rfl rfl) ?_
        refine RW.pureS rfl rfl rfl rfl (OpP.pickF rfl rfl) ?_
        refine RW.pureS rfl rfl rfl rfl (OpP.move rfl) ?_
        subst hh1
        refine RW.know (d := 35) (b' := false) rfl ((by rw [dstepA]; split <;> rfl)) ?_
        refine RW.pureS rfl rfl rfl rfl (OpP.move rfl) ?_
        refine RW.pureS rfl rfl rfl rfl (OpP.move rfl) ?_
        refine RW.opS rfl rfl rfl rfl (OpX.call (vs := [_, _]) Tryd.func34 rfl H.nm34 rfl (CallsH.toX (dacc_calls st hq rfl hst))) ?_
        rintro _ g1 ⟨rfl, hh1⟩
        refine RW.pureS rfl rfl rfl rfl (OpP.neqInt rfl rfl) ?_
        refine RW.pureS rfl rfl rfl rfl (OpP.pickF rfl rfl) ?_
        refine RW.pureS rfl rfl rfl rfl (OpP.move rfl) ?_
        subst hh1
        refine RW.know (d := 41) (b' := false) rfl ((by rw [daccA]; split <;> rfl)) ?_
        refine RW.pureS rfl rfl rfl rfl (OpP.move rfl) ?_
        refine RW.pureS rfl rfl rfl rfl (OpP.move rfl) ?_
        refine RW.pureS rfl rfl rfl rfl (OpP.move rfl) ?_
        refine RW.opS rfl rfl rfl rfl (OpX.call (vs := [_, _, _, _, _, _]) Tryd.func36 rfl H.nm36 rfl (CallsH.toX (takes12_calls (a := a) hq emptyTab_ok hs))) ?_
        rintro _ g1 ⟨rfl, hh1⟩
        refine RW.pureS rfl rfl rfl rfl (OpP.notB rfl) ?_
        refine RW.pureS rfl rfl rfl rfl (OpP.pickF rfl rfl) ?_
        subst hh1
        refine RW.done rfl ?_
        exact ⟨(), rfl, at_bool rfl (by rw [dmatchA, if_pos (.inl rfl)]; rfl), rfl, rfl, rfl, rfl, rfl, rfl, trivial⟩
      · rintro _ h2 rfl
        refine G.cond rfl rfl (fun hc => absurd hc (by decide)) (fun _ => ?_)
        refine G.skip rfl ?_
        refine G.reg Tryd.func11 rfl ?_
        refine RW.pureS rfl rfl rfl rfl (OpP.build (H.bd76_ ) rfl) ?_
        refine RW.opS rfl rfl rfl rfl (OpX.boxN rfl) ?_
        rintro _ h3 ⟨rfl, k3, e3, z3⟩
        refine RW.pureS rfl rfl rfl rfl (OpP.assign rfl) ?_
        refine RW.done rfl ?_
        refine G.sub (ρ' := [(0, _), (1, _), (2, _), (7, _), (8, _), (18, _), (47, _)]) ⟨rfl, rfl, rfl, rfl, rfl, rfl, rfl, trivial⟩ ?_
        refine G.blkEnd ?_
        refine G.reg Tryd.func11 rfl ?_
        refine RW.pureS rfl rfl rfl rfl (OpP.move rfl) ?_
        refine RW.pureS rfl rfl rfl rfl (OpP.add64 rfl rfl ⟨by omega, by omega⟩) ?_
        refine RW.pureS rfl rfl rfl rfl (OpP.assign rfl) ?_
        refine RW.done rfl ?_
        refine G.sub (ρ' := [(0, _), (1, _), (2, _), (7, _), (8, _), (18, _), (47, _)]) ⟨rfl, rfl, rfl, rfl, rfl, rfl, rfl, trivial⟩ ?_
        have k3 : Blk h3 h2.size 76 [.slice none 0 0, .slice none 0 0] := k3
        exact ih (i + 1, some ⟨h2.size, 0, none⟩) _ _ ⟨rfl, rfl, rfl, rfl, rfl, trivial⟩ ⟨by show i + 1 ≤ 2; omega, eg.trans e3, .inr ⟨h2.size, rfl, _, _, k3, SlR.nil _ _ _, SlR.nil _ _ _⟩⟩ (by show 2 - (i + 1) < 2 - i; omega)
    · refine G.exit rfl rfl ?_
      refine G.seq rfl ?_
      refine G.reg Tryd.func11 rfl ?_
      refine RW.opS rfl rfl rfl rfl (OpX.call (vs := [_]) Tryd.func37 rfl H.nm37 rfl (CallsH.toX (dmake_none (.inl rfl)))) ?_
      rintro _ h1 ⟨rfl, hh1⟩
      subst hh1
      refine RW.pureS rfl rfl rfl rfl (OpP.move rfl) ?_
      refine RW.pureS rfl rfl rfl rfl (OpP.extract rfl rfl) ?_
      refine RW.pureS rfl rfl rfl rfl (OpP.extract rfl rfl) ?_
      refine RW.pureS rfl rfl rfl rfl (OpP.assign rfl) ?_
      refine RW.pureS rfl rfl rfl rfl (OpP.assign rfl) ?_
      refine RW.done rfl ?_
      refine G.sub (ρ' := [(0, _), (1, _), (2, _), (7, _), (8, _), (9, _), (10, _), (18, _)]) ⟨rfl, rfl, rfl, rfl, rfl, rfl, rfl, rfl, trivial⟩ ?_
      refine G.seq rfl ?_
      refine G.reg Tryd.func11 rfl ?_
      refine RW.pureS rfl rfl rfl rfl (OpP.build (H.bd44_ ) rfl) ?_
      refine RW.opS rfl rfl rfl rfl (OpX.boxN rfl) ?_
      rintro _ h2 ⟨rfl, k2, e2, z2⟩
      have k2 : Blk h2 h1.size 44 [.slice none 0 0, .int .i64 (0 : Nat)] := k2
      refine RW.opS rfl rfl rfl rfl (OpX.call (vs := [_]) Tryd.func37 rfl H.nm37 rfl (CallsH.toX (dmake_none (.inr ⟨fun _ => False, h1.size, _, 0, rfl, ⟨k2, OwX.nil _ _ _ _ _⟩⟩)))) ?_
      rintro _ h3 ⟨rfl, hh3⟩
      subst hh3
      have e03 := eg.trans e2
      refine RW.pureS rfl rfl rfl rfl (OpP.move rfl) ?_
      refine RW.pureS rfl rfl rfl rfl (OpP.extract rfl rfl) ?_
      refine RW.pureS rfl rfl rfl rfl (OpP.extract rfl rfl) ?_
      refine RW.pureS rfl rfl rfl rfl (OpP.assign rfl) ?_
      refine RW.pureS rfl rfl rfl rfl (OpP.assign rfl) ?_
      refine RW.done rfl ?_
      refine G.sub (ρ' := [(0, _), (1, _), (2, _), (7, _), (8, _), (9, _), (10, _), (11, _), (12, _), (18, _)]) ⟨rfl, rfl, rfl, rfl, rfl, rfl, rfl, rfl, rfl, rfl, trivial⟩ ?_
      refine G.seq rfl ?_
      refine G.regToX (fun (_u : Unit) (h' : Heap) => Ext0 h h') (fun (_u : Unit) => [(6, .bool true)]) [(0, _), (1, _), (2, _), (7, _), (8, _), (9, _), (10, _), (11, _), (12, _), (18, _)] ⟨rfl, rfl, rfl, rfl, rfl, rfl, rfl, rfl, rfl, rfl, trivial⟩ Tryd.func11 rfl ?_ ?_
      · refine RW.pureS rfl rfl rfl rfl (OpP.move rfl) ?_
        refine RW.pureS rfl rfl rfl rfl (OpP.eqlNil Tryd.underlying50 rfl rfl) ?_
        refine RW.pureS rfl rfl rfl rfl (OpP.move rfl) ?_
        refine RW.know (d := 62) (b' := true) rfl (rfl) ?_
        refine RW.pureS rfl rfl rfl rfl (OpP.move rfl) ?_
        refine RW.pureS rfl rfl rfl rfl (OpP.eqlInt rfl rfl) ?_
        refine RW.pureS rfl rfl rfl rfl (OpP.pickT rfl rfl) ?_
        refine RW.pureS rfl rfl rfl rfl (OpP.move rfl) ?_
        refine RW.know (d := 66) (b' := true) rfl (rfl) ?_
        refine RW.pureS rfl rfl rfl rfl (OpP.move rfl) ?_
        refine RW.pureS rfl rfl rfl rfl (OpP.eqlNil Tryd.underlying50 rfl rfl) ?_
        refine RW.pureS rfl rfl rfl rfl (OpP.pickT rfl rfl) ?_
        refine RW.pureS rfl rfl rfl rfl (OpP.move rfl) ?_
        refine RW.know (d := 70) (b' := true) rfl (rfl) ?_
        refine RW.pureS rfl rfl rfl rfl (OpP.move rfl) ?_
        refine RW.pureS rfl rfl rfl rfl (OpP.eqlInt rfl rfl) ?_
        refine RW.pureS rfl rfl rfl rfl (OpP.pickT rfl rfl) ?_
        refine RW.pureS rfl rfl rfl rfl (OpP.move rfl) ?_
        refine RW.know (d := 74) (b' := true) rfl (rfl) ?_
        refine RW.opS rfl rfl rfl rfl (OpX.call (vs := []) Tryd.func27 rfl H.nm27 rfl (CallsH.toX (tabled_calls (hg.ext e03 (fun _ k => k.elim)) e03.size (htens.ext0 e03)))) ?_
        rintro _ h4 ⟨rfl, e4⟩
        refine RW.pureS rfl rfl rfl rfl (OpP.pickT rfl rfl) ?_
        refine RW.pureS rfl rfl rfl rfl (OpP.assign rfl) ?_
        refine RW.done rfl ?_
        exact ⟨(), e03.trans e4, at_bool rfl (rfl), rfl, rfl, rfl, rfl, rfl, rfl, rfl, rfl, rfl, rfl, trivial⟩
      · rintro _ h4 e4
        refine G.ret Tryd.func11 rfl rfl ?_
        exact ⟨_, rfl, rfl, e4⟩

theorem table_steps (d : Tab) {s : By} {k : Nat} (hk : k ≤ s.length) (h0 : 0 < d.next.length) : (dmatchA d s k).1 ≤ (dmatchA d s k).2.2 ∧ (dmatchA d s k).2.2 ≤ s.length - k := by
  have := dmatchG_steps d (s.drop k) 0 0 (0, -1) (Int.le_refl _)
  rw [List.length_drop] at this
  unfold dmatchA
  rw [if_neg (by omega), Int.toNat_natCast]
  exact ⟨this.1, by have := this.2; omega⟩
theorem table_match {rules : List By} {d : Tab} (h : dmadeP rules = .inr d) (s : By) (a : Int) : ((dmatchA d s a).1, (dmatchA d s a).2.1) = matchM rules s a := by
  have hd := (dmadeP_ok h).2
  unfold dmadeP at h
  split at h
  · cases h
  · rename_i ss st hm
    have hst := (makeP_made hm).stl
    unfold matchM matchA dmatchA
    rw [hm]
    simp only
    by_cases ha : a < 0 ∨ (s.length : Int) < a
    · rw [if_pos (.inr ha), if_pos (.inr ha)]
    · rw [if_neg (by omega), if_neg (by omega)]
      exact dmakeP_match h (by omega) _
theorem dfasNfa_calls {h : Heap} (hg : Sg h h.size) (htens : Tens h) {rv : Value} {rules : List By} {s : By} (hr : SlR eBy h (fun _ => False) rv rules) :
    CallsH Tryd.prog 14 #[rv, .string (bs s)] h (Ret fun r h' => r = .bool true ∧ Ext0 h h') := by
  have hbs := bs_size s
  refine CallsH.of Tryd.func14 rfl rfl ?_
  refine G.seq rfl ?_
  refine G.reg Tryd.func14 rfl ?_
  refine RW.pureS rfl rfl rfl rfl (OpP.assign rfl) ?_
  refine RW.done rfl ?_
  refine G.sub (ρ' := [(0, _), (1, _), (4, _)]) ⟨rfl, rfl, rfl, trivial⟩ ?_
  refine G.seq rfl ?_
  refine G.seq rfl ?_
  refine G.regToX (fun (_u : Unit) (h' : Heap) => h' = h) (fun (_u : Unit) => [(20, .bool (greatD rules || decide (100 < s.length)))]) [(0, _), (1, _), (4, _)] ⟨rfl, rfl, rfl, trivial⟩ Tryd.func14 rfl ?_ ?_
  · refine RW.pureS rfl rfl rfl rfl (OpP.move rfl) ?_
    refine RW.opS rfl rfl rfl rfl (OpX.call (vs := [_]) Tryd.func26 rfl H.nm26 rfl (CallsH.toX (great12_calls hr))) ?_
    rintro _ h0 ⟨rfl, hh0⟩
    refine RW.pureS rfl rfl rfl rfl (OpP.move rfl) ?_
    subst hh0
    refine RW.split (d := 16) rfl (fun hg1 => ?_) (fun hg1 => ?_)
    · refine RW.skipS rfl rfl rfl rfl ?_
      refine RW.skipS rfl rfl rfl rfl ?_
      refine RW.skipS rfl rfl rfl rfl ?_
      refine RW.pureS rfl rfl rfl rfl (OpP.pickT rfl rfl) ?_
      refine RW.done rfl ?_
      exact ⟨(), rfl, at_bool rfl (by rw [hg1, Bool.true_or]), rfl, rfl, rfl, trivial⟩
    · refine RW.pureS rfl rfl rfl rfl (OpP.move rfl) ?_
      refine RW.pureS rfl rfl rfl rfl (OpP.lenString Tryd.underlying9 rfl) ?_
      refine RW.pureS rfl rfl rfl rfl (OpP.gtr rfl rfl) ?_
      refine RW.pureS rfl rfl rfl rfl (OpP.pickF rfl rfl) ?_
      refine RW.done rfl ?_
      exact ⟨(), rfl, at_bool rfl (by rw [hg1, Bool.false_or]; simp only [decide_eq_decide]; omega), rfl, rfl, rfl, trivial⟩
  · rintro _ h0 rfl
    refine G.cond rfl rfl (fun hbig => ?_) (fun hbig => ?_)
    · refine G.seq rfl ?_
      refine G.reg Tryd.func14 rfl ?_
      refine RW.opS rfl rfl rfl rfl (OpX.call (vs := []) Tryd.func27 rfl H.nm27 rfl (CallsH.toX (tabled_calls hg (Nat.le_refl _) htens))) ?_
      rintro _ h1 ⟨rfl, e1⟩
      refine RW.pureS rfl rfl rfl rfl (OpP.assign rfl) ?_
      refine RW.done rfl ?_
      refine G.sub (ρ' := [(0, _), (1, _), (4, _), (20, _)]) ⟨rfl, rfl, rfl, rfl, trivial⟩ ?_
      refine G.ret Tryd.func14 rfl rfl ?_
      exact ⟨_, rfl, rfl, e1⟩
    · rw [Bool.or_eq_false_iff] at hbig
      have hnot := greatD_not hbig.1
      have hs100 : s.length ≤ 100 := by have := of_decide_eq_false hbig.2; omega
      refine G.skip rfl ?_
      refine G.seq rfl ?_
      refine G.reg Tryd.func14 rfl ?_
      refine RW.pureS rfl rfl rfl rfl (OpP.move rfl) ?_
      refine RW.opS rfl rfl rfl rfl (OpX.call (vs := [_]) Tryd.func28 rfl H.nm28 rfl (CallsH.toX (made12_calls hg (Nat.le_refl _) htens hr (fun x hx => by have := hnot.2 x hx; omega)))) ?_
      rintro _ h1 ⟨⟨p, q, rfl, hp⟩, e1⟩
      rcases hdm : dmadeP rules with e | d
      · have hE : dmadeE rules = e := by unfold dmadeE; rw [hdm]
        have hne := dmadeP_ne hdm
        rw [hE]
        refine RW.pureS rfl rfl rfl rfl (OpP.move rfl) ?_
        refine RW.pureS rfl rfl rfl rfl (OpP.extract rfl rfl) ?_
        refine RW.pureS rfl rfl rfl rfl (OpP.extract rfl rfl) ?_
        refine RW.pureS rfl rfl rfl rfl (OpP.extract rfl rfl) ?_
        refine RW.pureS rfl rfl rfl rfl (OpP.assign rfl) ?_
        refine RW.pureS rfl rfl rfl rfl (OpP.assign rfl) ?_
        refine RW.pureS rfl rfl rfl rfl (OpP.assign rfl) ?_
        refine RW.done rfl ?_
        refine G.sub (ρ' := [(0, _), (1, _), (4, _), (5, _), (6, _), (7, _), (20, _)]) ⟨rfl, rfl, rfl, rfl, rfl, rfl, rfl, trivial⟩ ?_
        refine G.seq rfl ?_
        refine G.seq rfl ?_
        refine G.reg Tryd.func14 rfl ?_
        refine RW.pureS rfl rfl rfl rfl (OpP.move rfl) ?_
        refine RW.pureS rfl rfl rfl rfl (OpP.neqInt rfl rfl) ?_
        refine RW.done rfl ?_
        refine G.sub (ρ' := [(0, _), (1, _), (4, _), (5, _), (6, _), (7, _), (20, _), (29, _)]) ⟨rfl, rfl, rfl, rfl, rfl, rfl, rfl, rfl, trivial⟩ ?_
        refine G.cond rfl rfl (fun _ => ?_) (fun hc => absurd hc (by simp [hne]))
        refine G.seq rfl ?_
        refine G.reg Tryd.func14 rfl ?_
        refine RW.opS rfl rfl rfl rfl (OpX.call (vs := []) Tryd.func27 rfl H.nm27 rfl (CallsH.toX (tabled_calls (hg.ext e1 (fun _ k => k.elim)) e1.size (htens.ext0 e1)))) ?_
        rintro _ h2 ⟨rfl, e2⟩
        refine RW.pureS rfl rfl rfl rfl (OpP.assign rfl) ?_
        refine RW.done rfl ?_
        refine G.sub (ρ' := [(0, _), (1, _), (4, _), (5, _), (6, _), (7, _), (20, _), (29, _)]) ⟨rfl, rfl, rfl, rfl, rfl, rfl, rfl, rfl, trivial⟩ ?_
        refine G.ret Tryd.func14 rfl rfl ?_
        exact ⟨_, rfl, rfl, e1.trans e2⟩
      · rw [hdm] at hp
        obtain ⟨hm, db, rfl, hk⟩ := hp
        have hE : dmadeE rules = 0 := by unfold dmadeE; rw [hdm]
        have hok := (dmadeP_ok hdm).1
        rw [hE]
        refine RW.pureS rfl rfl rfl rfl (OpP.move rfl) ?_
        refine RW.pureS rfl rfl rfl rfl (OpP.extract rfl rfl) ?_
        refine RW.pureS rfl rfl rfl rfl (OpP.extract rfl rfl) ?_
        refine RW.pureS rfl rfl rfl rfl (OpP.extract rfl rfl) ?_
        refine RW.pureS rfl rfl rfl rfl (OpP.assign rfl) ?_
        refine RW.pureS rfl rfl rfl rfl (OpP.assign rfl) ?_
        refine RW.pureS rfl rfl rfl rfl (OpP.assign rfl) ?_
        refine RW.done rfl ?_
        refine G.sub (ρ' := [(0, _), (1, _), (4, _), (5, _), (6, _), (7, _), (20, _)]) ⟨rfl, rfl, rfl, rfl, rfl, rfl, rfl, trivial⟩ ?_
        refine G.seq rfl ?_
        refine G.seq rfl ?_
        refine G.reg Tryd.func14 rfl ?_
        refine RW.pureS rfl rfl rfl rfl (OpP.move rfl) ?_
        refine RW.pureS rfl rfl rfl rfl (OpP.neqInt rfl rfl) ?_
        refine RW.done rfl ?_
        refine G.sub (ρ' := [(0, _), (1, _), (4, _), (5, _), (6, _), (7, _), (20, _), (29, _)]) ⟨rfl, rfl, rfl, rfl, rfl, rfl, rfl, rfl, trivial⟩ ?_
        refine G.cond rfl rfl (fun hc => absurd hc (by simp)) (fun _ => ?_)
        refine G.skip rfl ?_
        refine G.seq rfl ?_
        refine G.seq rfl ?_
        refine G.reg Tryd.func14 rfl ?_
        refine RW.pureS rfl rfl rfl rfl (OpP.assign rfl) ?_
        refine RW.done rfl ?_
        refine G.sub (ρ' := [(0, _), (1, _), (4, _), (5, _), (6, _), (7, _), (8, _), (20, _), (29, _)]) ⟨rfl, rfl, rfl, rfl, rfl, rfl, rfl, rfl, rfl, trivial⟩ ?_
        refine G.block rfl rfl ?_
        refine G.loop (σ := Nat) (fun k => [(1, .string (bs s)), (5, p), (6, .pointer (some ⟨db, 0, none⟩)), (8, .int .i64 (k : Nat))]) (fun k h' => Ext0 h1 h' ∧ k ≤ s.length + 1) (fun k => s.length + 1 - k) (0) rfl ⟨rfl, rfl, rfl, rfl, trivial⟩ ⟨Ext.refl _ _, by omega⟩ ?_
        rintro k g ⟨eg, hk1⟩ ih
        refine G.seq rfl ?_
        refine G.seq rfl ?_
        refine G.reg Tryd.func14 rfl ?_
        refine RW.pureS rfl rfl rfl rfl (OpP.move rfl) ?_
        refine RW.pureS rfl rfl rfl rfl (OpP.move rfl) ?_
        refine RW.pureS rfl rfl rfl rfl (OpP.lenString Tryd.underlying9 rfl) ?_
        refine RW.pureS rfl rfl rfl rfl (OpP.leq rfl rfl) ?_
        refine RW.done rfl ?_
        refine G.sub (ρ' := [(1, _), (5, _), (6, _), (8, _), (34, _)]) ⟨rfl, rfl, rfl, rfl, rfl, trivial⟩ ?_
        refine G.ite rfl rfl (fun hlt => ?_) (fun hlt => ?_)
        · refine G.skip rfl ?_
          refine G.seq rfl ?_
          refine G.block rfl rfl ?_
          refine G.seq rfl ?_
          refine G.reg Tryd.func14 rfl ?_
          refine RW.pureS rfl rfl rfl rfl (OpP.move rfl) ?_
          refine RW.pureS rfl rfl rfl rfl (OpP.move rfl) ?_
          refine RW.pureS rfl rfl rfl rfl (OpP.move rfl) ?_
          refine RW.opS rfl rfl rfl rfl (OpX.call (vs := [_, _, _]) Tryd.func30 rfl H.nm30 rfl (CallsH.toX (dmatch_calls (a := (k : Int)) (.inr ⟨db, rfl, hk.ext0 eg⟩) hok (by omega)))) ?_
          rintro _ g1 ⟨rfl, hg1⟩
          subst hg1
          refine RW.pureS rfl rfl rfl rfl (OpP.move rfl) ?_
          refine RW.pureS rfl rfl rfl rfl (OpP.extract rfl rfl) ?_
          refine RW.pureS rfl rfl rfl rfl (OpP.extract rfl rfl) ?_
          refine RW.pureS rfl rfl rfl rfl (OpP.extract rfl rfl) ?_
          refine RW.pureS rfl rfl rfl rfl (OpP.assign rfl) ?_
          refine RW.pureS rfl rfl rfl rfl (OpP.assign rfl) ?_
          refine RW.pureS rfl rfl rfl rfl (OpP.assign rfl) ?_
          refine RW.done rfl ?_
          refine G.sub (ρ' := [(1, _), (5, _), (6, _), (8, _), (9, _), (10, _), (11, _), (34, _)]) ⟨rfl, rfl, rfl, rfl, rfl, rfl, rfl, rfl, trivial⟩ ?_
          refine G.seq rfl ?_
          refine G.reg Tryd.func14 rfl ?_
          refine RW.pureS rfl rfl rfl rfl (OpP.move rfl) ?_
          refine RW.pureS rfl rfl rfl rfl (OpP.move rfl) ?_
          refine RW.pureS rfl rfl rfl rfl (OpP.move rfl) ?_
          refine RW.opS rfl rfl rfl rfl (OpX.call (vs := [_, _, _]) Tryd.func19 rfl H.nm19 rfl (CallsH.toX (match_made (a := (k : Int)) (hm.ext0 eg) (by omega)))) ?_
          rintro _ g2 ⟨rfl, e2⟩
          have htm := table_match hdm s k
          have hst := table_steps d (show k ≤ s.length by omega) (dmadeP_ok hdm).2
          rw [← htm]
          generalize dmatchA d s (k : Int) = m at *
          refine RW.pureS rfl rfl rfl rfl (OpP.move rfl) ?_
          refine RW.pureS rfl rfl rfl rfl (OpP.extract rfl rfl) ?_
          refine RW.pureS rfl rfl rfl rfl (OpP.extract rfl rfl) ?_
          refine RW.pureS rfl rfl rfl rfl (OpP.assign rfl) ?_
          refine RW.pureS rfl rfl rfl rfl (OpP.assign rfl) ?_
          refine RW.done rfl ?_
          refine G.sub (ρ' := [(1, _), (5, _), (6, _), (8, _), (9, _), (10, _), (11, _), (12, _), (13, _), (34, _)]) ⟨rfl, rfl, rfl, rfl, rfl, rfl, rfl, rfl, rfl, rfl, trivial⟩ ?_
          refine G.seq rfl ?_
          refine G.regTo1 [(72, .bool false)] [(1, _), (5, _), (6, _), (8, _), (9, _), (10, _), (11, _), (12, _), (13, _), (34, _)] ⟨rfl, rfl, rfl, rfl, rfl, rfl, rfl, rfl, rfl, rfl, trivial⟩ Tryd.func14 rfl ?_ ?_
          · refine RW.pureS rfl rfl rfl rfl (OpP.move rfl) ?_
            refine RW.pureS rfl rfl rfl rfl (OpP.move rfl) ?_
            refine RW.pureS rfl rfl rfl rfl (OpP.neqInt rfl rfl) ?_
            refine RW.pureS rfl rfl rfl rfl (OpP.move rfl) ?_
            refine RW.know (d := 55) (b' := false) rfl ((by simp)) ?_
            refine RW.pureS rfl rfl rfl rfl (OpP.move rfl) ?_
            refine RW.pureS rfl rfl rfl rfl (OpP.move rfl) ?_
            refine RW.pureS rfl rfl rfl rfl (OpP.neqInt rfl rfl) ?_
            refine RW.pureS rfl rfl rfl rfl (OpP.pickF rfl rfl) ?_
            refine RW.pureS rfl rfl rfl rfl (OpP.move rfl) ?_
            refine RW.know (d := 60) (b' := false) rfl ((by simp)) ?_
            refine RW.pureS rfl rfl rfl rfl (OpP.move rfl) ?_
            refine RW.pureS rfl rfl rfl rfl (OpP.move rfl) ?_
            refine RW.pureS rfl rfl rfl rfl (OpP.lss rfl rfl) ?_
            refine RW.pureS rfl rfl rfl rfl (OpP.pickF rfl rfl) ?_
            refine RW.pureS rfl rfl rfl rfl (OpP.move rfl) ?_
            refine RW.know (d := 65) (b' := false) rfl ((by simp; omega)) ?_
            refine RW.pureS rfl rfl rfl rfl (OpP.move rfl) ?_
            refine RW.pureS rfl rfl rfl rfl (OpP.move rfl) ?_
            refine RW.pureS rfl rfl rfl rfl (OpP.lenString Tryd.underlying9 rfl) ?_
            refine RW.pureS rfl rfl rfl rfl (OpP.move rfl) ?_
            refine RW.pureS rfl rfl rfl rfl (OpP.sub64 rfl rfl ⟨by omega, by omega⟩) ?_
            refine RW.pureS rfl rfl rfl rfl (OpP.gtr rfl rfl) ?_
            refine RW.pureS rfl rfl rfl rfl (OpP.pickF rfl rfl) ?_
            refine RW.done rfl ?_
            exact ⟨rfl, at_bool rfl (by simp; omega), rfl, rfl, rfl, rfl, rfl, rfl, rfl, rfl, rfl, rfl, trivial⟩
          · refine G.cond rfl rfl (fun hc => absurd hc (by decide)) (fun _ => ?_)
            refine G.skip rfl ?_
            refine G.blkEnd ?_
            refine G.reg Tryd.func14 rfl ?_
            refine RW.pureS rfl rfl rfl rfl (OpP.move rfl) ?_
            refine RW.pureS rfl rfl rfl rfl (OpP.add64 rfl rfl ⟨by omega, by omega⟩) ?_
            refine RW.pureS rfl rfl rfl rfl (OpP.assign rfl) ?_
            refine RW.done rfl ?_
            refine G.sub (ρ' := [(1, _), (5, _), (6, _), (8, _), (9, _), (10, _), (11, _), (12, _), (13, _), (34, _), (72, _)]) ⟨rfl, rfl, rfl, rfl, rfl, rfl, rfl, rfl, rfl, rfl, rfl, trivial⟩ ?_
            exact ih (k + 1) _ _ ⟨rfl, rfl, rfl, rfl, trivial⟩ ⟨eg.trans e2, by omega⟩ (by omega)
        · have e0 := e1.trans eg
          refine G.exit rfl rfl ?_
          refine G.seq rfl ?_
          refine G.reg Tryd.func14 rfl ?_
          refine RW.opS rfl rfl rfl rfl (OpX.call (vs := []) Tryd.func27 rfl H.nm27 rfl (CallsH.toX (tabled_calls (hg.ext e0 (fun _ k => k.elim)) e0.size (htens.ext0 e0)))) ?_
          rintro _ h9 ⟨rfl, e9⟩
          refine RW.pureS rfl rfl rfl rfl (OpP.assign rfl) ?_
          refine RW.done rfl ?_
          refine G.sub (ρ' := [(1, _), (4, _), (5, _), (6, _), (8, _), (34, _)]) ⟨rfl, rfl, rfl, rfl, rfl, rfl, trivial⟩ ?_
          refine G.ret Tryd.func14 rfl rfl ?_
          exact ⟨_, rfl, rfl, e0.trans e9⟩

end Go.Proofs.YtlegopbpofofgaaDoor

/- Two tables that say the same have the same least one. -/
namespace Go.Proofs.YtlegopbpofofgaaDoor
open Go

/-- What two tables say, each from a state on, is the same. -/
def Like (d e : Tab) (a b : Int) : Prop := ∀ w, d.says a w = e.says b w
inductive LikeOf (d e : Tab) : List Nat → List Nat → Prop
  | nil : LikeOf d e [] []
  | cons {x y : Nat} {o p : List Nat} : x < d.next.length → y < e.next.length → Like d e x y → LikeOf d e o p → LikeOf d e (x :: o) (y :: p)
theorem LikeOf.len {d e : Tab} {o p : List Nat} (h : LikeOf d e o p) : o.length = p.length := by
  induction h with
  | nil => rfl
  | cons _ _ _ _ ih => simp [ih]
theorem LikeOf.snoc {d e : Tab} {o p : List Nat} {x y : Nat} (h : LikeOf d e o p) (hx : x < d.next.length) (hy : y < e.next.length) (hl : Like d e x y) : LikeOf d e (o ++ [x]) (p ++ [y]) := by
  induction h with
  | nil => exact .cons hx hy hl .nil
  | cons a b c _ ih => exact .cons a b c ih
theorem LikeOf.get {d e : Tab} {o p : List Nat} (h : LikeOf d e o p) : ∀ (i : Nat) (x : Nat), o[i]? = some x → ∃ y, p[i]? = some y ∧ Like d e x y := by
  induction h with
  | nil => intro i x hx; simp at hx
  | cons a b c _ ih =>
    intro i x hx
    cases i with
    | zero =>
      simp only [List.getElem?_cons_zero, Option.some.injEq] at hx
      subst hx
      exact ⟨_, by simp, c⟩
    | succ i =>
      rw [List.getElem?_cons_succ] at hx ⊢
      exact ih i x hx

theorem findC_like {d e : Tab} (hd : d.Ok) (he : e.Ok) {t u : Nat} (ht : t < d.next.length) (hu : u < e.next.length) (htu : Like d e t u) {o p : List Nat} (h : LikeOf d e o p) : ∀ i : Nat,
    findC (classP d (liveP d)) i o ((classP d (liveP d)).getD t 0) = findC (classP e (liveP e)) i p ((classP e (liveP e)).getD u 0) := by
  induction h with
  | nil => intro i; rfl
  | @cons x y o p hx hy hl _ ih =>
    intro i
    rw [findC, findC]
    have h1 := classP_spec hd ht hx
    have h2 := classP_spec he hu hy
    by_cases k : (classP d (liveP d)).getD t 0 = (classP d (liveP d)).getD x 0
    · rw [if_pos k, if_pos (h2.2 fun w => by rw [← htu w, ← hl w]; exact h1.1 k w)]
    · rw [if_neg k, if_neg (fun q => k (h1.2 fun w => by rw [htu w, hl w]; exact h2.1 q w))]
      exact ih (i + 1)
theorem dead_like {d e : Tab} (hd : d.Ok) (he : e.Ok) {t u : Int} (ht : t < d.next.length) (hu : u < e.next.length) (h : Like d e t u) :
    (t < 0 ∨ (liveP d).getD t.toNat false = false) ↔ (u < 0 ∨ (liveP e).getD u.toNat false = false) := by
  rw [dead_iff hd ht, dead_iff he hu]
  exact ⟨fun k w => by rw [← h w]; exact k w, fun k w => by rw [h w]; exact k w⟩
theorem minStep_like {d e : Tab} (hd : d.Ok) (he : e.Ok) {t u : Int} (ht : t < d.next.length) (hu : u < e.next.length) (h : Like d e t u) {o p : List Nat} (ho : LikeOf d e o p) :
    LikeOf d e (minStep (liveP d) (classP d (liveP d)) o t).1 (minStep (liveP e) (classP e (liveP e)) p u).1 ∧ (minStep (liveP d) (classP d (liveP d)) o t).2 = (minStep (liveP e) (classP e (liveP e)) p u).2 := by
  have hdl := dead_like hd he ht hu h
  unfold minStep
  by_cases k : t < 0 ∨ (liveP d).getD t.toNat false = false
  · rw [if_pos k, if_pos (hdl.1 k)]
    exact ⟨ho, rfl⟩
  · have k' := fun q => k (hdl.2 q)
    rw [if_neg k, if_neg k']
    obtain ⟨t, rfl⟩ := Int.eq_ofNat_of_zero_le (show 0 ≤ t by omega)
    have hu0 : 0 ≤ u := by
      by_cases q : u < 0
      · exact absurd (.inl q) k'
      · omega
    obtain ⟨u, rfl⟩ := Int.eq_ofNat_of_zero_le hu0
    simp only [Int.toNat_natCast]
    rw [findC_like hd he (by omega) (by omega) h ho 0]
    split
    · exact ⟨ho, rfl⟩
    · exact ⟨ho.snoc (by omega) (by omega) h, by rw [ho.len]⟩
theorem minRow_like {d e : Tab} (hd : d.Ok) (he : e.Ok) : ∀ (r q : List Int) (o p : List Nat) (row : List Int), LikeOf d e o p → r.length = q.length → (∀ (i : Nat) (a b : Int), r[i]? = some a → q[i]? = some b → a < d.next.length ∧ b < e.next.length ∧ Like d e a b) →
    LikeOf d e (minRow (liveP d) (classP d (liveP d)) r o row).1 (minRow (liveP e) (classP e (liveP e)) q p row).1 ∧ (minRow (liveP d) (classP d (liveP d)) r o row).2 = (minRow (liveP e) (classP e (liveP e)) q p row).2
  | [], [], o, p, row, ho, _, _ => ⟨ho, rfl⟩
  | [], _ :: _, _, _, _, _, h, _ => by simp at h
  | _ :: _, [], _, _, _, _, h, _ => by simp at h
  | a :: r, b :: q, o, p, row, ho, hl, h => by
    obtain ⟨h1, h2, h3⟩ := h 0 a b (by simp) (by simp)
    obtain ⟨k1, k2⟩ := minStep_like hd he h1 h2 h3 ho
    rw [minRow, minRow, k2]
    exact minRow_like hd he r q _ _ _ k1 (by simpa using hl) (fun i a b ha hb => h (i + 1) a b (by simpa using ha) (by simpa using hb))
theorem minRow_ok {live : List Bool} {cls : List Int} {n : Nat} : ∀ (r : List Int) (of : List Nat) (row : List Int), OfOk n of → (∀ t ∈ r, t < n) → OfOk n (minRow live cls r of row).1
  | [], of, row, k, _ => k
  | t :: r, of, row, k, h => by
    rw [minRow]
    exact minRow_ok r _ _ (minStep_ok k (h t (by simp))) (fun u hu => h u (by simp [hu]))
theorem minStep_pre {live : List Bool} {cls : List Int} {of : List Nat} {t : Int} : of <+: (minStep live cls of t).1 := by
  unfold minStep
  split
  · exact List.prefix_refl _
  · split
    · exact List.prefix_refl _
    · exact List.prefix_append _ _
theorem minRow_pre {live : List Bool} {cls : List Int} : ∀ (r : List Int) (of : List Nat) (row : List Int), of <+: (minRow live cls r of row).1
  | [], of, row => List.prefix_refl _
  | t :: r, of, row => by
    rw [minRow]
    exact minStep_pre.trans (minRow_pre r _ _)
theorem row_lt {d : Tab} (hd : d.Ok) (k : Nat) : ∀ t ∈ d.row k, t < (d.next.length : Int) := fun t ht => by
  obtain ⟨c, rfl⟩ := row_to ht
  exact (Tab.to_lt hd c).2
theorem minG_like {d e : Tab} (hd : d.Ok) (he : e.Ok) : ∀ (n m i : Nat) (o p : List Nat) (next : List Row) (rule : List Int), LikeOf d e o p → OfOk d.next.length o → OfOk e.next.length p → i ≤ o.length → n + i = d.next.length + 1 → m + i = e.next.length + 1 →
    minG d (liveP d) (classP d (liveP d)) n i o next rule = minG e (liveP e) (classP e (liveP e)) m i p next rule
  | 0, m, i, o, p, next, rule, h, ho, hp, hi, hn, hm => by have := ho.len; omega
  | n + 1, 0, i, o, p, next, rule, h, ho, hp, hi, hn, hm => by have := hp.len; have := h.len; omega
  | n + 1, m + 1, i, o, p, next, rule, h, ho, hp, hi, hn, hm => by
    rw [minG, minG]
    rcases Nat.lt_or_ge i o.length with hlt | hge
    · obtain ⟨x, hx⟩ : ∃ x, o[i]? = some x := ⟨_, List.getElem?_eq_getElem hlt⟩
      obtain ⟨y, hy, hl⟩ := h.get i x hx
      rw [hx, hy]
      simp only
      have hxn := ho.lt x (List.mem_of_getElem? hx)
      have hyn := hp.lt y (List.mem_of_getElem? hy)
      have hru : d.ru x = e.ru y := by have := hl []; rwa [says_nil, says_nil] at this
      obtain ⟨k1, k2⟩ := minRow_like hd he (d.row x) (e.row y) o p [] h (by rw [row_len hxn, row_len hyn]) (fun j a b ha hb => by
        have hj : j < 256 := by rw [← row_len hxn]; exact (List.getElem?_eq_some_iff.1 ha).1
        have hc : (UInt8.ofNat j).toNat = j := by simp; omega
        have h1 := row_get hxn (UInt8.ofNat j)
        have h2 := row_get hyn (UInt8.ofNat j)
        rw [hc] at h1 h2
        obtain rfl := Option.some.inj (ha.symm.trans h1)
        obtain rfl := Option.some.inj (hb.symm.trans h2)
        exact ⟨(Tab.to_lt hd _).2, (Tab.to_lt he _).2, fun w => by rw [← says_cons, ← says_cons]; exact hl _⟩)
      rw [k2, hru]
      have hpre := (minRow_pre (live := liveP d) (cls := classP d (liveP d)) (d.row x) o []).length_le
      exact minG_like hd he n m (i + 1) _ _ _ _ k1 (minRow_ok _ _ _ ho (row_lt hd x)) (minRow_ok _ _ _ hp (row_lt he y)) (by omega) (by omega) (by omega)
    · have h2 := h.len
      rw [List.getElem?_eq_none hge, List.getElem?_eq_none (by omega)]
/-- What says the same has the same least table. -/
theorem min_like {d e : Tab} (hd : d.Ok) (he : e.Ok) (hdn : 0 < d.next.length) (hen : 0 < e.next.length) (h : Like d e 0 0) : minP d = minP e := by
  unfold minP
  rw [if_neg (by omega), if_neg (by omega)]
  exact minG_like hd he _ _ 0 [0] [0] [] [] (.cons hdn hen h .nil) ⟨by simp, fun x hx => by simp at hx; omega⟩ ⟨by simp, fun x hx => by simp at hx; omega⟩ (by simp) (by omega) (by omega)

end Go.Proofs.YtlegopbpofofgaaDoor

/- The least table says what its table says; it is trim; it is its own least table. -/
namespace Go.Proofs.YtlegopbpofofgaaDoor
open Go

/-- The place among the representatives of what stands behind. -/
def Stands (d : Tab) (of : List Nat) (t y : Int) : Prop := ((∀ w, d.says t w = -1) ∧ y = -1) ∨ ((∃ w, 0 ≤ d.says t w) ∧ ∃ (i x : Nat), y = (i : Int) ∧ of[i]? = some x ∧ Alike d t x)
theorem Stands.mono {d : Tab} {of of' : List Nat} {t y : Int} (k : Stands d of t y) (h : of <+: of') : Stands d of' t y := by
  rcases k with k | ⟨k, i, x, e, hi, ha⟩
  · exact .inl k
  · obtain ⟨l, rfl⟩ := h
    exact .inr ⟨k, i, x, e, by rw [List.getElem?_append_left (List.getElem?_eq_some_iff.1 hi).1]; exact hi, ha⟩
/-- Of the representatives no two say the same. -/
def Apart (d : Tab) (of : List Nat) : Prop := ∀ (i j x y : Nat), of[i]? = some x → of[j]? = some y → Alike d x y → i = j
structure Rep (d : Tab) (of : List Nat) : Prop where
  ok : OfOk d.next.length of
  apart : Apart d of

theorem minStep_rep {d : Tab} (hd : d.Ok) {of : List Nat} {t : Int} (k : Rep d of) (ht : t < d.next.length) :
    Rep d (minStep (liveP d) (classP d (liveP d)) of t).1 ∧ Stands d (minStep (liveP d) (classP d (liveP d)) of t).1 t (minStep (liveP d) (classP d (liveP d)) of t).2 := by
  have hdead := dead_iff hd ht
  have hok := minStep_ok (live := liveP d) (cls := classP d (liveP d)) k.ok ht
  revert hok
  unfold minStep
  split
  · rename_i h
    exact fun _ => ⟨k, .inl ⟨hdead.1 h, rfl⟩⟩
  · rename_i h
    have halive : ∃ w, 0 ≤ d.says t w := by
      by_cases q : ∃ w, 0 ≤ d.says t w
      · exact q
      · refine absurd (hdead.2 fun w => ?_) h
        have h1 := says_ge hd t w
        have h2 : ¬ 0 ≤ d.says t w := fun z => q ⟨w, z⟩
        omega
    obtain ⟨n, rfl⟩ := Int.eq_ofNat_of_zero_le (show 0 ≤ t by omega)
    simp only [Int.toNat_natCast]
    split
    · rename_i i hi
      intro _
      obtain ⟨_, x, hx, he⟩ := findC_some of 0 i _ hi
      have hxl := k.ok.lt x (List.mem_of_getElem? hx)
      exact ⟨k, .inr ⟨halive, i, x, rfl, by simpa using hx, (classP_spec hd (by omega) hxl).1 he⟩⟩
    · rename_i hi
      intro hok
      have hne := findC_none of 0 _ hi
      refine ⟨⟨hok, fun i j x y hx hy ha => ?_⟩, .inr ⟨halive, of.length, n, rfl, by simp, fun w => rfl⟩⟩
      have hcase : ∀ (i x : Nat), (of ++ [n])[i]? = some x → (i < of.length ∧ of[i]? = some x) ∨ (i = of.length ∧ x = n) := fun i x hx => by
        rcases Nat.lt_or_ge i of.length with hl | hl
        · rw [List.getElem?_append_left hl] at hx; exact .inl ⟨hl, hx⟩
        · have := (List.getElem?_eq_some_iff.1 hx).1
          simp at this
          have hil : i = of.length := by omega
          subst hil
          simp only [List.getElem?_concat_length, Option.some.injEq] at hx
          exact .inr ⟨rfl, hx.symm⟩
      rcases hcase i x hx with ⟨h1, h2⟩ | ⟨h1, h2⟩ <;> rcases hcase j y hy with ⟨h3, h4⟩ | ⟨h3, h4⟩
      · exact k.apart i j x y h2 h4 ha
      · subst h4
        have hxm := List.mem_of_getElem? h2
        exact absurd ((classP_spec hd (by omega) (k.ok.lt x hxm)).2 fun w => (ha w).symm) (hne x hxm)
      · subst h2
        have hym := List.mem_of_getElem? h4
        exact absurd ((classP_spec hd (by omega) (k.ok.lt y hym)).2 ha) (hne y hym)
      · omega
theorem minRow_rep {d : Tab} (hd : d.Ok) : ∀ (r : List Int) (of : List Nat) (row : List Int), Rep d of → (∀ t ∈ r, t < (d.next.length : Int)) →
    Rep d (minRow (liveP d) (classP d (liveP d)) r of row).1 ∧ ∃ ys, (minRow (liveP d) (classP d (liveP d)) r of row).2 = row ++ ys ∧ ys.length = r.length ∧ ∀ (j : Nat) (t y : Int), r[j]? = some t → ys[j]? = some y → Stands d (minRow (liveP d) (classP d (liveP d)) r of row).1 t y
  | [], of, row, k, _ => ⟨k, [], by simp [minRow], rfl, fun j t y h => by simp at h⟩
  | t :: r, of, row, k, h => by
    obtain ⟨h1, h2⟩ := minStep_rep hd k (h t (by simp))
    obtain ⟨k1, ys, k3, k4, k5⟩ := minRow_rep hd r (minStep (liveP d) (classP d (liveP d)) of t).1 (row ++ [(minStep (liveP d) (classP d (liveP d)) of t).2]) h1 (fun u hu => h u (by simp [hu]))
    rw [minRow]
    refine ⟨k1, (minStep (liveP d) (classP d (liveP d)) of t).2 :: ys, by rw [k3]; simp, by simp [k4], fun j u y hu hy => ?_⟩
    cases j with
    | zero =>
      simp only [List.getElem?_cons_zero, Option.some.injEq] at hu hy
      subst hu; subst hy
      exact h2.mono (minRow_pre _ _ _)
    | succ j => exact k5 j u y (by simpa using hu) (by simpa using hy)

/-- What Min makes: of each representative its row and its rule. -/
structure Reps (d : Tab) (of : List Nat) (m : Tab) : Prop where
  rep : Rep d of
  first : of[0]? = some 0
  rlen : m.rule.length = m.next.length
  row : ∀ (k : Nat) (r : Row) (x : Nat), m.next[k]? = some r → of[k]? = some x → ∀ (c : UInt8) (y : Int), r.v[c.toNat]? = some y → Stands d of (d.to x c) y
  rule : ∀ (k : Nat) (y : Int) (x : Nat), m.rule[k]? = some y → of[k]? = some x → y = d.ru x
theorem minG_rep {d : Tab} (hd : d.Ok) : ∀ (n i : Nat) (of : List Nat) (next : List Row) (rule : List Int), Reps d of ⟨next, rule⟩ → next.length = i → i ≤ of.length → n + i = d.next.length + 1 →
    ∃ of', Reps d of' (minG d (liveP d) (classP d (liveP d)) n i of next rule) ∧ of'.length = (minG d (liveP d) (classP d (liveP d)) n i of next rule).next.length
  | 0, i, of, next, rule, h, hi, hio, hn => by have := h.rep.ok.len; omega
  | n + 1, i, of, next, rule, h, hi, hio, hn => by
    rw [minG]
    split
    · rename_i hnone
      have := List.getElem?_eq_none_iff.1 hnone
      exact ⟨of, h, by show of.length = next.length; omega⟩
    · rename_i x hx
      have hxl := h.rep.ok.lt x (List.mem_of_getElem? hx)
      obtain ⟨k1, ys, k3, k4, k5⟩ := minRow_rep hd (d.row x) of [] h.rep (row_lt hd x)
      have hpre := minRow_pre (live := liveP d) (cls := classP d (liveP d)) (d.row x) of []
      rw [row_len hxl] at k4
      have hol := (List.getElem?_eq_some_iff.1 hx).1
      generalize minRow (liveP d) (classP d (liveP d)) (d.row x) of [] = q at *
      have hb : ∀ (j y : Nat), j < of.length → q.1[j]? = some y → of[j]? = some y := fun j y hj hy => by
        obtain ⟨t, ht⟩ := hpre
        rw [← ht, List.getElem?_append_left hj] at hy
        exact hy
      have hf : ∀ (j y : Nat), of[j]? = some y → q.1[j]? = some y := fun j y hy => by
        obtain ⟨t, ht⟩ := hpre
        rw [← ht, List.getElem?_append_left (List.getElem?_eq_some_iff.1 hy).1]
        exact hy
      have hrl : rule.length = next.length := h.rlen
      have hlen := hpre.length_le
      refine minG_rep hd n (i + 1) _ _ _ ⟨k1, hf _ _ h.first, by simp [hrl], fun k r z hr hz c y hy => ?_, fun k y z hy hz => ?_⟩ (by simp [hi]) (by omega) (by omega)
      · rcases Nat.lt_or_ge k next.length with hk | hk
        · rw [List.getElem?_append_left hk] at hr
          exact (h.row k r z hr (hb k z (by omega) hz) c y hy).mono hpre
        · have hkn : k = next.length := by
            have := (List.getElem?_eq_some_iff.1 hr).1
            simp at this; omega
          subst hkn
          simp only [List.getElem?_concat_length, Option.some.injEq] at hr
          subst hr
          have hzx := hb _ z (by omega) hz
          rw [hi, hx] at hzx
          cases hzx
          rw [k3, List.nil_append, mkRow_v k4] at hy
          exact k5 c.toNat _ y (row_get hxl c) hy
      · rcases Nat.lt_or_ge k rule.length with hk | hk
        · rw [List.getElem?_append_left hk] at hy
          exact h.rule k y z hy (hb k z (by omega) hz)
        · have hkn : k = rule.length := by
            have := (List.getElem?_eq_some_iff.1 hy).1
            simp at this; omega
          subst hkn
          simp only [List.getElem?_concat_length, Option.some.injEq] at hy
          subst hy
          have hzx := hb _ z (by omega) hz
          rw [hrl, hi, hx] at hzx
          cases hzx
          rfl
theorem minP_reps {d : Tab} (hd : d.Ok) (hn : 0 < d.next.length) : ∃ of, Reps d of (minP d) ∧ of.length = (minP d).next.length := by
  unfold minP
  rw [if_neg (by omega)]
  refine minG_rep hd _ 0 [0] [] [] ⟨⟨⟨by simp, fun x hx => by simp at hx; omega⟩, fun i j x y hx hy _ => ?_⟩, rfl, rfl, fun k r x hr => by simp at hr, fun k y x hy => by simp at hy⟩ rfl (by simp) (by omega)
  have h1 := (List.getElem?_eq_some_iff.1 hx).1
  have h2 := (List.getElem?_eq_some_iff.1 hy).1
  simp at h1 h2; omega

theorem Reps.to {d m : Tab} {of : List Nat} (k : Reps d of m) (hl : of.length = m.next.length) {s x : Nat} (hx : of[s]? = some x) (c : UInt8) : Stands d of (d.to x c) (m.to s c) := by
  have hs := (List.getElem?_eq_some_iff.1 hx).1
  have hr : m.next[s]? = some (m.next[s]'(by omega)) := List.getElem?_eq_getElem _
  obtain ⟨y, hy, he, _⟩ := (m.next[s]'(by omega)).at c
  unfold Tab.to
  rw [hr]
  simp only
  rw [he]
  exact k.row s _ x hr hx c y hy
theorem Reps.ru {d m : Tab} {of : List Nat} (k : Reps d of m) (hl : of.length = m.next.length) {s x : Nat} (hx : of[s]? = some x) : m.ru s = d.ru x := by
  have hs := (List.getElem?_eq_some_iff.1 hx).1
  have hlt : s < m.rule.length := by rw [k.rlen]; omega
  have hr : m.rule[s]? = some (m.rule[s]'hlt) := List.getElem?_eq_getElem _
  have := k.rule s _ x hr hx
  unfold Tab.ru at this ⊢
  rw [List.getD_eq_getElem?_getD, hr]
  exact this
theorem Reps.says {d m : Tab} {of : List Nat} (k : Reps d of m) (hl : of.length = m.next.length) : ∀ (w : By) (s x : Nat), of[s]? = some x → m.says (s : Int) w = d.says (x : Int) w
  | [], s, x, hx => by rw [says_nil, says_nil, k.ru hl hx]
  | c :: w, s, x, hx => by
    rw [says_cons, says_cons]
    rcases k.to hl hx c with ⟨h1, h2⟩ | ⟨_, i, y, h2, h3, h4⟩
    · rw [h2, says_neg m w (by decide), h1]
    · rw [h2, k.says hl w i y h3, h4]
theorem Reps.mok {d m : Tab} {of : List Nat} (hd : d.Ok) (k : Reps d of m) (hl : of.length = m.next.length) : m.Ok := by
  refine ⟨k.rlen, by have := k.rep.ok.len; have := hd.size; omega, fun r hr x hx => ?_, fun x hx => ?_⟩
  · obtain ⟨i, hi⟩ := List.getElem?_of_mem hr
    obtain ⟨j, hj⟩ := List.getElem?_of_mem hx
    have hil := (List.getElem?_eq_some_iff.1 hi).1
    have hjl := (List.getElem?_eq_some_iff.1 hj).1
    rw [r.len] at hjl
    have hc : (UInt8.ofNat j).toNat = j := by simp; omega
    obtain ⟨y, hy⟩ : ∃ y, of[i]? = some y := ⟨_, List.getElem?_eq_getElem (by omega)⟩
    rcases k.row i r y hi hy (UInt8.ofNat j) x (by rw [hc]; exact hj) with ⟨_, rfl⟩ | ⟨_, a, z, rfl, h3, _⟩
    · omega
    · have := (List.getElem?_eq_some_iff.1 h3).1; omega
  · obtain ⟨i, hi⟩ := List.getElem?_of_mem hx
    have hil := (List.getElem?_eq_some_iff.1 hi).1
    have := k.rlen
    obtain ⟨y, hy⟩ : ∃ y, of[i]? = some y := ⟨_, List.getElem?_eq_getElem (by omega)⟩
    rw [k.rule i x y hi hy]
    unfold Tab.ru
    rw [List.getD_eq_getElem?_getD]
    cases h : d.rule[y]? with
    | none => show -1 ≤ (-1 : Int) ∧ (-1 : Int) ≤ 1000000; omega
    | some v => exact hd.ru v (List.mem_of_getElem? h)

/-- Each state that stands behind a byte says something. -/
def Trim (m : Tab) : Prop := ∀ (s : Nat) (c : UInt8), s < m.next.length → 0 ≤ m.to s c → ∃ w, 0 ≤ m.says (m.to s c) w
theorem minP_spec {d : Tab} (hd : d.Ok) (hn : 0 < d.next.length) : (minP d).Ok ∧ 0 < (minP d).next.length ∧ (minP d).next.length ≤ d.next.length ∧ Like (minP d) d 0 0 ∧ Trim (minP d) := by
  obtain ⟨of, k, hl⟩ := minP_reps hd hn
  have h0 := (List.getElem?_eq_some_iff.1 k.first).1
  refine ⟨k.mok hd hl, by omega, by have := k.rep.ok.len; omega, fun w => k.says hl w 0 0 k.first, fun s c hs h => ?_⟩
  obtain ⟨x, hx⟩ : ∃ x, of[s]? = some x := ⟨_, List.getElem?_eq_getElem (by omega)⟩
  rcases k.to hl hx c with ⟨h1, h2⟩ | ⟨⟨w, hw⟩, i, y, h2, h3, h4⟩
  · rw [h2] at h; omega
  · exact ⟨w, by rw [h2, k.says hl w i y h3, ← h4]; exact hw⟩
/-- Min of it is as it is. -/
theorem minP_minP {d : Tab} (hd : d.Ok) (hn : 0 < d.next.length) : minP (minP d) = minP d := by
  obtain ⟨h1, h2, _, h3, _⟩ := minP_spec hd hn
  exact min_like h1 hd h2 hn h3

/-! ### Matches -/

theorem dmatchG_dead (d : Tab) : ∀ (l : By) (s k : Nat) (b : Int × Int), (∀ w, d.says (s : Int) w = -1) → (dmatchG d l s k b).1 = b.1 ∧ (dmatchG d l s k b).2.1 = b.2 ∧ (k : Int) ≤ (dmatchG d l s k b).2.2
  | [], s, k, b, h => by
    have h0 := h []
    rw [says_nil] at h0
    rw [dmatchG, if_neg (by omega)]
    exact ⟨rfl, rfl, Int.le_refl _⟩
  | c :: l, s, k, b, h => by
    have h0 := h []
    rw [says_nil] at h0
    rw [dmatchG, if_neg (by omega : ¬ 0 ≤ d.ru s), if_neg (by omega : ¬ 0 ≤ d.ru s)]
    split
    · rename_i hp
      have := dmatchG_dead d l (d.to s c).toNat (k + 1) b (fun w => by rw [Int.toNat_of_nonneg hp, ← says_cons]; exact h (c :: w))
      exact ⟨this.1, this.2.1, by have := this.2.2; omega⟩
    · exact ⟨rfl, rfl, Int.le_refl _⟩
/-- Tables that say the same match the same; the trim one takes no more steps. -/
theorem dmatchG_like {d m : Tab} (hd : d.Ok) (hm : m.Ok) (ht : Trim m) : ∀ (l : By) (s t k : Nat) (b : Int × Int), s < d.next.length → t < m.next.length → Like d m s t →
    (dmatchG d l s k b).1 = (dmatchG m l t k b).1 ∧ (dmatchG d l s k b).2.1 = (dmatchG m l t k b).2.1 ∧ (dmatchG m l t k b).2.2 ≤ (dmatchG d l s k b).2.2
  | [], s, t, k, b, hs, htl, h => by
    have h0 := h []
    rw [says_nil, says_nil] at h0
    rw [dmatchG, dmatchG, h0]
    exact ⟨rfl, rfl, Int.le_refl _⟩
  | c :: l, s, t, k, b, hs, htl, h => by
    have h0 := h []
    rw [says_nil, says_nil] at h0
    have hl : Like d m (d.to s c) (m.to t c) := fun w => by rw [← says_cons, ← says_cons]; exact h _
    have h1 := Tab.to_lt hd (s := s) c
    have h2 := Tab.to_lt hm (s := t) c
    rw [dmatchG, dmatchG, h0]
    by_cases hmt : 0 ≤ m.to t c
    · obtain ⟨w, hw⟩ := ht t c htl hmt
      have hdt : 0 ≤ d.to s c := by
        by_cases e : d.to s c < 0
        · rw [← hl w, says_neg d w e] at hw; omega
        · omega
      rw [if_pos hmt, if_pos hdt]
      exact dmatchG_like hd hm ht l _ _ _ _ (by omega) (by omega) (fun w => by rw [Int.toNat_of_nonneg hmt, Int.toNat_of_nonneg hdt]; exact hl w)
    · rw [if_neg hmt]
      by_cases hdt : 0 ≤ d.to s c
      · rw [if_pos hdt]
        have hdd := dmatchG_dead d l (d.to s c).toNat (k + 1) (if 0 ≤ m.ru t then ((k : Int), m.ru t) else b) (fun w => by rw [Int.toNat_of_nonneg hdt, hl w]; exact says_neg m w (by omega))
        obtain ⟨d1, d2, d3⟩ := hdd
        rw [d1, d2]
        generalize (dmatchG d l (d.to s c).toNat (k + 1) (if 0 ≤ m.ru t then ((k : Int), m.ru t) else b)).2.2 = z at *
        split
        · exact ⟨rfl, rfl, by show (k : Int) ≤ _; omega⟩
        · exact ⟨rfl, rfl, by show (k : Int) ≤ _; omega⟩
      · rw [if_neg hdt]
        exact ⟨rfl, rfl, Int.le_refl _⟩

end Go.Proofs.YtlegopbpofofgaaDoor

/- DfasLeast: what it answers. -/
namespace Go.Proofs.YtlegopbpofofgaaDoor
open Go Go.Lw
set_option maxRecDepth 20000

theorem alike_calls {h : Heap} {pa pb : Value} {d : Tab} (ka : TabAt h pa d) (kb : TabAt h pb d) (hok : d.Ok) : CallsH Tryd.prog 38 #[pa, pb] h (Ret fun r h' => r = .bool true ∧ h' = h) := by
  have hsize := hok.size
  refine CallsH.of Tryd.func38 rfl rfl ?_
  refine G.seq rfl ?_
  refine G.reg Tryd.func38 rfl ?_
  refine RW.pureS rfl rfl rfl rfl (OpP.assign rfl) ?_
  refine RW.done rfl ?_
  refine G.sub (ρ' := [(0, _), (1, _), (4, _)]) ⟨rfl, rfl, rfl, trivial⟩ ?_
  refine G.seq rfl ?_
  refine G.seq rfl ?_
  refine G.reg Tryd.func38 rfl ?_
  refine RW.pureS rfl rfl rfl rfl (OpP.move rfl) ?_
  refine RW.opS rfl rfl rfl rfl (OpX.call (vs := [_]) Tryd.func32 rfl H.nm32 rfl (CallsH.toX (states_calls ka))) ?_
  rintro _ h0 ⟨rfl, hh0⟩
  subst hh0
  refine RW.pureS rfl rfl rfl rfl (OpP.move rfl) ?_
  refine RW.opS rfl rfl rfl rfl (OpX.call (vs := [_]) Tryd.func32 rfl H.nm32 rfl (CallsH.toX (states_calls kb))) ?_
  rintro _ h0 ⟨rfl, hh0⟩
  subst hh0
  refine RW.pureS rfl rfl rfl rfl (OpP.neqInt rfl rfl) ?_
  refine RW.done rfl ?_
  refine G.sub (ρ' := [(0, _), (1, _), (4, _), (11, _)]) ⟨rfl, rfl, rfl, rfl, trivial⟩ ?_
  refine G.cond rfl rfl (fun hc => absurd hc (by simp)) (fun _ => ?_)
  refine G.skip rfl ?_
  refine G.seq rfl ?_
  refine G.seq rfl ?_
  refine G.reg Tryd.func38 rfl ?_
  refine RW.pureS rfl rfl rfl rfl (OpP.assign rfl) ?_
  refine RW.done rfl ?_
  refine G.sub (ρ' := [(0, _), (1, _), (4, _), (5, _), (11, _)]) ⟨rfl, rfl, rfl, rfl, rfl, trivial⟩ ?_
  refine G.block rfl rfl ?_
  refine G.loop (σ := Nat) (fun k => [(0, pa), (1, pb), (5, .int .i64 (k : Nat))]) (fun k h' => h' = h0 ∧ k ≤ d.next.length) (fun k => d.next.length - k) (0) rfl ⟨rfl, rfl, rfl, trivial⟩ ⟨rfl, Nat.zero_le _⟩ ?_
  rintro k g ⟨hg, hk⟩ ih
  subst hg
  refine G.seq rfl ?_
  refine G.seq rfl ?_
  refine G.reg Tryd.func38 rfl ?_
  refine RW.pureS rfl rfl rfl rfl (OpP.move rfl) ?_
  refine RW.pureS rfl rfl rfl rfl (OpP.move rfl) ?_
  refine RW.opS rfl rfl rfl rfl (OpX.call (vs := [_]) Tryd.func32 rfl H.nm32 rfl (CallsH.toX (states_calls ka))) ?_
  rintro _ g1 ⟨rfl, hg1⟩
  subst hg1
  refine RW.pureS rfl rfl rfl rfl (OpP.lss rfl rfl) ?_
  refine RW.done rfl ?_
  refine G.sub (ρ' := [(0, _), (1, _), (5, _), (15, _)]) ⟨rfl, rfl, rfl, rfl, trivial⟩ ?_
  refine G.ite rfl rfl (fun hlt => ?_) (fun hlt => ?_)
  · refine G.skip rfl ?_
    refine G.seq rfl ?_
    refine G.block rfl rfl ?_
    refine G.seq rfl ?_
    refine G.seq rfl ?_
    refine G.reg Tryd.func38 rfl ?_
    refine RW.pureS rfl rfl rfl rfl (OpP.assign rfl) ?_
    refine RW.done rfl ?_
    refine G.sub (ρ' := [(0, _), (1, _), (5, _), (6, _), (15, _)]) ⟨rfl, rfl, rfl, rfl, rfl, trivial⟩ ?_
    refine G.block rfl rfl ?_
    refine G.loop (σ := Nat) (fun c => [(0, pa), (1, pb), (5, .int .i64 (k : Nat)), (6, .int .i64 (c : Nat))]) (fun c h' => h' = g1 ∧ c ≤ 256) (fun c => 256 - c) (0) rfl ⟨rfl, rfl, rfl, rfl, trivial⟩ ⟨rfl, Nat.zero_le _⟩ ?_
    rintro c g2 ⟨hg2, hc⟩ ih2
    subst hg2
    refine G.seq rfl ?_
    refine G.seq rfl ?_
    refine G.reg Tryd.func38 rfl ?_
    refine RW.pureS rfl rfl rfl rfl (OpP.move rfl) ?_
    refine RW.pureS rfl rfl rfl rfl (OpP.lss rfl rfl) ?_
    refine RW.done rfl ?_
    refine G.sub (ρ' := [(0, _), (1, _), (5, _), (6, _), (19, _)]) ⟨rfl, rfl, rfl, rfl, rfl, trivial⟩ ?_
    refine G.ite rfl rfl (fun hc256 => ?_) (fun hc256 => ?_)
    · have hub : (UInt8.ofNat c).toNat = c := by simp; omega
      have h1 := dstep_calls (k : Int) (UInt8.ofNat c) ka (by omega)
      have h2 := dstep_calls (k : Int) (UInt8.ofNat c) kb (by omega)
      rw [hub] at h1 h2
      refine G.skip rfl ?_
      refine G.seq rfl ?_
      refine G.block rfl rfl ?_
      refine G.seq rfl ?_
      refine G.reg Tryd.func38 rfl ?_
      refine RW.pureS rfl rfl rfl rfl (OpP.move rfl) ?_
      refine RW.pureS rfl rfl rfl rfl (OpP.move rfl) ?_
      refine RW.pureS rfl rfl rfl rfl (OpP.move rfl) ?_
      refine RW.pureS rfl rfl rfl rfl (OpP.convIn Tryd.underlying3 Tryd.underlying5 rfl (wrap_u8 ⟨by omega, by omega⟩)) ?_
      refine RW.opS rfl rfl rfl rfl (OpX.call (vs := [_, _, _]) Tryd.func33 rfl H.nm33 rfl (CallsH.toX (h1))) ?_
      rintro _ g3 ⟨rfl, hg3⟩
      subst hg3
      refine RW.pureS rfl rfl rfl rfl (OpP.move rfl) ?_
      refine RW.pureS rfl rfl rfl rfl (OpP.move rfl) ?_
      refine RW.pureS rfl rfl rfl rfl (OpP.move rfl) ?_
      refine RW.pureS rfl rfl rfl rfl (OpP.convIn Tryd.underlying3 Tryd.underlying5 rfl (wrap_u8 ⟨by omega, by omega⟩)) ?_
      refine RW.opS rfl rfl rfl rfl (OpX.call (vs := [_, _, _]) Tryd.func33 rfl H.nm33 rfl (CallsH.toX (h2))) ?_
      rintro _ g3 ⟨rfl, hg3⟩
      subst hg3
      refine RW.pureS rfl rfl rfl rfl (OpP.neqInt rfl rfl) ?_
      refine RW.done rfl ?_
      refine G.sub (ρ' := [(0, _), (1, _), (5, _), (6, _), (19, _), (32, _)]) ⟨rfl, rfl, rfl, rfl, rfl, rfl, trivial⟩ ?_
      refine G.cond rfl rfl (fun hc => absurd hc (by simp)) (fun _ => ?_)
      refine G.skip rfl ?_
      refine G.blkEnd ?_
      refine G.reg Tryd.func38 rfl ?_
      refine RW.pureS rfl rfl rfl rfl (OpP.move rfl) ?_
      refine RW.pureS rfl rfl rfl rfl (OpP.add64 rfl rfl ⟨by omega, by omega⟩) ?_
      refine RW.pureS rfl rfl rfl rfl (OpP.assign rfl) ?_
      refine RW.done rfl ?_
      refine G.sub (ρ' := [(0, _), (1, _), (5, _), (6, _), (19, _), (32, _)]) ⟨rfl, rfl, rfl, rfl, rfl, rfl, trivial⟩ ?_
      exact ih2 (c + 1) _ _ ⟨rfl, rfl, rfl, rfl, trivial⟩ ⟨rfl, by omega⟩ (by omega)
    · refine G.exit rfl rfl ?_
      refine G.seq rfl ?_
      refine G.reg Tryd.func38 rfl ?_
      refine RW.pureS rfl rfl rfl rfl (OpP.move rfl) ?_
      refine RW.pureS rfl rfl rfl rfl (OpP.move rfl) ?_
      refine RW.opS rfl rfl rfl rfl (OpX.call (vs := [_, _]) Tryd.func34 rfl H.nm34 rfl (CallsH.toX (dacc_calls (k : Int) ka hok.len (by omega)))) ?_
      rintro _ g3 ⟨rfl, hg3⟩
      subst hg3
      refine RW.pureS rfl rfl rfl rfl (OpP.move rfl) ?_
      refine RW.pureS rfl rfl rfl rfl (OpP.move rfl) ?_
      refine RW.opS rfl rfl rfl rfl (OpX.call (vs := [_, _]) Tryd.func34 rfl H.nm34 rfl (CallsH.toX (dacc_calls (k : Int) kb hok.len (by omega)))) ?_
      rintro _ g3 ⟨rfl, hg3⟩
      subst hg3
      refine RW.pureS rfl rfl rfl rfl (OpP.neqInt rfl rfl) ?_
      refine RW.done rfl ?_
      refine G.sub (ρ' := [(0, _), (1, _), (5, _), (6, _), (19, _), (39, _)]) ⟨rfl, rfl, rfl, rfl, rfl, rfl, trivial⟩ ?_
      refine G.cond rfl rfl (fun hc => absurd hc (by simp)) (fun _ => ?_)
      refine G.skip rfl ?_
      refine G.blkEnd ?_
      refine G.reg Tryd.func38 rfl ?_
      refine RW.pureS rfl rfl rfl rfl (OpP.move rfl) ?_
      refine RW.pureS rfl rfl rfl rfl (OpP.add64 rfl rfl ⟨by omega, by omega⟩) ?_
      refine RW.pureS rfl rfl rfl rfl (OpP.assign rfl) ?_
      refine RW.done rfl ?_
      refine G.sub (ρ' := [(0, _), (1, _), (5, _), (6, _), (19, _), (39, _)]) ⟨rfl, rfl, rfl, rfl, rfl, rfl, trivial⟩ ?_
      exact ih (k + 1) _ _ ⟨rfl, rfl, rfl, trivial⟩ ⟨rfl, by omega⟩ (by omega)
  · refine G.exit rfl rfl ?_
    refine G.seq rfl ?_
    refine G.reg Tryd.func38 rfl ?_
    refine RW.pureS rfl rfl rfl rfl (OpP.assign rfl) ?_
    refine RW.done rfl ?_
    refine G.sub (ρ' := [(0, _), (1, _), (4, _), (5, _), (15, _)]) ⟨rfl, rfl, rfl, rfl, rfl, trivial⟩ ?_
    refine G.ret Tryd.func38 rfl rfl ?_
    exact ⟨_, rfl, rfl, rfl⟩

theorem table_like {d m : Tab} (hd : d.Ok) (hm : m.Ok) (ht : Trim m) (hd0 : 0 < d.next.length) (hm0 : 0 < m.next.length) (hl : Like d m 0 0) (s : By) (a : Int) :
    (dmatchA d s a).1 = (dmatchA m s a).1 ∧ (dmatchA d s a).2.1 = (dmatchA m s a).2.1 ∧ (dmatchA m s a).2.2 ≤ (dmatchA d s a).2.2 := by
  unfold dmatchA
  by_cases ha : a < 0 ∨ (s.length : Int) < a
  · rw [if_pos (.inr ha), if_pos (.inr ha)]
    exact ⟨rfl, rfl, Int.le_refl _⟩
  · rw [if_neg (by omega), if_neg (by omega)]
    exact dmatchG_like hd hm ht (s.drop a.toNat) 0 0 0 (0, -1) hd0 hm0 hl

theorem dfasLeast_calls {h : Heap} (hg : Sg h h.size) (htens : Tens h) {rv : Value} {rules : List By} {s : By} (hr : SlR eBy h (fun _ => False) rv rules) :
    CallsH Tryd.prog 12 #[rv, .string (bs s)] h (Ret fun r h' => r = .bool true ∧ Ext0 h h') := by
  have hbs := bs_size s
  refine CallsH.of Tryd.func12 rfl rfl ?_
  refine G.seq rfl ?_
  refine G.reg Tryd.func12 rfl ?_
  refine RW.pureS rfl rfl rfl rfl (OpP.assign rfl) ?_
  refine RW.done rfl ?_
  refine G.sub (ρ' := [(0, _), (1, _), (4, _)]) ⟨rfl, rfl, rfl, trivial⟩ ?_
  refine G.seq rfl ?_
  refine G.seq rfl ?_
  refine G.regToX (fun (_u : Unit) (h' : Heap) => h' = h) (fun (_u : Unit) => [(22, .bool (greatD rules || decide (100 < s.length)))]) [(0, _), (1, _), (4, _)] ⟨rfl, rfl, rfl, trivial⟩ Tryd.func12 rfl ?_ ?_
  · refine RW.pureS rfl rfl rfl rfl (OpP.move rfl) ?_
    refine RW.opS rfl rfl rfl rfl (OpX.call (vs := [_]) Tryd.func26 rfl H.nm26 rfl (CallsH.toX (great12_calls hr))) ?_
    rintro _ h0 ⟨rfl, hh0⟩
    refine RW.pureS rfl rfl rfl rfl (OpP.move rfl) ?_
    subst hh0
    refine RW.split (d := 18) rfl (fun hg1 => ?_) (fun hg1 => ?_)
    · refine RW.skipS rfl rfl rfl rfl ?_
      refine RW.skipS rfl rfl rfl rfl ?_
      refine RW.skipS rfl rfl rfl rfl ?_
      refine RW.pureS rfl rfl rfl rfl (OpP.pickT rfl rfl) ?_
      refine RW.done rfl ?_
      exact ⟨(), rfl, at_bool rfl (by rw [hg1, Bool.true_or]), rfl, rfl, rfl, trivial⟩
    · refine RW.pureS rfl rfl rfl rfl (OpP.move rfl) ?_
      refine RW.pureS rfl rfl rfl rfl (OpP.lenString Tryd.underlying9 rfl) ?_
      refine RW.pureS rfl rfl rfl rfl (OpP.gtr rfl rfl) ?_
      refine RW.pureS rfl rfl rfl rfl (OpP.pickF rfl rfl) ?_
      refine RW.done rfl ?_
      exact ⟨(), rfl, at_bool rfl (by rw [hg1, Bool.false_or]; simp only [decide_eq_decide]; omega), rfl, rfl, rfl, trivial⟩
  · rintro _ h0 rfl
    refine G.cond rfl rfl (fun hbig => ?_) (fun hbig => ?_)
    · refine G.seq rfl ?_
      refine G.reg Tryd.func12 rfl ?_
      refine RW.opS rfl rfl rfl rfl (OpX.call (vs := []) Tryd.func27 rfl H.nm27 rfl (CallsH.toX (tabled_calls hg (Nat.le_refl _) htens))) ?_
      rintro _ h1 ⟨rfl, e1⟩
      refine RW.pureS rfl rfl rfl rfl (OpP.assign rfl) ?_
      refine RW.done rfl ?_
      refine G.sub (ρ' := [(0, _), (1, _), (4, _), (22, _)]) ⟨rfl, rfl, rfl, rfl, trivial⟩ ?_
      refine G.ret Tryd.func12 rfl rfl ?_
      exact ⟨_, rfl, rfl, e1⟩
    · rw [Bool.or_eq_false_iff] at hbig
      have hnot := greatD_not hbig.1
      have hs100 : s.length ≤ 100 := by have := of_decide_eq_false hbig.2; omega
      refine G.skip rfl ?_
      refine G.seq rfl ?_
      refine G.reg Tryd.func12 rfl ?_
      refine RW.pureS rfl rfl rfl rfl (OpP.move rfl) ?_
      refine RW.opS rfl rfl rfl rfl (OpX.call (vs := [_]) Tryd.func28 rfl H.nm28 rfl (CallsH.toX (made12_calls hg (Nat.le_refl _) htens hr (fun x hx => by have := hnot.2 x hx; omega)))) ?_
      rintro _ h1 ⟨⟨p, q, rfl, hp⟩, e1⟩
      rcases hdm : dmadeP rules with e | d
      · have hE : dmadeE rules = e := by unfold dmadeE; rw [hdm]
        have hne := dmadeP_ne hdm
        rw [hE]
        refine RW.pureS rfl rfl rfl rfl (OpP.move rfl) ?_
        refine RW.pureS rfl rfl rfl rfl (OpP.extract rfl rfl) ?_
        refine RW.pureS rfl rfl rfl rfl (OpP.extract rfl rfl) ?_
        refine RW.pureS rfl rfl rfl rfl (OpP.extract rfl rfl) ?_
        refine RW.pureS rfl rfl rfl rfl (OpP.assign rfl) ?_
        refine RW.pureS rfl rfl rfl rfl (OpP.assign rfl) ?_
        refine RW.pureS rfl rfl rfl rfl (OpP.assign rfl) ?_
        refine RW.done rfl ?_
        refine G.sub (ρ' := [(0, _), (1, _), (4, _), (6, _), (7, _), (22, _)]) ⟨rfl, rfl, rfl, rfl, rfl, rfl, trivial⟩ ?_
        refine G.seq rfl ?_
        refine G.seq rfl ?_
        refine G.reg Tryd.func12 rfl ?_
        refine RW.pureS rfl rfl rfl rfl (OpP.move rfl) ?_
        refine RW.pureS rfl rfl rfl rfl (OpP.neqInt rfl rfl) ?_
        refine RW.done rfl ?_
        refine G.sub (ρ' := [(0, _), (1, _), (4, _), (6, _), (7, _), (22, _), (31, _)]) ⟨rfl, rfl, rfl, rfl, rfl, rfl, rfl, trivial⟩ ?_
        refine G.cond rfl rfl (fun _ => ?_) (fun hc => absurd hc (by simp [hne]))
        refine G.seq rfl ?_
        refine G.reg Tryd.func12 rfl ?_
        refine RW.opS rfl rfl rfl rfl (OpX.call (vs := []) Tryd.func27 rfl H.nm27 rfl (CallsH.toX (tabled_calls (hg.ext e1 (fun _ k => k.elim)) e1.size (htens.ext0 e1)))) ?_
        rintro _ h2 ⟨rfl, e2⟩
        refine RW.pureS rfl rfl rfl rfl (OpP.assign rfl) ?_
        refine RW.done rfl ?_
        refine G.sub (ρ' := [(0, _), (1, _), (4, _), (6, _), (7, _), (22, _), (31, _)]) ⟨rfl, rfl, rfl, rfl, rfl, rfl, rfl, trivial⟩ ?_
        refine G.ret Tryd.func12 rfl rfl ?_
        exact ⟨_, rfl, rfl, e1.trans e2⟩
      · rw [hdm] at hp
        obtain ⟨hm, db, rfl, hk⟩ := hp
        have hE : dmadeE rules = 0 := by unfold dmadeE; rw [hdm]
        have hok := (dmadeP_ok hdm).1
        have hd0 := (dmadeP_ok hdm).2
        obtain ⟨hmok, hm0, hmle, hlike, htrim⟩ := minP_spec hok hd0
        have hmm := minP_minP hok hd0
        have hka : TabAt h1 (.pointer (some ⟨db, 0, none⟩)) d := .inr ⟨db, rfl, hk⟩
        rw [hE]
        refine RW.pureS rfl rfl rfl rfl (OpP.move rfl) ?_
        refine RW.pureS rfl rfl rfl rfl (OpP.extract rfl rfl) ?_
        refine RW.pureS rfl rfl rfl rfl (OpP.extract rfl rfl) ?_
        refine RW.pureS rfl rfl rfl rfl (OpP.extract rfl rfl) ?_
        refine RW.pureS rfl rfl rfl rfl (OpP.assign rfl) ?_
        refine RW.pureS rfl rfl rfl rfl (OpP.assign rfl) ?_
        refine RW.pureS rfl rfl rfl rfl (OpP.assign rfl) ?_
        refine RW.done rfl ?_
        refine G.sub (ρ' := [(0, _), (1, _), (4, _), (6, _), (7, _), (22, _)]) ⟨rfl, rfl, rfl, rfl, rfl, rfl, trivial⟩ ?_
        refine G.seq rfl ?_
        refine G.seq rfl ?_
        refine G.reg Tryd.func12 rfl ?_
        refine RW.pureS rfl rfl rfl rfl (OpP.move rfl) ?_
        refine RW.pureS rfl rfl rfl rfl (OpP.neqInt rfl rfl) ?_
        refine RW.done rfl ?_
        refine G.sub (ρ' := [(0, _), (1, _), (4, _), (6, _), (7, _), (22, _), (31, _)]) ⟨rfl, rfl, rfl, rfl, rfl, rfl, rfl, trivial⟩ ?_
        refine G.cond rfl rfl (fun hc => absurd hc (by simp)) (fun _ => ?_)
        refine G.skip rfl ?_
        refine G.seq rfl ?_
        refine G.reg Tryd.func12 rfl ?_
        refine RW.pureS rfl rfl rfl rfl (OpP.move rfl) ?_
        refine RW.opS rfl rfl rfl rfl (OpX.call (vs := [_]) Tryd.func29 rfl H.nm29 rfl (CallsH.toX (dmin_calls (htens.ext0 e1) hka hok))) ?_
        rintro q2 h2 ⟨k2, e2⟩
        have hka2 := hka.ext0 e2
        refine RW.pureS rfl rfl rfl rfl (OpP.assign rfl) ?_
        refine RW.done rfl ?_
        refine G.sub (ρ' := [(0, _), (1, _), (4, _), (6, _), (7, _), (8, _), (22, _), (31, _)]) ⟨rfl, rfl, rfl, rfl, rfl, rfl, rfl, rfl, trivial⟩ ?_
        refine G.seq rfl ?_
        refine G.seq rfl ?_
        refine G.regToX (fun (_u : Unit) (h' : Heap) => Ext0 h2 h') (fun (_u : Unit) => [(51, .bool false)]) [(0, _), (1, _), (4, _), (6, _), (7, _), (8, _), (22, _), (31, _)] ⟨rfl, rfl, rfl, rfl, rfl, rfl, rfl, rfl, trivial⟩ Tryd.func12 rfl ?_ ?_
        · refine RW.pureS rfl rfl rfl rfl (OpP.move rfl) ?_
          refine RW.opS rfl rfl rfl rfl (OpX.call (vs := [_]) Tryd.func32 rfl H.nm32 rfl (CallsH.toX (states_calls k2))) ?_
          rintro _ h3 ⟨rfl, hh3⟩
          subst hh3
          refine RW.pureS rfl rfl rfl rfl (OpP.lss rfl rfl) ?_
          refine RW.pureS rfl rfl rfl rfl (OpP.move rfl) ?_
          refine RW.know (d := 38) (b' := false) rfl ((by simp; omega)) ?_
          refine RW.pureS rfl rfl rfl rfl (OpP.move rfl) ?_
          refine RW.opS rfl rfl rfl rfl (OpX.call (vs := [_]) Tryd.func32 rfl H.nm32 rfl (CallsH.toX (states_calls k2))) ?_
          rintro _ h3 ⟨rfl, hh3⟩
          subst hh3
          refine RW.pureS rfl rfl rfl rfl (OpP.move rfl) ?_
          refine RW.opS rfl rfl rfl rfl (OpX.call (vs := [_]) Tryd.func32 rfl H.nm32 rfl (CallsH.toX (states_calls hka2))) ?_
          rintro _ h3 ⟨rfl, hh3⟩
          subst hh3
          refine RW.pureS rfl rfl rfl rfl (OpP.gtr rfl rfl) ?_
          refine RW.pureS rfl rfl rfl rfl (OpP.pickF rfl rfl) ?_
          refine RW.pureS rfl rfl rfl rfl (OpP.move rfl) ?_
          refine RW.know (d := 45) (b' := false) rfl ((by simp; omega)) ?_
          refine RW.pureS rfl rfl rfl rfl (OpP.move rfl) ?_
          refine RW.pureS rfl rfl rfl rfl (OpP.move rfl) ?_
          refine RW.opS rfl rfl rfl rfl (OpX.call (vs := [_]) Tryd.func29 rfl H.nm29 rfl (CallsH.toX (dmin_calls (htens.ext0 (e1.trans e2)) k2 hmok))) ?_
          rintro q3 h4 ⟨k3, e3⟩
          rw [hmm] at k3
          refine RW.opS rfl rfl rfl rfl (OpX.call (vs := [_, _]) Tryd.func38 rfl H.nm38 rfl (CallsH.toX (alike_calls (k2.ext0 e3) k3 hmok))) ?_
          rintro _ h5 ⟨rfl, hh5⟩
          subst hh5
          refine RW.pureS rfl rfl rfl rfl (OpP.notB rfl) ?_
          refine RW.pureS rfl rfl rfl rfl (OpP.pickF rfl rfl) ?_
          refine RW.done rfl ?_
          exact ⟨(), e3, at_bool rfl (rfl), rfl, rfl, rfl, rfl, rfl, rfl, rfl, rfl, trivial⟩
        · rintro _ h3 e3
          refine G.cond rfl rfl (fun hc => absurd hc (by decide)) (fun _ => ?_)
          refine G.skip rfl ?_
          refine G.seq rfl ?_
          refine G.seq rfl ?_
          refine G.reg Tryd.func12 rfl ?_
          refine RW.pureS rfl rfl rfl rfl (OpP.assign rfl) ?_
          refine RW.done rfl ?_
          refine G.sub (ρ' := [(0, _), (1, _), (4, _), (6, _), (7, _), (8, _), (9, _), (22, _), (31, _), (51, _)]) ⟨rfl, rfl, rfl, rfl, rfl, rfl, rfl, rfl, rfl, rfl, trivial⟩ ?_
          refine G.block rfl rfl ?_
          refine G.loop (σ := Nat) (fun k => [(1, .string (bs s)), (6, .pointer (some ⟨db, 0, none⟩)), (8, q2), (9, .int .i64 (k : Nat))]) (fun k h' => h' = h3 ∧ k ≤ s.length + 1) (fun k => s.length + 1 - k) (0) rfl ⟨rfl, rfl, rfl, rfl, trivial⟩ ⟨rfl, by omega⟩ ?_
          rintro k g ⟨hgg, hk1⟩ ih
          subst hgg
          refine G.seq rfl ?_
          refine G.seq rfl ?_
          refine G.reg Tryd.func12 rfl ?_
          refine RW.pureS rfl rfl rfl rfl (OpP.move rfl) ?_
          refine RW.pureS rfl rfl rfl rfl (OpP.move rfl) ?_
          refine RW.pureS rfl rfl rfl rfl (OpP.lenString Tryd.underlying9 rfl) ?_
          refine RW.pureS rfl rfl rfl rfl (OpP.leq rfl rfl) ?_
          refine RW.done rfl ?_
          refine G.sub (ρ' := [(1, _), (6, _), (8, _), (9, _), (55, _)]) ⟨rfl, rfl, rfl, rfl, rfl, trivial⟩ ?_
          refine G.ite rfl rfl (fun hlt => ?_) (fun hlt => ?_)
          · refine G.skip rfl ?_
            refine G.seq rfl ?_
            refine G.block rfl rfl ?_
            refine G.seq rfl ?_
            refine G.reg Tryd.func12 rfl ?_
            refine RW.pureS rfl rfl rfl rfl (OpP.move rfl) ?_
            refine RW.pureS rfl rfl rfl rfl (OpP.move rfl) ?_
            refine RW.pureS rfl rfl rfl rfl (OpP.move rfl) ?_
            refine RW.opS rfl rfl rfl rfl (OpX.call (vs := [_, _, _]) Tryd.func30 rfl H.nm30 rfl (CallsH.toX (dmatch_calls (s := s) (a := (k : Int)) (hka2.ext0 e3) hok (by omega)))) ?_
            rintro _ g1 ⟨rfl, hg1⟩
            subst hg1
            refine RW.pureS rfl rfl rfl rfl (OpP.move rfl) ?_
            refine RW.pureS rfl rfl rfl rfl (OpP.extract rfl rfl) ?_
            refine RW.pureS rfl rfl rfl rfl (OpP.extract rfl rfl) ?_
            refine RW.pureS rfl rfl rfl rfl (OpP.extract rfl rfl) ?_
            refine RW.pureS rfl rfl rfl rfl (OpP.assign rfl) ?_
            refine RW.pureS rfl rfl rfl rfl (OpP.assign rfl) ?_
            refine RW.pureS rfl rfl rfl rfl (OpP.assign rfl) ?_
            refine RW.done rfl ?_
            refine G.sub (ρ' := [(1, _), (6, _), (8, _), (9, _), (10, _), (11, _), (12, _), (55, _)]) ⟨rfl, rfl, rfl, rfl, rfl, rfl, rfl, rfl, trivial⟩ ?_
            refine G.seq rfl ?_
            refine G.reg Tryd.func12 rfl ?_
            refine RW.pureS rfl rfl rfl rfl (OpP.move rfl) ?_
            refine RW.pureS rfl rfl rfl rfl (OpP.move rfl) ?_
            refine RW.pureS rfl rfl rfl rfl (OpP.move rfl) ?_
            refine RW.opS rfl rfl rfl rfl (OpX.call (vs := [_, _, _]) Tryd.func30 rfl H.nm30 rfl (CallsH.toX (dmatch_calls (s := s) (a := (k : Int)) (k2.ext0 e3) hmok (by omega)))) ?_
            rintro _ g1 ⟨rfl, hg1⟩
            subst hg1
            have htl := table_like hok hmok htrim hd0 hm0 (fun w => (hlike w).symm) s k
            have hst := table_steps (minP d) (show k ≤ s.length by omega) hm0
            generalize dmatchA d s (k : Int) = m1 at *
            generalize dmatchA (minP d) s (k : Int) = m2 at *
            refine RW.pureS rfl rfl rfl rfl (OpP.move rfl) ?_
            refine RW.pureS rfl rfl rfl rfl (OpP.extract rfl rfl) ?_
            refine RW.pureS rfl rfl rfl rfl (OpP.extract rfl rfl) ?_
            refine RW.pureS rfl rfl rfl rfl (OpP.extract rfl rfl) ?_
            refine RW.pureS rfl rfl rfl rfl (OpP.assign rfl) ?_
            refine RW.pureS rfl rfl rfl rfl (OpP.assign rfl) ?_
            refine RW.pureS rfl rfl rfl rfl (OpP.assign rfl) ?_
            refine RW.done rfl ?_
            refine G.sub (ρ' := [(1, _), (6, _), (8, _), (9, _), (10, _), (11, _), (12, _), (13, _), (14, _), (15, _), (55, _)]) ⟨rfl, rfl, rfl, rfl, rfl, rfl, rfl, rfl, rfl, rfl, rfl, trivial⟩ ?_
            refine G.seq rfl ?_
            refine G.regTo1 [(91, .bool false)] [(1, _), (6, _), (8, _), (9, _), (10, _), (11, _), (12, _), (13, _), (14, _), (15, _), (55, _)] ⟨rfl, rfl, rfl, rfl, rfl, rfl, rfl, rfl, rfl, rfl, rfl, trivial⟩ Tryd.func12 rfl ?_ ?_
            · refine RW.pureS rfl rfl rfl rfl (OpP.move rfl) ?_
              refine RW.pureS rfl rfl rfl rfl (OpP.move rfl) ?_
              refine RW.pureS rfl rfl rfl rfl (OpP.neqInt rfl rfl) ?_
              refine RW.pureS rfl rfl rfl rfl (OpP.move rfl) ?_
              refine RW.know (d := 77) (b' := false) rfl ((by simp [htl.1])) ?_
              refine RW.pureS rfl rfl rfl rfl (OpP.move rfl) ?_
              refine RW.pureS rfl rfl rfl rfl (OpP.move rfl) ?_
              refine RW.pureS rfl rfl rfl rfl (OpP.neqInt rfl rfl) ?_
              refine RW.pureS rfl rfl rfl rfl (OpP.pickF rfl rfl) ?_
              refine RW.pureS rfl rfl rfl rfl (OpP.move rfl) ?_
              refine RW.know (d := 82) (b' := false) rfl ((by simp [htl.2.1])) ?_
              refine RW.pureS rfl rfl rfl rfl (OpP.move rfl) ?_
              refine RW.pureS rfl rfl rfl rfl (OpP.move rfl) ?_
              refine RW.pureS rfl rfl rfl rfl (OpP.gtr rfl rfl) ?_
              refine RW.pureS rfl rfl rfl rfl (OpP.pickF rfl rfl) ?_
              refine RW.pureS rfl rfl rfl rfl (OpP.move rfl) ?_
              refine RW.know (d := 87) (b' := false) rfl ((by simp; omega)) ?_
              refine RW.pureS rfl rfl rfl rfl (OpP.move rfl) ?_
              refine RW.pureS rfl rfl rfl rfl (OpP.move rfl) ?_
              refine RW.pureS rfl rfl rfl rfl (OpP.gtr rfl rfl) ?_
              refine RW.pureS rfl rfl rfl rfl (OpP.pickF rfl rfl) ?_
              refine RW.done rfl ?_
              exact ⟨rfl, at_bool rfl (by simp; omega), rfl, rfl, rfl, rfl, rfl, rfl, rfl, rfl, rfl, rfl, rfl, trivial⟩
            · refine G.cond rfl rfl (fun hc => absurd hc (by decide)) (fun _ => ?_)
              refine G.skip rfl ?_
              refine G.blkEnd ?_
              refine G.reg Tryd.func12 rfl ?_
              refine RW.pureS rfl rfl rfl rfl (OpP.move rfl) ?_
              refine RW.pureS rfl rfl rfl rfl (OpP.add64 rfl rfl ⟨by omega, by omega⟩) ?_
              refine RW.pureS rfl rfl rfl rfl (OpP.assign rfl) ?_
              refine RW.done rfl ?_
              refine G.sub (ρ' := [(1, _), (6, _), (8, _), (9, _), (10, _), (11, _), (12, _), (13, _), (14, _), (15, _), (55, _), (91, _)]) ⟨rfl, rfl, rfl, rfl, rfl, rfl, rfl, rfl, rfl, rfl, rfl, rfl, trivial⟩ ?_
              exact ih (k + 1) _ _ ⟨rfl, rfl, rfl, rfl, trivial⟩ ⟨rfl, by omega⟩ (by omega)
          · have e0 := (e1.trans e2).trans e3
            refine G.exit rfl rfl ?_
            refine G.seq rfl ?_
            refine G.reg Tryd.func12 rfl ?_
            refine RW.opS rfl rfl rfl rfl (OpX.call (vs := []) Tryd.func27 rfl H.nm27 rfl (CallsH.toX (tabled_calls (hg.ext e0 (fun _ k => k.elim)) e0.size (htens.ext0 e0)))) ?_
            rintro _ h9 ⟨rfl, e9⟩
            refine RW.pureS rfl rfl rfl rfl (OpP.assign rfl) ?_
            refine RW.done rfl ?_
            refine G.sub (ρ' := [(1, _), (4, _), (6, _), (8, _), (9, _), (55, _)]) ⟨rfl, rfl, rfl, rfl, rfl, rfl, trivial⟩ ?_
            refine G.ret Tryd.func12 rfl rfl ?_
            exact ⟨_, rfl, rfl, e0.trans e9⟩

end Go.Proofs.YtlegopbpofofgaaDoor

/- What Make makes, round by round: what the statement of DFAs' states asks of it. -/
namespace Go.Proofs.YtlegopbpofofgaaDoor
open Go

theorem nodup_get {α : Type} {L : List α} (h : L.Nodup) {x y : Nat} {a : α} (hx : L[x]? = some a) (hy : L[y]? = some a) : x = y := by
  obtain ⟨hi1, hi2⟩ := List.getElem?_eq_some_iff.1 hx
  obtain ⟨hj1, hj2⟩ := List.getElem?_eq_some_iff.1 hy
  rcases Nat.lt_trichotomy x y with e | e | e
  · exact absurd (hi2.trans hj2.symm) (List.pairwise_iff_getElem.1 h x y hi1 hj1 e)
  · exact e
  · exact absurd (hj2.trans hi2.symm) (List.pairwise_iff_getElem.1 h y x hj1 hi1 e)
theorem pre_get {α : Type} {l L : List α} (h : l <+: L) {i : Nat} {a : α} (hi : l[i]? = some a) : L[i]? = some a := by
  obtain ⟨t, rfl⟩ := h
  rw [List.getElem?_append_left (List.getElem?_eq_some_iff.1 hi).1]; exact hi
theorem pre_back {α : Type} {l L : List α} (h : l <+: L) {i : Nat} {a : α} (hl : i < l.length) (hi : L[i]? = some a) : l[i]? = some a := by
  obtain ⟨t, rfl⟩ := h
  rwa [List.getElem?_append_left hl] at hi

theorem dmakeG_next {ss : List Ste} {st n k : Nat} {lists : List (List Nat)} {next : List Row} {rule : List Int} {d : Tab} {cur : List Nat} (hG : dmakeG ss (n + 1) k lists next rule = some d) (h : Lists ss st lists ⟨next, rule⟩) (hk : next.length = k) (hcur : lists[k]? = some cur) :
    dmakeG ss n (k + 1) (rowG ss cur 256 0 lists []).1 (next ++ [mkRow (rowG ss cur 256 0 lists []).2]) (rule ++ [acceptsP ss cur]) = some d ∧ Lists ss st (rowG ss cur 256 0 lists []).1 ⟨next ++ [mkRow (rowG ss cur 256 0 lists []).2], rule ++ [acceptsP ss cur]⟩ ∧
      ∃ L, (rowG ss cur 256 0 lists []).1 <+: L ∧ Lists ss st L d ∧ L.length = d.next.length := by
  rw [dmakeG, hcur] at hG
  simp only at hG
  split at hG
  · cases hG
  rename_i hsz
  obtain ⟨h1, h2, ys, h3, h4, h5⟩ := rowG_spec ss cur 256 0 lists [] h.once
  have hkl := (List.getElem?_eq_some_iff.1 hcur).1
  have hlen := h1.length_le
  have hrl : rule.length = next.length := h.rlen
  have hn : Lists ss st (rowG ss cur 256 0 lists []).1 ⟨next ++ [mkRow (rowG ss cur 256 0 lists []).2], rule ++ [acceptsP ss cur]⟩ := ⟨pre_get h1 h.first, h2, by omega, by simp [hrl], fun i r l hr hl b y hy => by
      rcases Nat.lt_or_ge i next.length with hi | hi
      · rw [List.getElem?_append_left hi] at hr
        exact (h.row i r l hr (pre_back h1 (by omega) hl) b y hy).mono h1
      · have hik : i = next.length := by
          have := (List.getElem?_eq_some_iff.1 hr).1
          simp at this; omega
        subst hik
        simp only [List.getElem?_concat_length, Option.some.injEq] at hr
        subst hr
        have hlc := pre_back h1 (by omega) hl
        rw [hk, hcur] at hlc
        cases hlc
        rw [h3, List.nil_append, mkRow_v h4] at hy
        have := h5 b y hy
        rwa [Nat.zero_add] at this, fun i x l hx hl => by
      rcases Nat.lt_or_ge i rule.length with hi | hi
      · rw [List.getElem?_append_left hi] at hx
        exact h.rule i x l hx (pre_back h1 (by omega) hl)
      · have hik : i = rule.length := by
          have := (List.getElem?_eq_some_iff.1 hx).1
          simp at this; omega
        subst hik
        simp only [List.getElem?_concat_length, Option.some.injEq] at hx
        subst hx
        have hlc := pre_back h1 (by omega) hl
        rw [hrl, hk, hcur] at hlc
        cases hlc
        rfl⟩
  obtain ⟨L, g1, g2, g3⟩ := dmakeG_spec n (k + 1) _ _ _ d hn (by simp [hk]) (by omega) hG
  exact ⟨hG, hn, L, g1, g2, g3⟩

theorem byte_step {ss : List Ste} {st i b : Nat} {L ls : List (List Nat)} {d : Tab} {cur : List Nat} (hL : Lists ss st L d) (hLl : L.length = d.next.length) (hcur : L[i]? = some cur) (hn : ls.Nodup) (hpre : (rowStep ss cur ls b).1 <+: L) :
    ((stepP ss (UInt8.ofNat b) cur).length = 0 ∧ d.to i (UInt8.ofNat b) = -1 ∧ (rowStep ss cur ls b).1 = ls) ∨
    ((stepP ss (UInt8.ofNat b) cur).length ≠ 0 ∧ ∃ j : Nat, d.to i (UInt8.ofNat b) = (j : Int) ∧ j < L.length ∧ (∀ (x : Nat) (y : List Nat), ls[x]? = some y → (y = stepP ss (UInt8.ofNat b) cur ↔ x = j)) ∧
      (stepP ss (UInt8.ofNat b) cur ∈ ls → (rowStep ss cur ls b).1 = ls) ∧ (stepP ss (UInt8.ofNat b) cur ∉ ls → (rowStep ss cur ls b).1 = ls ++ [stepP ss (UInt8.ofNat b) cur] ∧ j = ls.length)) := by
  have hto := hL.to hLl hcur (UInt8.ofNat b)
  have hspec := (rowStep_spec ss cur ls b hn).1
  have hpl := hspec.trans hpre
  have hrs : (rowStep ss cur ls b).1 = if (stepP ss (UInt8.ofNat b) cur).length = 0 then ls else match findL 0 ls (stepP ss (UInt8.ofNat b) cur) with | some i => ls | none => ls ++ [stepP ss (UInt8.ofNat b) cur] := by
    unfold rowStep
    split
    · rfl
    · split <;> simp_all
  generalize stepP ss (UInt8.ofNat b) cur = l at *
  rcases hto with ⟨h1, h2⟩ | ⟨h1, j, h2, h3⟩
  · exact .inl ⟨h1, h2, by rw [hrs, if_pos h1]⟩
  · rw [if_neg h1] at hrs
    refine .inr ⟨h1, j, h2, (List.getElem?_eq_some_iff.1 h3).1, fun x y hx => ?_, fun hm => ?_, fun hm => ?_⟩
    · have hx' := pre_get hpl hx
      constructor
      · rintro rfl; exact nodup_get hL.once hx' h3
      · rintro rfl; rw [hx'] at h3; exact Option.some.inj h3
    · rw [hrs]
      cases hf : findL 0 ls l with
      | some i => rfl
      | none => exact absurd hm (findL_none ls 0 l hf)
    · have hf : findL 0 ls l = none := by
        cases hf : findL 0 ls l with
        | none => rfl
        | some i => exact absurd (List.mem_of_getElem? (findL_some ls 0 i l hf).2) hm
      rw [hf] at hrs
      simp only at hrs
      refine ⟨hrs, ?_⟩
      rw [hrs] at hpre
      exact nodup_get hL.once h3 (pre_get hpre (by simp))

theorem dmakeP_G {ss : List Ste} {st : Nat} {d : Tab} (h : dmakeP ss st = .inr d) : dmakeG ss 2002 0 [startP ss st] [] [] = some d := by
  unfold dmakeP at h
  split at h
  · cases h
  · split at h
    · cases h
    · rename_i hd; cases h; exact hd
theorem lists_first (ss : List Ste) (st : Nat) : Lists ss st [startP ss st] ⟨[], []⟩ := ⟨rfl, by simp, by simp, rfl, fun k r l hr => by simp at hr, fun k x l hx => by simp at hx⟩

theorem stepP_none (ss : List Ste) : ∀ (w : By) (T : List Nat), T.length = 0 → (w.foldl (fun T c => stepP ss c T) T).length = 0
  | [], T, h => h
  | c :: w, T, h => stepP_none ss w _ (by
      rw [List.length_eq_zero_iff.1 h]; simp only [stepP_nil]; rfl)
theorem Lists.says {ss : List Ste} {st0 : Nat} {L : List (List Nat)} {d : Tab} (k : Lists ss st0 L d) (hL : L.length = d.next.length) : ∀ (w : By) (s : Nat) (T : List Nat), L[s]? = some T → d.says (s : Int) w = acceptsP ss (w.foldl (fun T c => stepP ss c T) T)
  | [], s, T, h => by rw [says_nil, k.ru hL h]; rfl
  | c :: w, s, T, h => by
    rw [says_cons, List.foldl_cons]
    rcases k.to hL h c with ⟨h1, h2⟩ | ⟨h1, i, h2, h3⟩
    · rw [h2, says_neg d w (by decide), List.length_eq_zero_iff.1 (stepP_none ss w _ h1)]
      simp [acceptsP, accG]
    · rw [h2, k.says hL w i _ h3]
theorem Lists.says0 {ss : List Ste} {st0 : Nat} {L : List (List Nat)} {d : Tab} (k : Lists ss st0 L d) (hL : L.length = d.next.length) (w : By) : d.says 0 w = acceptsP ss (runP ss st0 w) := k.says hL w 0 _ k.first

end Go.Proofs.YtlegopbpofofgaaDoor

/- The reference's rules in plain words: places of sets, which may come behind which; they take the tree's texts. -/
namespace Go.Proofs.YtlegopbpofofgaaDoor

def orB (a b : List Bool) : List Bool := List.zipWith (· || ·) a b
def followB (last first : List Bool) (bh : List (List Bool)) : List (List Bool) := List.zipWith (fun l b => if l then orB b first else b) last bh
structure PartP where
  null : Bool
  first : List Bool
  last : List Bool
abbrev RuS := List Nat × List (List Bool)
def nob (size : Nat) : List Bool := List.replicate size false

mutual
def cnt : Nd → Nat
  | .mk k _ kids => (if k = 1 then 1 else 0) + cntL kids
def cntL : List Nd → Nat
  | [] => 0
  | x :: r => cnt x + cntL r
end
theorem cntL_append : ∀ (l m : List Nd), cntL (l ++ m) = cntL l + cntL m
  | [], m => by simp [cntL]
  | x :: l, m => by simp only [List.cons_append, cntL]; rw [cntL_append l m]; omega
mutual
theorem cnt_sz : ∀ x : Nd, cnt x ≤ szN x
  | .mk k s kids => by have := cntL_sz kids; simp only [cnt, szN]; split <;> omega
theorem cntL_sz : ∀ l : List Nd, cntL l ≤ szL l
  | [] => by simp [cntL, szL]
  | x :: r => by have := cnt_sz x; have := cntL_sz r; simp only [cntL, szL]; omega
end

def catPart (p k : PartP) : PartP := ⟨p.null && k.null, if p.null then orB p.first k.first else p.first, if k.null then orB p.last k.last else k.last⟩
def altPart (p k : PartP) : PartP := ⟨p.null || k.null, orB p.first k.first, orB p.last k.last⟩
mutual
/-- A tree's part; the sets, and what may come behind each. -/
def glu (size : Nat) : Nd → RuS → PartP × RuS
  | .mk k s kids, st =>
    if k = 1 then (⟨false, (nob size).set st.1.length true, (nob size).set st.1.length true⟩, (st.1 ++ [s], st.2))
    else if k = 2 then gluCat size kids ⟨true, nob size, nob size⟩ st
    else if k = 3 then gluAlt size kids ⟨false, nob size, nob size⟩ st
    else if k = 4 ∨ k = 5 then
      (⟨(gluOne size kids st).1.null || k == 4, (gluOne size kids st).1.first, (gluOne size kids st).1.last⟩, ((gluOne size kids st).2.1, followB (gluOne size kids st).1.last (gluOne size kids st).1.first (gluOne size kids st).2.2))
    else if k = 6 then (⟨true, (gluOne size kids st).1.first, (gluOne size kids st).1.last⟩, (gluOne size kids st).2)
    else (⟨true, nob size, nob size⟩, st)
def gluCat (size : Nat) : List Nd → PartP → RuS → PartP × RuS
  | [], p, st => (p, st)
  | x :: r, p, st => gluCat size r (catPart p (glu size x st).1) ((glu size x st).2.1, followB p.last (glu size x st).1.first (glu size x st).2.2)
def gluAlt (size : Nat) : List Nd → PartP → RuS → PartP × RuS
  | [], p, st => (p, st)
  | x :: r, p, st => gluAlt size r (altPart p (glu size x st).1) (glu size x st).2
def gluOne (size : Nat) : List Nd → RuS → PartP × RuS
  | [], st => (⟨true, nob size, nob size⟩, st)
  | x :: _, st => glu size x st
end

/-- A rule: sets, what may come behind each, which may be the last. -/
structure RuP where
  sets : List Nat
  behind : List (List Bool)
  last : List Bool
def ofP (x : Nd) : RuP :=
  ⟨(glu (cnt x + 1) x ([0], List.replicate (cnt x + 1) (nob (cnt x + 1)))).2.1,
   (glu (cnt x + 1) x ([0], List.replicate (cnt x + 1) (nob (cnt x + 1)))).2.2.set 0 (glu (cnt x + 1) x ([0], List.replicate (cnt x + 1) (nob (cnt x + 1)))).1.first,
   (glu (cnt x + 1) x ([0], List.replicate (cnt x + 1) (nob (cnt x + 1)))).1.last.set 0 (glu (cnt x + 1) x ([0], List.replicate (cnt x + 1) (nob (cnt x + 1)))).1.null⟩

/-! ### Lengths -/

theorem orB_len {a b : List Bool} {n : Nat} (ha : a.length = n) (hb : b.length = n) : (orB a b).length = n := by simp [orB, ha, hb]
theorem nob_len (n : Nat) : (nob n).length = n := by simp [nob]
structure PartOk (n : Nat) (p : PartP) : Prop where
  first : p.first.length = n
  last : p.last.length = n
structure RuOk (n : Nat) (st : RuS) : Prop where
  rows : st.2.length = n
  each : ∀ b ∈ st.2, b.length = n
theorem follow_ok {n : Nat} {p : List Bool} {f : List Bool} {S : List Nat} {bh : List (List Bool)} (hp : p.length = n) (hf : f.length = n) (k : RuOk n (S, bh)) : RuOk n (S, followB p f bh) := by
  refine ⟨by have := k.rows; simp only at this; simp [followB, hp, this], fun b hb => ?_⟩
  obtain ⟨i, hi⟩ := List.getElem?_of_mem hb
  simp only [followB, List.getElem?_zipWith] at hi
  split at hi
  · rename_i l c hl hc
    have hcl := k.each c (List.mem_of_getElem? hc)
    cases hi
    split
    · exact orB_len hcl hf
    · exact hcl
  · cases hi
theorem catPart_ok {n : Nat} {p k : PartP} (hp : PartOk n p) (hk : PartOk n k) : PartOk n (catPart p k) := by
  refine ⟨?_, ?_⟩ <;> simp only [catPart] <;> split
  · exact orB_len hp.first hk.first
  · exact hp.first
  · exact orB_len hp.last hk.last
  · exact hk.last
theorem altPart_ok {n : Nat} {p k : PartP} (hp : PartOk n p) (hk : PartOk n k) : PartOk n (altPart p k) := ⟨orB_len hp.first hk.first, orB_len hp.last hk.last⟩
theorem nob_ok (n : Nat) (b : Bool) : PartOk n ⟨b, nob n, nob n⟩ := ⟨nob_len n, nob_len n⟩

mutual
theorem glu_ok (n : Nat) : ∀ (x : Nd) (st : RuS), RuOk n st → PartOk n (glu n x st).1 ∧ RuOk n (glu n x st).2 ∧ st.1.length ≤ (glu n x st).2.1.length ∧ (wfN x = true → (glu n x st).2.1.length ≤ st.1.length + cnt x)
  | .mk k s kids, st, h => by
    rw [glu]
    simp only [cnt]
    split
    · rename_i h1
      exact ⟨⟨by simp [nob_len], by simp [nob_len]⟩, ⟨h.rows, h.each⟩, by simp, fun _ => by simp⟩
    · split
      · have k1 := gluCat_ok n kids ⟨true, nob n, nob n⟩ st (nob_ok n _) h
        exact ⟨k1.1, k1.2.1, k1.2.2.1, fun hw => by have := k1.2.2.2 (by simp only [wfN, Bool.and_eq_true] at hw; exact hw.2); omega⟩
      · split
        · have k1 := gluAlt_ok n kids ⟨false, nob n, nob n⟩ st (nob_ok n _) h
          exact ⟨k1.1, k1.2.1, k1.2.2.1, fun hw => by have := k1.2.2.2 (by simp only [wfN, Bool.and_eq_true] at hw; exact hw.2); omega⟩
        · have k1 := gluOne_ok n kids st h
          split
          · exact ⟨⟨k1.1.first, k1.1.last⟩, follow_ok k1.1.last k1.1.first k1.2.1, k1.2.2.1, fun hw => by have := k1.2.2.2 (by simp only [wfN, Bool.and_eq_true] at hw; exact hw.2); simp only; omega⟩
          · split
            · exact ⟨⟨k1.1.first, k1.1.last⟩, k1.2.1, k1.2.2.1, fun hw => by have := k1.2.2.2 (by simp only [wfN, Bool.and_eq_true] at hw; exact hw.2); simp only; omega⟩
            · exact ⟨nob_ok n _, h, Nat.le_refl _, fun _ => by simp only; omega⟩
theorem gluCat_ok (n : Nat) : ∀ (l : List Nd) (p : PartP) (st : RuS), PartOk n p → RuOk n st → PartOk n (gluCat n l p st).1 ∧ RuOk n (gluCat n l p st).2 ∧ st.1.length ≤ (gluCat n l p st).2.1.length ∧ (wfL l = true → (gluCat n l p st).2.1.length ≤ st.1.length + cntL l)
  | [], p, st, hp, h => by rw [gluCat]; exact ⟨hp, h, Nat.le_refl _, fun _ => by simp [cntL]⟩
  | x :: r, p, st, hp, h => by
    rw [gluCat]
    have k1 := glu_ok n x st h
    have k2 := gluCat_ok n r (catPart p (glu n x st).1) ((glu n x st).2.1, followB p.last (glu n x st).1.first (glu n x st).2.2) (catPart_ok hp k1.1) (follow_ok hp.last k1.1.first k1.2.1)
    refine ⟨k2.1, k2.2.1, Nat.le_trans k1.2.2.1 k2.2.2.1, fun hw => ?_⟩
    simp only [wfL, Bool.and_eq_true] at hw
    have := k1.2.2.2 hw.1; have := k2.2.2.2 hw.2
    simp only [cntL] at *; omega
theorem gluAlt_ok (n : Nat) : ∀ (l : List Nd) (p : PartP) (st : RuS), PartOk n p → RuOk n st → PartOk n (gluAlt n l p st).1 ∧ RuOk n (gluAlt n l p st).2 ∧ st.1.length ≤ (gluAlt n l p st).2.1.length ∧ (wfL l = true → (gluAlt n l p st).2.1.length ≤ st.1.length + cntL l)
  | [], p, st, hp, h => by rw [gluAlt]; exact ⟨hp, h, Nat.le_refl _, fun _ => by simp [cntL]⟩
  | x :: r, p, st, hp, h => by
    rw [gluAlt]
    have k1 := glu_ok n x st h
    have k2 := gluAlt_ok n r (altPart p (glu n x st).1) (glu n x st).2 (altPart_ok hp k1.1) k1.2.1
    refine ⟨k2.1, k2.2.1, Nat.le_trans k1.2.2.1 k2.2.2.1, fun hw => ?_⟩
    simp only [wfL, Bool.and_eq_true] at hw
    have := k1.2.2.2 hw.1; have := k2.2.2.2 hw.2
    simp only [cntL] at *; omega
theorem gluOne_ok (n : Nat) : ∀ (l : List Nd) (st : RuS), RuOk n st → PartOk n (gluOne n l st).1 ∧ RuOk n (gluOne n l st).2 ∧ st.1.length ≤ (gluOne n l st).2.1.length ∧ (wfL l = true → (gluOne n l st).2.1.length ≤ st.1.length + cntL l)
  | [], st, h => by rw [gluOne]; exact ⟨nob_ok n _, h, Nat.le_refl _, fun _ => by simp [cntL]⟩
  | x :: r, st, h => by
    rw [gluOne]
    have k1 := glu_ok n x st h
    refine ⟨k1.1, k1.2.1, k1.2.2.1, fun hw => ?_⟩
    simp only [wfL, Bool.and_eq_true] at hw
    have := k1.2.2.2 hw.1
    simp only [cntL]; omega
end

/-! ### Bits -/

def On (l : List Bool) (i : Nat) : Prop := l[i]? = some true
theorem on_or {a b : List Bool} (h : a.length = b.length) (i : Nat) : On (orB a b) i ↔ On a i ∨ On b i := by
  unfold On orB
  rw [List.getElem?_zipWith]
  by_cases hi : i < a.length
  · rw [List.getElem?_eq_getElem hi, List.getElem?_eq_getElem (by omega)]
    simp
  · rw [List.getElem?_eq_none (by omega), List.getElem?_eq_none (by omega)]
    simp
theorem on_nob (n i : Nat) : ¬ On (nob n) i := by
  unfold On nob
  rw [List.getElem?_replicate]
  split <;> simp
theorem on_set {n j : Nat} (h : j < n) (i : Nat) : On ((nob n).set j true) i ↔ i = j := by
  by_cases e : j = i
  · subst e
    unfold On; rw [List.getElem?_set_self (by rw [nob_len]; exact h)]; simp
  · have : On ((nob n).set j true) i ↔ On (nob n) i := by unfold On; rw [List.getElem?_set_ne e]
    rw [this]
    exact ⟨fun k => (on_nob n i k).elim, fun k => (e k.symm).elim⟩
/-- May q come behind p? -/
def Bh (bh : List (List Bool)) (p q : Nat) : Prop := ∃ b, bh[p]? = some b ∧ On b q
theorem bh_follow {n : Nat} {l f : List Bool} {S : List Nat} {bh : List (List Bool)} (hl : l.length = n) (hf : f.length = n) (k : RuOk n (S, bh)) (p q : Nat) : Bh (followB l f bh) p q ↔ Bh bh p q ∨ (On l p ∧ On f q) := by
  unfold Bh followB
  simp only [List.getElem?_zipWith]
  have hr := k.rows
  simp only at hr
  by_cases hp : p < n
  · obtain ⟨b, hb⟩ : ∃ b, bh[p]? = some b := ⟨_, List.getElem?_eq_getElem (by omega)⟩
    obtain ⟨c, hc⟩ : ∃ c, l[p]? = some c := ⟨_, List.getElem?_eq_getElem (by omega)⟩
    have hbl := k.each b (List.mem_of_getElem? hb)
    rw [hb, hc]
    cases c with
    | true => simp [On, hc, show ∀ q, ((orB b f)[q]? = some true ↔ b[q]? = some true ∨ f[q]? = some true) from fun q => on_or (by omega) q]
    | false => simp [On, hc]
  · have h1 : bh[p]? = none := List.getElem?_eq_none (by omega)
    have h2 : l[p]? = none := List.getElem?_eq_none (by omega)
    simp [h1, h2, On]

/-! ### Places -/

section
variable (S : Nat → UInt8 → Prop)
/-- From a place on, behind its byte. -/
inductive PAcc (G : Nat → Nat → Prop) (E : Nat → Prop) : Nat → By → Prop where
  | done {p : Nat} : E p → PAcc G E p []
  | go {p q : Nat} {c : UInt8} {w : By} : G p q → S q c → PAcc G E q w → PAcc G E p (c :: w)
def Ent (G : Nat → Nat → Prop) (E : Nat → Prop) (F : Nat → Prop) (w : By) : Prop := ∃ c w', w = c :: w' ∧ ∃ q, F q ∧ S q c ∧ PAcc S G E q w'
def Cont (G : Nat → Nat → Prop) (E : Nat → Prop) (N : Nat → Prop) (e : Prop) (v : By) : Prop := (v = [] ∧ e) ∨ Ent S G E N v

structure Glu (lo hi : Nat) (null : Bool) (F L : Nat → Prop) (Fol : Nat → Nat → Prop) (A : By → Prop) : Prop where
  fr : ∀ q, F q → lo ≤ q ∧ q < hi
  lr : ∀ q, L q → lo ≤ q ∧ q < hi
  gr : ∀ p q, Fol p q → (lo ≤ p ∧ p < hi) ∧ lo ≤ q ∧ q < hi
  nul : null = true ↔ A []
  ent : ∀ (G : Nat → Nat → Prop) (E N : Nat → Prop) (e : Prop), (∀ p q, lo ≤ p → p < hi → (G p q ↔ Fol p q ∨ (L p ∧ N q))) → (∀ p, lo ≤ p → p < hi → (E p ↔ L p ∧ e)) →
    ∀ w, Ent S G E F w ↔ ∃ u v, w = u ++ v ∧ u ≠ [] ∧ A u ∧ Cont S G E N e v
end

section
variable {S : Nat → UInt8 → Prop} {lo mid hi : Nat} {n1 n2 null : Bool} {F F1 F2 L L1 L2 : Nat → Prop} {Fol Fol1 Fol2 : Nat → Nat → Prop} {A B : By → Prop} {G : Nat → Nat → Prop} {E N : Nat → Prop} {e : Prop}

theorem Ent.or {w : By} : Ent S G E (fun q => F1 q ∨ F2 q) w ↔ Ent S G E F1 w ∨ Ent S G E F2 w := by
  constructor
  · rintro ⟨c, w', rfl, q, hq | hq, h⟩
    · exact .inl ⟨c, w', rfl, q, hq, h⟩
    · exact .inr ⟨c, w', rfl, q, hq, h⟩
  · rintro (⟨c, w', rfl, q, hq, h⟩ | ⟨c, w', rfl, q, hq, h⟩)
    · exact ⟨c, w', rfl, q, .inl hq, h⟩
    · exact ⟨c, w', rfl, q, .inr hq, h⟩
theorem Ent.and {P : Prop} {w : By} : Ent S G E (fun q => P ∧ F q) w ↔ P ∧ Ent S G E F w := by
  constructor
  · rintro ⟨c, w', rfl, q, ⟨hp, hq⟩, h⟩; exact ⟨hp, c, w', rfl, q, hq, h⟩
  · rintro ⟨hp, c, w', rfl, q, hq, h⟩; exact ⟨c, w', rfl, q, ⟨hp, hq⟩, h⟩
theorem Ent.false {w : By} : ¬ Ent S G E (fun _ => False) w := by rintro ⟨_, _, _, _, h, _⟩; exact h

theorem Glu.congr {F' L' : Nat → Prop} {Fol' : Nat → Nat → Prop} {A' : By → Prop} (k : Glu S lo hi null F L Fol A) (hF : ∀ q, F' q ↔ F q) (hL : ∀ q, L' q ↔ L q) (hG : ∀ p q, Fol' p q ↔ Fol p q) (hA : ∀ u, A' u ↔ A u) : Glu S lo hi null F' L' Fol' A' := by
  have e1 : F' = F := funext fun q => propext (hF q)
  have e2 : L' = L := funext fun q => propext (hL q)
  have e3 : Fol' = Fol := funext fun p => funext fun q => propext (hG p q)
  have e4 : A' = A := funext fun u => propext (hA u)
  rw [e1, e2, e3, e4]; exact k

theorem Glu.none_ (A : By → Prop) (hA : ∀ u, A u → u = []) (hn : null = true ↔ A []) : Glu S lo lo null (fun _ => False) (fun _ => False) (fun _ _ => False) A := by
  refine ⟨fun _ h => h.elim, fun _ h => h.elim, fun _ _ h => h.elim, hn, fun G E N e _ _ w => ⟨fun h => (Ent.false h).elim, ?_⟩⟩
  rintro ⟨u, v, _, h0, hu, _⟩
  exact absurd (hA u hu) h0

theorem Glu.byte : Glu S lo (lo + 1) false (fun q => q = lo) (fun q => q = lo) (fun _ _ => False) (fun u => ∃ c, u = [c] ∧ S lo c) := by
  refine ⟨fun q h => by omega, fun q h => by omega, fun _ _ h => h.elim, ⟨fun h => (by cases h), fun h => (by obtain ⟨c, h, _⟩ := h; cases h)⟩, fun G E N e hG hE w => ?_⟩
  have hG := fun q => hG lo q (Nat.le_refl _) (by omega)
  have hE := hE lo (Nat.le_refl _) (by omega)
  constructor
  · rintro ⟨c, w', rfl, q, rfl, hc, hp⟩
    refine ⟨[c], w', rfl, by simp, ⟨c, rfl, hc⟩, ?_⟩
    cases hp with
    | done h => exact .inl ⟨rfl, (hE.1 h).2⟩
    | go hg hs hp =>
      rcases (hG _).1 hg with h | ⟨_, h⟩
      · exact h.elim
      · exact .inr ⟨_, _, rfl, _, h, hs, hp⟩
  · rintro ⟨u, v, rfl, _, ⟨c, rfl, hc⟩, hv⟩
    refine ⟨c, v, rfl, lo, rfl, hc, ?_⟩
    rcases hv with ⟨rfl, he⟩ | ⟨c', v', rfl, q, hq, hs, hp⟩
    · exact .done (hE.2 ⟨rfl, he⟩)
    · exact .go ((hG q).2 (.inr ⟨rfl, hq⟩)) hs hp

theorem Glu.cat (h1 : Glu S lo mid n1 F1 L1 Fol1 A) (h2 : Glu S mid hi n2 F2 L2 Fol2 B) (hm1 : lo ≤ mid) (hm2 : mid ≤ hi) :
    Glu S lo hi (n1 && n2) (fun q => F1 q ∨ (n1 = true ∧ F2 q)) (fun q => L2 q ∨ (n2 = true ∧ L1 q)) (fun p q => Fol1 p q ∨ Fol2 p q ∨ (L1 p ∧ F2 q)) (fun w => ∃ u v, w = u ++ v ∧ A u ∧ B v) := by
  refine ⟨fun q h => ?_, fun q h => ?_, fun p q h => ?_, ?_, fun G E N e hG hE w => ?_⟩
  · rcases h with h | ⟨_, h⟩
    · have := h1.fr q h; omega
    · have := h2.fr q h; omega
  · rcases h with h | ⟨_, h⟩
    · have := h2.lr q h; omega
    · have := h1.lr q h; omega
  · rcases h with h | h | ⟨h, h'⟩
    · have := h1.gr p q h; omega
    · have := h2.gr p q h; omega
    · have := h1.lr p h; have := h2.fr q h'; omega
  · rw [Bool.and_eq_true, h1.nul, h2.nul]
    exact ⟨fun ⟨a, b⟩ => ⟨[], [], rfl, a, b⟩, fun ⟨u, v, h, a, b⟩ => by
      have := List.append_eq_nil_iff.1 h.symm
      rw [this.1] at a; rw [this.2] at b; exact ⟨a, b⟩⟩
  · have e2 := h2.ent G E N e (fun p q hp hp' => by
      rw [hG p q (by omega) hp']
      constructor
      · rintro ((h | h | ⟨h, _⟩) | ⟨h | ⟨_, h⟩, hn⟩)
        · have := h1.gr p q h; omega
        · exact .inl h
        · have := h1.lr p h; omega
        · exact .inr ⟨h, hn⟩
        · have := h1.lr p h; omega
      · rintro (h | ⟨h, hn⟩)
        · exact .inl (.inr (.inl h))
        · exact .inr ⟨.inl h, hn⟩) (fun p hp hp' => by
      rw [hE p (by omega) hp']
      constructor
      · rintro ⟨h | ⟨_, h⟩, he⟩
        · exact ⟨h, he⟩
        · have := h1.lr p h; omega
      · rintro ⟨h, he⟩; exact ⟨.inl h, he⟩)
    have e1 := h1.ent G E (fun q => F2 q ∨ (n2 = true ∧ N q)) (n2 = true ∧ e) (fun p q hp hp' => by
      rw [hG p q hp (by omega)]
      constructor
      · rintro ((h | h | ⟨h, h'⟩) | ⟨h | ⟨h0, h⟩, hn⟩)
        · exact .inl h
        · have := h2.gr p q h; omega
        · exact .inr ⟨h, .inl h'⟩
        · have := h2.lr p h; omega
        · exact .inr ⟨h, .inr ⟨h0, hn⟩⟩
      · rintro (h | ⟨h, h' | ⟨h0, hn⟩⟩)
        · exact .inl (.inl h)
        · exact .inl (.inr (.inr ⟨h, h'⟩))
        · exact .inr ⟨.inr ⟨h0, h⟩, hn⟩) (fun p hp hp' => by
      rw [hE p hp (by omega)]
      constructor
      · rintro ⟨h | ⟨h0, h⟩, he⟩
        · have := h2.lr p h; omega
        · exact ⟨h, h0, he⟩
      · rintro ⟨h, h0, he⟩; exact ⟨.inr ⟨h0, h⟩, he⟩)
    have c1 : ∀ v, Cont S G E (fun q => F2 q ∨ (n2 = true ∧ N q)) (n2 = true ∧ e) v ↔ ∃ u' v', v = u' ++ v' ∧ B u' ∧ Cont S G E N e v' := by
      intro v
      unfold Cont
      rw [Ent.or, Ent.and, e2 v]
      constructor
      · rintro (⟨rfl, h0, he⟩ | ⟨u', v', rfl, _, hb, hc⟩ | ⟨h0, hn⟩)
        · exact ⟨[], [], rfl, h2.nul.1 h0, .inl ⟨rfl, he⟩⟩
        · exact ⟨u', v', rfl, hb, hc⟩
        · exact ⟨[], v, rfl, h2.nul.1 h0, .inr hn⟩
      · rintro ⟨u', v', rfl, hb, hc⟩
        by_cases h0 : u' = []
        · subst h0
          have h0 := h2.nul.2 hb
          rcases hc with ⟨rfl, he⟩ | hc
          · exact .inl ⟨rfl, h0, he⟩
          · exact .inr (.inr ⟨h0, hc⟩)
        · exact .inr (.inl ⟨u', v', rfl, h0, hb, hc⟩)
    rw [Ent.or, Ent.and, e1 w, e2 w]
    constructor
    · rintro (⟨u, v, rfl, h0, ha, hv⟩ | ⟨h0, u, v, rfl, h0', hb, hv⟩)
      · obtain ⟨u', v', rfl, hb, hc⟩ := (c1 v).1 hv
        exact ⟨u ++ u', v', by simp, by simp [h0], ⟨u, u', rfl, ha, hb⟩, hc⟩
      · exact ⟨u, v, rfl, h0', ⟨[], u, rfl, h1.nul.1 h0, hb⟩, hv⟩
    · rintro ⟨_, v, rfl, h0, ⟨u, u', rfl, ha, hb⟩, hv⟩
      by_cases hu : u = []
      · subst hu
        exact .inr ⟨h1.nul.2 ha, u', v, rfl, by simpa using h0, hb, hv⟩
      · exact .inl ⟨u, u' ++ v, by simp, hu, ha, (c1 _).2 ⟨u', v, rfl, hb, hv⟩⟩

theorem Glu.alt (h1 : Glu S lo mid n1 F1 L1 Fol1 A) (h2 : Glu S mid hi n2 F2 L2 Fol2 B) (hm1 : lo ≤ mid) (hm2 : mid ≤ hi) :
    Glu S lo hi (n1 || n2) (fun q => F1 q ∨ F2 q) (fun q => L1 q ∨ L2 q) (fun p q => Fol1 p q ∨ Fol2 p q) (fun w => A w ∨ B w) := by
  refine ⟨fun q h => ?_, fun q h => ?_, fun p q h => ?_, ?_, fun G E N e hG hE w => ?_⟩
  · rcases h with h | h
    · have := h1.fr q h; omega
    · have := h2.fr q h; omega
  · rcases h with h | h
    · have := h1.lr q h; omega
    · have := h2.lr q h; omega
  · rcases h with h | h
    · have := h1.gr p q h; omega
    · have := h2.gr p q h; omega
  · rw [Bool.or_eq_true, h1.nul, h2.nul]
  · have e2 := h2.ent G E N e (fun p q hp hp' => by
      rw [hG p q (by omega) hp']
      constructor
      · rintro ((h | h) | ⟨h | h, hn⟩)
        · have := h1.gr p q h; omega
        · exact .inl h
        · have := h1.lr p h; omega
        · exact .inr ⟨h, hn⟩
      · rintro (h | ⟨h, hn⟩)
        · exact .inl (.inr h)
        · exact .inr ⟨.inr h, hn⟩) (fun p hp hp' => by
      rw [hE p (by omega) hp']
      constructor
      · rintro ⟨h | h, he⟩
        · have := h1.lr p h; omega
        · exact ⟨h, he⟩
      · rintro ⟨h, he⟩; exact ⟨.inr h, he⟩)
    have e1 := h1.ent G E N e (fun p q hp hp' => by
      rw [hG p q hp (by omega)]
      constructor
      · rintro ((h | h) | ⟨h | h, hn⟩)
        · exact .inl h
        · have := h2.gr p q h; omega
        · exact .inr ⟨h, hn⟩
        · have := h2.lr p h; omega
      · rintro (h | ⟨h, hn⟩)
        · exact .inl (.inl h)
        · exact .inr ⟨.inl h, hn⟩) (fun p hp hp' => by
      rw [hE p hp (by omega)]
      constructor
      · rintro ⟨h | h, he⟩
        · exact ⟨h, he⟩
        · have := h2.lr p h; omega
      · rintro ⟨h, he⟩; exact ⟨.inl h, he⟩)
    rw [Ent.or, e1 w, e2 w]
    constructor
    · rintro (⟨u, v, a, b, c, d⟩ | ⟨u, v, a, b, c, d⟩)
      · exact ⟨u, v, a, b, .inl c, d⟩
      · exact ⟨u, v, a, b, .inr c, d⟩
    · rintro ⟨u, v, a, b, c | c, d⟩
      · exact .inl ⟨u, v, a, b, c, d⟩
      · exact .inr ⟨u, v, a, b, c, d⟩

/-- A star's text that is something begins with one that is something. -/
theorem StarL.open {A : By → Prop} {u : By} (h : StarL A u) (h0 : u ≠ []) : ∃ a b, u = a ++ b ∧ a ≠ [] ∧ A a ∧ StarL A b := by
  induction h with
  | nil => exact absurd rfl h0
  | @cons a b ha hb ih =>
    by_cases e : a = []
    · subst e; exact ih (by simpa using h0)
    · exact ⟨a, b, rfl, e, ha, hb⟩

theorem Glu.starEnt (h : Glu S lo hi null F L Fol A) {G : Nat → Nat → Prop} {E N : Nat → Prop} {e : Prop} (hG : ∀ p q, lo ≤ p → p < hi → (G p q ↔ (Fol p q ∨ (L p ∧ F q)) ∨ (L p ∧ N q))) (hE : ∀ p, lo ≤ p → p < hi → (E p ↔ L p ∧ e)) (w : By) :
    Ent S G E F w ↔ ∃ u v, w = u ++ v ∧ u ≠ [] ∧ StarL A u ∧ Cont S G E N e v := by
  have e1 := h.ent G E (fun q => F q ∨ N q) e (fun p q hp hp' => by
    rw [hG p q hp hp']
    constructor
    · rintro ((h | ⟨h, h'⟩) | ⟨h, h'⟩)
      · exact .inl h
      · exact .inr ⟨h, .inl h'⟩
      · exact .inr ⟨h, .inr h'⟩
    · rintro (h | ⟨h, h' | h'⟩)
      · exact .inl (.inl h)
      · exact .inl (.inr ⟨h, h'⟩)
      · exact .inr ⟨h, h'⟩) hE
  have c1 : ∀ v, Cont S G E (fun q => F q ∨ N q) e v ↔ Cont S G E N e v ∨ Ent S G E F v := fun v => by
    unfold Cont; rw [Ent.or]
    constructor
    · rintro (h | h | h)
      · exact .inl (.inl h)
      · exact .inr h
      · exact .inl (.inr h)
    · rintro ((h | h) | h)
      · exact .inl h
      · exact .inr (.inr h)
      · exact .inr (.inl h)
  generalize hn : w.length = n
  induction n using Nat.strongRecOn generalizing w with
  | _ n ih =>
    constructor
    · intro hw
      obtain ⟨u, v, rfl, h0, ha, hv⟩ := (e1 w).1 hw
      have hul : 0 < u.length := List.length_pos_iff.2 h0
      rcases (c1 v).1 hv with hv | hv
      · exact ⟨u, v, rfl, h0, by simpa using StarL.cons ha .nil, hv⟩
      · obtain ⟨u', v', rfl, _, hs, hc⟩ := (ih v.length (by rw [← hn]; simp; omega) v rfl).1 hv
        exact ⟨u ++ u', v', by simp, by simp [h0], .cons ha hs, hc⟩
    · rintro ⟨u, v, rfl, h0, hs, hc⟩
      obtain ⟨a, b, rfl, ha0, ha, hb⟩ := hs.open h0
      have hal : 0 < a.length := List.length_pos_iff.2 ha0
      refine (e1 _).2 ⟨a, b ++ v, by simp, ha0, ha, (c1 _).2 ?_⟩
      by_cases hb0 : b = []
      · subst hb0; exact .inl hc
      · exact .inr ((ih (b ++ v).length (by rw [← hn]; simp; omega) _ rfl).2 ⟨b, v, rfl, hb0, hb, hc⟩)

theorem Glu.star (h : Glu S lo hi null F L Fol A) (null' : Bool) (hn : null' = true) : Glu S lo hi null' F L (fun p q => Fol p q ∨ (L p ∧ F q)) (StarL A) := by
  refine ⟨h.fr, h.lr, fun p q k => ?_, by simp [hn, StarL.nil], fun G E N e hG hE w => h.starEnt hG hE w⟩
  rcases k with k | ⟨k, k'⟩
  · exact h.gr p q k
  · exact ⟨h.lr p k, h.fr q k'⟩
theorem plus_star {A : By → Prop} {w : By} (h0 : w ≠ []) : (∃ u v, w = u ++ v ∧ A u ∧ StarL A v) ↔ StarL A w := by
  constructor
  · rintro ⟨u, v, rfl, ha, hs⟩; exact .cons ha hs
  · intro h
    obtain ⟨a, b, rfl, _, ha, hb⟩ := h.open h0
    exact ⟨a, b, rfl, ha, hb⟩
theorem plus_nil {A : By → Prop} : (∃ u v, ([] : By) = u ++ v ∧ A u ∧ StarL A v) ↔ A [] := by
  constructor
  · rintro ⟨u, v, h, ha, _⟩
    rw [(List.append_eq_nil_iff.1 h.symm).1] at ha; exact ha
  · intro h; exact ⟨[], [], rfl, h, .nil⟩
theorem Glu.plus (h : Glu S lo hi null F L Fol A) : Glu S lo hi null F L (fun p q => Fol p q ∨ (L p ∧ F q)) (fun w => ∃ u v, w = u ++ v ∧ A u ∧ StarL A v) := by
  have k := h.star true rfl
  refine ⟨k.fr, k.lr, k.gr, by rw [h.nul]; exact plus_nil.symm, fun G E N e hG hE w => ?_⟩
  rw [k.ent G E N e hG hE w]
  constructor
  · rintro ⟨u, v, a, b, c, d⟩; exact ⟨u, v, a, b, (plus_star b).2 c, d⟩
  · rintro ⟨u, v, a, b, c, d⟩; exact ⟨u, v, a, b, (plus_star b).1 c, d⟩
theorem Glu.opt (h : Glu S lo hi null F L Fol A) : Glu S lo hi true F L Fol (fun w => w = [] ∨ A w) := by
  refine ⟨h.fr, h.lr, h.gr, by simp, fun G E N e hG hE w => ?_⟩
  rw [h.ent G E N e hG hE w]
  constructor
  · rintro ⟨u, v, a, b, c, d⟩; exact ⟨u, v, a, b, .inr c, d⟩
  · rintro ⟨u, v, a, b, c | c, d⟩
    · exact absurd c b
    · exact ⟨u, v, a, b, c, d⟩
end

end Go.Proofs.YtlegopbpofofgaaDoor

/- Rules that are written otherwise, but take the same texts: how they are read; that they have one least table. -/
namespace Go.Proofs.YtlegopbpofofgaaDoor
open Go

/-! ### What is read stays so with a bracket behind it -/

theorem escP_suf {s t r : By} {b : UInt8} (h : escP s = some (b, r)) : escP (s ++ t) = some (b, r ++ t) := by
  unfold escP at h
  split at h
  · cases h
  · rename_i c q
    rw [List.cons_append]
    unfold escP
    simp only
    split at h
    · cases h; rename_i k; rw [if_pos k]
    · rename_i k1; rw [if_neg k1]
      split at h
      · cases h; rename_i k; rw [if_pos k]
      · rename_i k2; rw [if_neg k2]
        split at h
        · cases h; rename_i k; rw [if_pos k]
        · rename_i k3; rw [if_neg k3]
          split at h
          · rename_i k4; rw [if_pos k4]
            split at h
            · rename_i x y q'
              rw [List.cons_append, List.cons_append]
              simp only
              split at h
              · cases h; rfl
              · cases h
            · cases h
          · rename_i k4; rw [if_neg k4]
            split at h
            · cases h; rename_i k; rw [if_pos k]
            · cases h
theorem letP_suf {s t r : By} {b : UInt8} (h : letP s = some (b, r)) : letP (s ++ t) = some (b, r ++ t) := by
  unfold letP at h
  split at h
  · cases h
  · rename_i c q
    rw [List.cons_append]
    unfold letP
    simp only
    split at h
    · rename_i k; rw [if_pos k]; exact escP_suf h
    · rename_i k; rw [if_neg k]
      split at h
      · cases h
      · rename_i k2; cases h; rw [if_neg k2]
theorem fromToP_suf {s t r : By} {p : UInt8 × UInt8} (h : fromToP s = some (p, r)) : fromToP (s ++ 41 :: t) = some (p, r ++ 41 :: t) := by
  unfold fromToP at h ⊢
  cases hl : letP s with
  | none => rw [hl] at h; cases h
  | some q =>
    obtain ⟨a, r1⟩ := q
    rw [hl] at h
    rw [letP_suf hl]
    simp only at h ⊢
    cases r1 with
    | nil =>
      simp only [List.nil_append] at h ⊢
      cases h
      split
      · rename_i e; simp at e
      · rfl
    | cons c r1 =>
      by_cases hc : c = 45
      · subst hc
        simp only [List.cons_append] at h ⊢
        cases hl2 : letP r1 with
        | none => rw [hl2] at h; cases h
        | some q =>
          obtain ⟨b, r2⟩ := q
          rw [hl2] at h
          rw [letP_suf hl2]
          simp only at h ⊢
          split at h
          · cases h
          · rename_i k; cases h; rw [if_neg k]
      · simp only [List.cons_append] at h ⊢
        split at h
        · rename_i e; cases e; exact absurd rfl hc
        · cases h
          split
          · rename_i e; cases e; exact absurd rfl hc
          · rfl
theorem setsP_nil (n acc : Nat) : setsP n acc [] = none := by cases n <;> rfl
theorem setsP_suf {t : By} : ∀ (n n' acc : Nat) (s : By) (m : Nat) (r : By), setsP n acc s = some (m, r) → n ≤ n' → setsP n' acc (s ++ 41 :: t) = some (m, r ++ 41 :: t)
  | 0, _, _, _, _, _, h, _ => by cases h
  | n + 1, 0, _, _, _, _, _, hn => by omega
  | n + 1, n' + 1, acc, s, m, r, h, hn => by
    rw [setsP] at h ⊢
    cases hf : fromToP s with
    | none => rw [hf] at h; cases h
    | some q =>
      obtain ⟨⟨a, b⟩, r1⟩ := q
      rw [hf] at h
      rw [fromToP_suf hf]
      simp only at h ⊢
      cases r1 with
      | nil =>
        simp only at h
        rw [setsP_nil] at h; cases h
      | cons c r1 =>
        by_cases hc : c = 93
        · subst hc
          simp only [List.cons_append] at h ⊢
          cases h; rfl
        · simp only [List.cons_append] at h ⊢
          split at h
          · rename_i e; cases e; exact absurd rfl hc
          · split
            · rename_i e; cases e; exact absurd rfl hc
            · exact setsP_suf n n' _ (c :: r1) m r h (by omega)
theorem bracketP_suf {s t r : By} {x : Nd} (h : bracketP s = some (x, r)) : bracketP (s ++ 41 :: t) = some (x, r ++ 41 :: t) := by
  have key : ∀ (s : By) (f : Nat × By → Nd × By) (hf : ∀ m r, f (m, r ++ 41 :: t) = ((f (m, r)).1, (f (m, r)).2 ++ 41 :: t)) (x : Nd) (r : By), (setsP (s.length + 1) 0 s).map f = some (x, r) → (setsP ((s ++ 41 :: t).length + 1) 0 (s ++ 41 :: t)).map f = some (x, r ++ 41 :: t) := by
    intro s f hf x r h
    cases hs : setsP (s.length + 1) 0 s with
    | none => rw [hs] at h; cases h
    | some q =>
      obtain ⟨m, r1⟩ := q
      rw [hs] at h
      rw [setsP_suf _ _ _ _ _ _ hs (show s.length + 1 ≤ (s ++ 41 :: t).length + 1 by simp)]
      simp only [Option.map_some, Option.some.injEq] at h ⊢
      rw [hf, h]
  cases s with
  | nil =>
    have e1 : bracketP [] = (setsP 1 0 []).map fun p => ((.mk 1 p.1 [] : Nd), p.2) := rfl
    rw [e1, setsP_nil] at h; cases h
  | cons c s =>
    by_cases hc : c = 94
    · subst hc
      exact key s (fun p => (.mk 1 (notSet p.1) [], p.2)) (fun _ _ => rfl) x r h
    · have e1 : bracketP (c :: s) = (setsP ((c :: s).length + 1) 0 (c :: s)).map fun p => (.mk 1 p.1 [], p.2) := by
        unfold bracketP
        split
        · rename_i e; cases e; exact absurd rfl hc
        · rfl
      have e2 : bracketP (c :: s ++ 41 :: t) = (setsP ((c :: s ++ 41 :: t).length + 1) 0 (c :: s ++ 41 :: t)).map fun p => (.mk 1 p.1 [], p.2) := by
        unfold bracketP
        split
        · rename_i e; cases e; exact absurd rfl hc
        · rfl
      rw [e1] at h
      rw [e2]
      exact key (c :: s) (fun p => (.mk 1 p.1 [], p.2)) (fun _ _ => rfl) x r h
theorem signsP_suf {t : By} : ∀ (s : By) (n : Nd), signsP n (s ++ 41 :: t) = ((signsP n s).1, (signsP n s).2 ++ 41 :: t)
  | [], n => by
    show signsP n (41 :: t) = (n, [] ++ 41 :: t)
    rw [signsP, if_pos (by decide)]; rfl
  | c :: s, n => by
    rw [List.cons_append, signsP, signsP]
    split
    · rfl
    · exact signsP_suf s _
theorem atomP_suf {rows rows' : By → Option (Nd × By)} {t : By} (hr : ∀ s x r, rows s = some (x, r) → rows' (s ++ 41 :: t) = some (x, r ++ 41 :: t)) {s r : By} {x : Nd} (h : atomP rows s = some (x, r)) : atomP rows' (s ++ 41 :: t) = some (x, r ++ 41 :: t) := by
  cases s with
  | nil => cases h
  | cons c s =>
    rw [List.cons_append]
    unfold atomP at h ⊢
    simp only at h ⊢
    split at h
    · rename_i k; rw [if_pos k]
      cases hs : rows s with
      | none => rw [hs] at h; cases h
      | some q =>
        obtain ⟨n, r1⟩ := q
        rw [hs] at h
        rw [hr _ _ _ hs]
        simp only at h ⊢
        cases r1 with
        | nil => simp at h
        | cons d r1 =>
          by_cases hd : d = 41
          · subst hd
            simp only [List.cons_append, Option.some.injEq, Prod.mk.injEq] at h ⊢
            exact ⟨h.1, by rw [h.2]⟩
          · split at h
            · rename_i e; cases e; exact absurd rfl hd
            · cases h
    · rename_i k; rw [if_neg k]
      split at h
      · rename_i k; rw [if_pos k]; exact bracketP_suf h
      · rename_i k; rw [if_neg k]
        split at h
        · rename_i k; rw [if_pos k]; cases h; rfl
        · rename_i k; rw [if_neg k]
          split at h
          · rename_i k; rw [if_pos k]
            cases hs : escP s with
            | none => rw [hs] at h; cases h
            | some q =>
              obtain ⟨n, r1⟩ := q
              rw [hs] at h
              rw [escP_suf hs]
              simp only [Option.map_some, Option.some.injEq, Prod.mk.injEq] at h ⊢
              exact ⟨h.1, by rw [h.2]⟩
          · rename_i k; rw [if_neg k]
            split at h
            · cases h
            · rename_i k; rw [if_neg k]; cases h; rfl
theorem pieceP_suf {rows rows' : By → Option (Nd × By)} {t : By} (hr : ∀ s x r, rows s = some (x, r) → rows' (s ++ 41 :: t) = some (x, r ++ 41 :: t)) {s r : By} {x : Nd} (h : pieceP rows s = some (x, r)) : pieceP rows' (s ++ 41 :: t) = some (x, r ++ 41 :: t) := by
  unfold pieceP at h ⊢
  cases hs : atomP rows s with
  | none => rw [hs] at h; cases h
  | some q =>
    obtain ⟨n, r1⟩ := q
    rw [hs] at h
    rw [atomP_suf hr hs]
    simp only [Option.map_some, Option.some.injEq] at h ⊢
    rw [signsP_suf, h]
theorem rowsG_suf {rows rows' : By → Option (Nd × By)} {t : By} (hr : ∀ s x r, rows s = some (x, r) → rows' (s ++ 41 :: t) = some (x, r ++ 41 :: t)) : ∀ (n n' : Nat) (all row : List Nd) (s r : By) (x : Nd), rowsG rows n all row s = some (x, r) → n ≤ n' → rowsG rows' n' all row (s ++ 41 :: t) = some (x, r ++ 41 :: t)
  | 0, _, _, _, _, _, _, h, _ => by cases h
  | n + 1, 0, _, _, _, _, _, _, hn => by omega
  | n + 1, n' + 1, all, row, s, r, x, h, hn => by
    cases s with
    | nil =>
      have he : rowEnd [] = true := rfl
      have he2 : rowEnd (41 :: t) = true := rfl
      rw [rowsG, if_pos he, if_neg (by simp)] at h
      cases h
      rw [List.nil_append, rowsG, if_pos he2, if_neg (by simp)] <;> rfl
    | cons c s =>
      have hre : rowEnd (c :: s ++ 41 :: t) = rowEnd (c :: s) := rfl
      rw [rowsG] at h ⊢
      rw [hre]
      split at h
      · rename_i k
        rw [if_pos k]
        have hh : (c :: s ++ 41 :: t).head? = (c :: s).head? := rfl
        rw [hh]
        split at h
        · rename_i k2
          rw [if_pos k2]
          exact rowsG_suf hr n n' _ _ s r x h (by omega)
        · rename_i k2
          rw [if_neg k2]
          cases h; rfl
      · rename_i k
        rw [if_neg k]
        cases hp : pieceP rows (c :: s) with
        | none => rw [hp] at h; cases h
        | some q =>
          obtain ⟨y, r1⟩ := q
          rw [hp] at h
          rw [pieceP_suf hr hp]
          simp only at h ⊢
          exact rowsG_suf hr n n' _ _ r1 r x h (by omega)
theorem rowsP_suf {t : By} : ∀ (d d' : Nat) (s r : By) (x : Nd), rowsP d s = some (x, r) → d ≤ d' → rowsP d' (s ++ 41 :: t) = some (x, r ++ 41 :: t)
  | 0, _, _, _, _, h, _ => by cases h
  | d + 1, 0, _, _, _, _, hd => by omega
  | d + 1, d' + 1, s, r, x, h, hd => by
    rw [rowsP] at h ⊢
    exact rowsG_suf (fun s x r h => rowsP_suf d d' s r x h (by omega)) _ _ _ _ s r x h (by simp)

/-! ### How they are read -/

theorem parse_rows {s : By} {n : Nd} (h : parseP s = some n) : rowsP (s.length + 1) s = some (n, []) := by
  unfold parseP at h
  split at h
  · rename_i e; cases h; exact e
  · cases h
theorem rows_parse {s : By} {n : Nd} (h : rowsP (s.length + 1) s = some (n, [])) : parseP s = some n := by unfold parseP; rw [h]
theorem group_piece {s : By} {n : Nd} (h : parseP s = some n) {D : Nat} (hD : s.length + 1 ≤ D) (T : By) : pieceP (rowsP D) (40 :: (s ++ 41 :: T)) = some (signsP n T) := by
  unfold pieceP atomP
  simp only
  rw [if_pos trivial, rowsP_suf _ D s [] n (parse_rows h) hD]
  rfl
theorem parse_alt {s : By} {n : Nd} (h : parseP s = some n) : parseP (40 :: (s ++ 41 :: (124 :: 40 :: (s ++ [41])))) = some (.mk 3 0 [n, n]) := by
  apply rows_parse
  obtain ⟨k, hk⟩ : ∃ k, (40 :: (s ++ 41 :: (124 :: 40 :: (s ++ [41])))).length = k + 4 := ⟨s.length + s.length + 1, by simp; omega⟩
  have hD : s.length + 1 ≤ (40 :: (s ++ 41 :: (124 :: 40 :: (s ++ [41])))).length := by simp <;> omega
  rw [rowsP, hk] at *
  have hs1 : signsP n (124 :: 40 :: (s ++ [41])) = (n, 124 :: 40 :: (s ++ [41])) := by rw [signsP, if_pos (by decide)]
  have hs2 : signsP n [] = (n, []) := rfl
  have e0 : rowEnd (40 :: (s ++ 41 :: (124 :: 40 :: (s ++ [41])))) = false := rfl
  have e1 : rowEnd (124 :: 40 :: (s ++ [41])) = true := rfl
  have e2 : rowEnd (40 :: (s ++ [41])) = false := rfl
  have e3 : rowEnd [] = true := rfl
  rw [rowsG, if_neg (by rw [e0]; decide), group_piece h hD]
  simp only [hs1]
  rw [rowsG, if_pos e1, if_pos (by rfl), List.tail_cons, rowsG, if_neg (by rw [e2]; decide), group_piece h hD]
  simp only [hs2]
  rw [rowsG, if_pos e3, if_neg (by simp)]
  rfl
theorem parse_star {s : By} {n : Nd} (h : parseP s = some n) : parseP (40 :: (s ++ 41 :: [42])) = some (.mk 4 0 [n]) := by
  apply rows_parse
  obtain ⟨k, hk⟩ : ∃ k, (40 :: (s ++ 41 :: [42])).length = k + 2 := ⟨s.length + 1, by simp⟩
  have hD : s.length + 1 ≤ (40 :: (s ++ 41 :: [42])).length := by simp <;> omega
  rw [rowsP, hk] at *
  have hs1 : signsP n [42] = (.mk 4 0 [n], []) := by rw [signsP, if_neg (by decide)]; rfl
  have e0 : rowEnd (40 :: (s ++ 41 :: [42])) = false := rfl
  have e3 : rowEnd [] = true := rfl
  rw [rowsG, if_neg (by rw [e0]; decide), group_piece h hD]
  simp only [hs1]
  rw [rowsG, if_pos e3, if_neg (by simp)]
  rfl
theorem parse_opt {s : By} {n : Nd} (h : parseP s = some n) : parseP (40 :: 40 :: (s ++ 41 :: [43, 41, 63])) = some (.mk 6 0 [.mk 5 0 [n]]) := by
  apply rows_parse
  obtain ⟨k, hk⟩ : ∃ k, (40 :: 40 :: (s ++ 41 :: [43, 41, 63])).length = k + 3 := ⟨s.length + 3, by simp⟩
  have hD : s.length + 1 ≤ k + 2 := by simp at hk; omega
  rw [rowsP, hk] at *
  have hs1 : signsP n [43, 41, 63] = (.mk 5 0 [n], [41, 63]) := by rw [signsP, if_neg (by decide), signsP, if_pos (by decide)]; rfl
  have e0 : rowEnd (40 :: 40 :: (s ++ 41 :: [43, 41, 63])) = false := rfl
  have e1 : rowEnd (40 :: (s ++ 41 :: [43, 41, 63])) = false := rfl
  have e2 : rowEnd [41, 63] = true := rfl
  have e3 : rowEnd [] = true := rfl
  have hin : rowsP (k + 3) (40 :: (s ++ 41 :: [43, 41, 63])) = some (.mk 5 0 [n], [41, 63]) := by
    obtain ⟨j, hj⟩ : ∃ j, (40 :: (s ++ 41 :: [43, 41, 63])).length = j + 2 := ⟨s.length + 3, by simp⟩
    rw [rowsP, hj, rowsG, if_neg (by rw [e1]; decide), group_piece h hD]
    simp only [hs1]
    rw [rowsG, if_pos e2, if_neg (by simp)]
    rfl
  have hp : pieceP (rowsP (k + 3)) (40 :: 40 :: (s ++ 41 :: [43, 41, 63])) = some (.mk 6 0 [.mk 5 0 [n]], []) := by
    unfold pieceP atomP
    simp only
    rw [if_pos trivial, hin]
    rfl
  rw [rowsG, if_neg (by rw [e0]; decide), hp]
  simp only
  rw [rowsG, if_pos e3, if_neg (by simp)]
  rfl

/-! ### The texts that they take -/

theorem lng_alt (n : Nd) (w : By) : Lng (.mk 3 0 [n, n]) w ↔ Lng n w := by
  conv => lhs; unfold Lng
  simp [LngAlt]
theorem lng_star (n : Nd) (w : By) : Lng (.mk 4 0 [n]) w ↔ Lng (.mk 6 0 [.mk 5 0 [n]]) w := by
  have h4 : Lng (.mk 4 0 [n]) w ↔ StarL (LngOne [n]) w := by
    conv => lhs; unfold Lng
    simp
  have h5 : LngOne [.mk 5 0 [n]] w ↔ ∃ u v, w = u ++ v ∧ LngOne [n] u ∧ StarL (LngOne [n]) v := by
    conv => lhs; unfold LngOne Lng
    simp
  have h6 : Lng (.mk 6 0 [.mk 5 0 [n]]) w ↔ w = [] ∨ LngOne [.mk 5 0 [n]] w := by
    conv => lhs; unfold Lng
    simp
  rw [h4, h6, h5]
  constructor
  · intro h
    cases h with
    | nil => exact .inl rfl
    | cons h1 h2 => exact .inr ⟨_, _, rfl, h1, h2⟩
  · rintro (rfl | ⟨u, v, rfl, h1, h2⟩)
    · exact .nil
    · exact .cons h1 h2

/-- The table of rules. -/
def dmakeR (rules : List By) (d : Tab) : Prop := ∃ ss st, makeP rules = .inr (ss, st) ∧ dmakeP ss st = .inr d
theorem says_lng {rules : List By} {d : Tab} (h : dmakeR rules d) (w : By) : LeastI (fun r => ∃ s, rules[r]? = some s ∧ Lng (parseE s).1 w) (d.says 0 w) := by
  obtain ⟨ss, st, hm, hd⟩ := h
  obtain ⟨_, L, h1, h2, h3⟩ := dmakeP_lists hd
  have hM := makeP_made hm
  rw [h1.says0 h2 w]
  have k := accepts_least hM.good hM.stl w
  have e : (fun r => ∃ n, Acc ss (finR ss r) n st w) = fun r => ∃ s, rules[r]? = some s ∧ Lng (parseE s).1 w := by
    funext r; exact propext (hM.lng r w)
  rw [e] at k
  exact k
theorem same_min {s t : By} {a b : Tab} (ha : dmakeR [s] a) (hb : dmakeR [t] b) (ka : a.Ok ∧ 0 < a.next.length) (kb : b.Ok ∧ 0 < b.next.length) (h : ∀ w, Lng (parseE s).1 w ↔ Lng (parseE t).1 w) : minP a = minP b := by
  refine min_like ka.1 kb.1 ka.2 kb.2 fun w => (says_lng ha w).uniq (says_lng hb w) fun r => ?_
  constructor
  · rintro ⟨x, hx, hl⟩
    cases r with
    | zero => simp at hx; subst hx; exact ⟨t, rfl, (h w).1 hl⟩
    | succ r => simp at hx
  · rintro ⟨x, hx, hl⟩
    cases r with
    | zero => simp at hx; subst hx; exact ⟨s, rfl, (h w).2 hl⟩
    | succ r => simp at hx

end Go.Proofs.YtlegopbpofofgaaDoor

/- DfasSame: what it answers. -/
namespace Go.Proofs.YtlegopbpofofgaaDoor
open Go Go.Lw
set_option maxRecDepth 20000

theorem dmade_R {rules : List By} {d : Tab} (h : dmadeP rules = .inr d) : dmakeR rules d := by
  unfold dmadeP at h
  split at h
  · cases h
  · rename_i ss st hm; exact ⟨ss, st, hm, h⟩
theorem madeE_tab {rules : List By} (h : dmadeE rules = 0) : ∃ d, dmadeP rules = .inr d := by
  cases hd : dmadeP rules with
  | inl e => unfold dmadeE at h; rw [hd] at h; exact absurd h (dmadeP_ne hd)
  | inr d => exact ⟨d, rfl⟩
theorem parse_of_made {s : By} {d : Tab} (h : dmadeP [s] = .inr d) (hs : s.length ≤ 200) : ∃ n, parseP s = some n := by
  obtain ⟨ss, st, hm, _⟩ := dmade_R h
  cases hp : parseP s with
  | some n => exact ⟨n, rfl⟩
  | none =>
    have he : (parseE s).2 = 10 := by unfold parseE; rw [if_neg (by omega), hp]
    unfold makeP at hm
    rw [if_neg (by simp), makeG, if_pos (by rw [he]; decide)] at hm
    cases hm
theorem parseE_of {s : By} {n : Nd} (h : parseP s = some n) (hs : s.length ≤ 200) : (parseE s).1 = n := by unfold parseE; rw [if_neg (by omega), h]

/-- One rule's table. -/
theorem made1_calls {h : Heap} {lim : Nat} (hg : Sg h lim) (hlim : lim ≤ h.size) (htens : Tens h) {t : By} (ht : t.length ≤ 200) :
    CallsH Tryd.prog 28 #[.slice (some ⟨h.size, 0, none⟩) 1 1] (h.push (.cells #[.string (bs t)] 9)) (Ret fun r h' => (∃ p q, r = .tuple #[p, q, .int .i64 (dmadeE [t])] ∧ ∀ d, dmadeP [t] = .inr d → TabAt h' q d) ∧ Ext0 h h') :=
  (made12_calls (hg.ext (Ext.push (fun _ => False) h _) (fun _ k => k.elim)) (by simp; omega) (htens.ext0 (Ext.push (fun _ => False) h _)) (lits [t] 1 rfl (by decide)) (by intro s hs; simp at hs; subst hs; omega)).ret fun r h' k => by
    obtain ⟨⟨p, q, hr, k1⟩, k2⟩ := k
    refine ⟨⟨p, q, hr, fun d hd => ?_⟩, (Ext.push (fun _ => False) h _).trans k2⟩
    rw [hd] at k1
    obtain ⟨_, db, rfl, k3⟩ := k1
    exact .inr ⟨db, rfl, k3⟩

theorem dfasSame_calls {h : Heap} (hg : Sg h h.size) (htens : Tens h) {s : By} :
    CallsH Tryd.prog 13 #[.string (bs s)] h (Ret fun r h' => r = .bool true ∧ Ext0 h h') := by
  have hbs := bs_size s
  refine CallsH.of Tryd.func13 rfl rfl ?_
  refine G.seq rfl ?_
  refine G.reg Tryd.func13 rfl ?_
  refine RW.pureS rfl rfl rfl rfl (OpP.assign rfl) ?_
  refine RW.done rfl ?_
  refine G.sub (ρ' := [(0, _), (2, _)]) ⟨rfl, rfl, trivial⟩ ?_
  refine G.seq rfl ?_
  refine G.seq rfl ?_
  refine G.reg Tryd.func13 rfl ?_
  refine RW.pureS rfl rfl rfl rfl (OpP.move rfl) ?_
  refine RW.pureS rfl rfl rfl rfl (OpP.lenString Tryd.underlying9 rfl) ?_
  refine RW.pureS rfl rfl rfl rfl (OpP.gtr rfl rfl) ?_
  refine RW.done rfl ?_
  refine G.sub (ρ' := [(0, _), (2, _), (18, _)]) ⟨rfl, rfl, rfl, trivial⟩ ?_
  refine G.ite rfl rfl (fun hbig => ?_) (fun hbig => ?_)
  · refine G.seq rfl ?_
    refine G.reg Tryd.func13 rfl ?_
    refine RW.opS rfl rfl rfl rfl (OpX.call (vs := []) Tryd.func27 rfl H.nm27 rfl (CallsH.toX (tabled_calls hg (Nat.le_refl _) htens))) ?_
    rintro _ h1 ⟨rfl, e1⟩
    refine RW.pureS rfl rfl rfl rfl (OpP.assign rfl) ?_
    refine RW.done rfl ?_
    refine G.sub (ρ' := [(0, _), (2, _), (18, _)]) ⟨rfl, rfl, rfl, trivial⟩ ?_
    refine G.ret Tryd.func13 rfl rfl ?_
    exact ⟨_, rfl, rfl, e1⟩
  · have hs : s.length ≤ 20 := by omega
    have ex : ((⟨#[40]⟩ : ByteArray) ++ bs s) ++ ⟨#[41]⟩ = bs (40 :: (s ++ [41])) := by
      rw [show (⟨#[40]⟩ : ByteArray) = bs [40] from rfl, show (⟨#[41]⟩ : ByteArray) = bs [41] from rfl, bs_append, bs_append]; rfl
    generalize hx : 40 :: (s ++ [41]) = x at ex
    have hxl : x.length = s.length + 2 := by rw [← hx]; simp
    have hbx := bs_size x
    have e2 : (bs x ++ (⟨#[124]⟩ : ByteArray)) ++ bs x = bs (x ++ 124 :: x) := by
      rw [show (⟨#[124]⟩ : ByteArray) = bs [124] from rfl, bs_append, bs_append, List.append_assoc]; rfl
    have e3 : bs x ++ (⟨#[42]⟩ : ByteArray) = bs (x ++ [42]) := by
      rw [show (⟨#[42]⟩ : ByteArray) = bs [42] from rfl, bs_append]
    have e4 : ((⟨#[40]⟩ : ByteArray) ++ bs x) ++ ⟨#[43, 41, 63]⟩ = bs (40 :: (x ++ [43, 41, 63])) := by
      rw [show (⟨#[40]⟩ : ByteArray) = bs [40] from rfl, show (⟨#[43, 41, 63]⟩ : ByteArray) = bs [43, 41, 63] from rfl, bs_append, bs_append]; rfl
    have w1 : (⟨#[40]⟩ : ByteArray).size = 1 := rfl
    have w2 : (⟨#[41]⟩ : ByteArray).size = 1 := rfl
    have w3 : (⟨#[124]⟩ : ByteArray).size = 1 := rfl
    have w4 : (⟨#[42]⟩ : ByteArray).size = 1 := rfl
    have w5 : (⟨#[43, 41, 63]⟩ : ByteArray).size = 3 := rfl
    refine G.skip rfl ?_
    refine G.seq rfl ?_
    refine G.reg Tryd.func13 rfl ?_
    refine RW.pureS rfl rfl rfl rfl (OpP.move rfl) ?_
    refine RW.pureS rfl rfl rfl rfl (OpP.addStr rfl rfl (by omega)) ?_
    refine RW.pureS rfl rfl rfl rfl (OpP.addStr rfl rfl (by rw [ByteArray.size_append]; omega)) ?_
    rw [ex]
    refine RW.pureS rfl rfl rfl rfl (OpP.assign rfl) ?_
    refine RW.done rfl ?_
    refine G.sub (ρ' := [(0, _), (2, _), (3, _), (18, _)]) ⟨rfl, rfl, rfl, rfl, trivial⟩ ?_
    refine G.seq rfl ?_
    refine G.reg Tryd.func13 rfl ?_
    refine RW.pureS rfl rfl rfl rfl (OpP.move rfl) ?_
    refine RW.opS rfl rfl rfl rfl (OpX.buildOnes (us := [_]) Tryd.underlying22 H.el9 rfl rfl (by decide) (by simp [Value.oneCell'])) ?_
    rintro _ _ ⟨rfl, rfl⟩
    refine RW.opS rfl rfl rfl rfl (OpX.call (vs := [_]) Tryd.func28 rfl H.nm28 rfl (CallsH.toX (made1_calls hg (Nat.le_refl _) htens (t := s) (by omega)))) ?_
    rintro _ h1 ⟨⟨p1, q1, rfl, k1⟩, f1⟩
    have g1 := hg.ext f1 (fun _ k => k.elim)
    have z1 := f1.size
    have t1 := htens.ext0 f1
    refine RW.pureS rfl rfl rfl rfl (OpP.move rfl) ?_
    refine RW.pureS rfl rfl rfl rfl (OpP.extract rfl rfl) ?_
    refine RW.pureS rfl rfl rfl rfl (OpP.extract rfl rfl) ?_
    refine RW.pureS rfl rfl rfl rfl (OpP.extract rfl rfl) ?_
    refine RW.pureS rfl rfl rfl rfl (OpP.assign rfl) ?_
    refine RW.pureS rfl rfl rfl rfl (OpP.assign rfl) ?_
    refine RW.pureS rfl rfl rfl rfl (OpP.assign rfl) ?_
    refine RW.done rfl ?_
    refine G.sub (ρ' := [(0, _), (2, _), (3, _), (5, _), (6, _), (18, _)]) ⟨rfl, rfl, rfl, rfl, rfl, rfl, trivial⟩ ?_
    refine G.seq rfl ?_
    refine G.reg Tryd.func13 rfl ?_
    refine RW.pureS rfl rfl rfl rfl (OpP.move rfl) ?_
    refine RW.pureS rfl rfl rfl rfl (OpP.addStr rfl rfl (by omega)) ?_
    refine RW.pureS rfl rfl rfl rfl (OpP.move rfl) ?_
    refine RW.pureS rfl rfl rfl rfl (OpP.addStr rfl rfl (by rw [ByteArray.size_append]; omega)) ?_
    rw [e2]
    refine RW.opS rfl rfl rfl rfl (OpX.buildOnes (us := [_]) Tryd.underlying22 H.el9 rfl rfl (by decide) (by simp [Value.oneCell'])) ?_
    rintro _ _ ⟨rfl, rfl⟩
    refine RW.opS rfl rfl rfl rfl (OpX.call (vs := [_]) Tryd.func28 rfl H.nm28 rfl (CallsH.toX (made1_calls g1 z1 t1 (t := x ++ 124 :: x) (by simp; omega)))) ?_
    rintro _ h2 ⟨⟨p2, q2, rfl, k2⟩, f2⟩
    have f12 := f1.trans f2
    have g2 := hg.ext f12 (fun _ k => k.elim)
    have z2 := f12.size
    have t2 := htens.ext0 f12
    refine RW.pureS rfl rfl rfl rfl (OpP.move rfl) ?_
    refine RW.pureS rfl rfl rfl rfl (OpP.extract rfl rfl) ?_
    refine RW.pureS rfl rfl rfl rfl (OpP.extract rfl rfl) ?_
    refine RW.pureS rfl rfl rfl rfl (OpP.extract rfl rfl) ?_
    refine RW.pureS rfl rfl rfl rfl (OpP.assign rfl) ?_
    refine RW.pureS rfl rfl rfl rfl (OpP.assign rfl) ?_
    refine RW.pureS rfl rfl rfl rfl (OpP.assign rfl) ?_
    refine RW.done rfl ?_
    refine G.sub (ρ' := [(0, _), (2, _), (3, _), (5, _), (6, _), (8, _), (9, _), (18, _)]) ⟨rfl, rfl, rfl, rfl, rfl, rfl, rfl, rfl, trivial⟩ ?_
    refine G.seq rfl ?_
    refine G.reg Tryd.func13 rfl ?_
    refine RW.pureS rfl rfl rfl rfl (OpP.move rfl) ?_
    refine RW.pureS rfl rfl rfl rfl (OpP.addStr rfl rfl (by omega)) ?_
    rw [e3]
    refine RW.opS rfl rfl rfl rfl (OpX.buildOnes (us := [_]) Tryd.underlying22 H.el9 rfl rfl (by decide) (by simp [Value.oneCell'])) ?_
    rintro _ _ ⟨rfl, rfl⟩
    refine RW.opS rfl rfl rfl rfl (OpX.call (vs := [_]) Tryd.func28 rfl H.nm28 rfl (CallsH.toX (made1_calls g2 z2 t2 (t := x ++ [42]) (by simp; omega)))) ?_
    rintro _ h3 ⟨⟨p3, q3, rfl, k3⟩, f3⟩
    have f13 := f12.trans f3
    have g3 := hg.ext f13 (fun _ k => k.elim)
    have z3 := f13.size
    have t3 := htens.ext0 f13
    refine RW.pureS rfl rfl rfl rfl (OpP.move rfl) ?_
    refine RW.pureS rfl rfl rfl rfl (OpP.extract rfl rfl) ?_
    refine RW.pureS rfl rfl rfl rfl (OpP.extract rfl rfl) ?_
    refine RW.pureS rfl rfl rfl rfl (OpP.extract rfl rfl) ?_
    refine RW.pureS rfl rfl rfl rfl (OpP.assign rfl) ?_
    refine RW.pureS rfl rfl rfl rfl (OpP.assign rfl) ?_
    refine RW.pureS rfl rfl rfl rfl (OpP.assign rfl) ?_
    refine RW.done rfl ?_
    refine G.sub (ρ' := [(0, _), (2, _), (3, _), (5, _), (6, _), (8, _), (9, _), (11, _), (12, _), (18, _)]) ⟨rfl, rfl, rfl, rfl, rfl, rfl, rfl, rfl, rfl, rfl, trivial⟩ ?_
    refine G.seq rfl ?_
    refine G.reg Tryd.func13 rfl ?_
    refine RW.pureS rfl rfl rfl rfl (OpP.move rfl) ?_
    refine RW.pureS rfl rfl rfl rfl (OpP.addStr rfl rfl (by omega)) ?_
    refine RW.pureS rfl rfl rfl rfl (OpP.addStr rfl rfl (by rw [ByteArray.size_append]; omega)) ?_
    rw [e4]
    refine RW.opS rfl rfl rfl rfl (OpX.buildOnes (us := [_]) Tryd.underlying22 H.el9 rfl rfl (by decide) (by simp [Value.oneCell'])) ?_
    rintro _ _ ⟨rfl, rfl⟩
    refine RW.opS rfl rfl rfl rfl (OpX.call (vs := [_]) Tryd.func28 rfl H.nm28 rfl (CallsH.toX (made1_calls g3 z3 t3 (t := 40 :: (x ++ [43, 41, 63])) (by simp; omega)))) ?_
    rintro _ h4 ⟨⟨p4, q4, rfl, k4⟩, f4⟩
    have f14 := f13.trans f4
    have g4 := hg.ext f14 (fun _ k => k.elim)
    have z4 := f14.size
    have t4 := htens.ext0 f14
    generalize hE1 : dmadeE [s] = E1
    generalize hE2 : dmadeE [x ++ 124 :: x] = E2
    generalize hE3 : dmadeE [x ++ [42]] = E3
    generalize hE4 : dmadeE [40 :: (x ++ [43, 41, 63])] = E4
    refine RW.pureS rfl rfl rfl rfl (OpP.move rfl) ?_
    refine RW.pureS rfl rfl rfl rfl (OpP.extract rfl rfl) ?_
    refine RW.pureS rfl rfl rfl rfl (OpP.extract rfl rfl) ?_
    refine RW.pureS rfl rfl rfl rfl (OpP.extract rfl rfl) ?_
    refine RW.pureS rfl rfl rfl rfl (OpP.assign rfl) ?_
    refine RW.pureS rfl rfl rfl rfl (OpP.assign rfl) ?_
    refine RW.pureS rfl rfl rfl rfl (OpP.assign rfl) ?_
    refine RW.done rfl ?_
    refine G.sub (ρ' := [(0, _), (2, _), (3, _), (5, _), (6, _), (8, _), (9, _), (11, _), (12, _), (14, _), (15, _), (18, _)]) ⟨rfl, rfl, rfl, rfl, rfl, rfl, rfl, rfl, rfl, rfl, rfl, rfl, trivial⟩ ?_
    refine G.seq rfl ?_
    refine G.seq rfl ?_
    refine G.reg Tryd.func13 rfl ?_
    refine RW.pureS rfl rfl rfl rfl (OpP.move rfl) ?_
    refine RW.pureS rfl rfl rfl rfl (OpP.neqInt rfl rfl) ?_
    refine RW.done rfl ?_
    refine G.sub (ρ' := [(0, _), (2, _), (3, _), (5, _), (6, _), (8, _), (9, _), (11, _), (12, _), (14, _), (15, _), (18, _), (58, _)]) ⟨rfl, rfl, rfl, rfl, rfl, rfl, rfl, rfl, rfl, rfl, rfl, rfl, rfl, trivial⟩ ?_
    refine G.ite rfl rfl (fun herr => ?_) (fun herr => ?_)
    · refine G.seq rfl ?_
      refine G.reg Tryd.func13 rfl ?_
      refine RW.opS rfl rfl rfl rfl (OpX.call (vs := []) Tryd.func27 rfl H.nm27 rfl (CallsH.toX (tabled_calls g4 z4 t4))) ?_
      rintro _ h5 ⟨rfl, f5⟩
      refine RW.pureS rfl rfl rfl rfl (OpP.assign rfl) ?_
      refine RW.done rfl ?_
      refine G.sub (ρ' := [(0, _), (2, _), (3, _), (5, _), (6, _), (8, _), (9, _), (11, _), (12, _), (14, _), (15, _), (18, _), (58, _)]) ⟨rfl, rfl, rfl, rfl, rfl, rfl, rfl, rfl, rfl, rfl, rfl, rfl, rfl, trivial⟩ ?_
      refine G.ret Tryd.func13 rfl rfl ?_
      exact ⟨_, rfl, rfl, f14.trans f5⟩
    · refine G.skip rfl ?_
      refine G.seq rfl ?_
      refine G.seq rfl ?_
      refine G.regTo1 [(69, .bool (decide (E2 ≠ 0 ∨ E3 ≠ 0 ∨ E4 ≠ 0)))] [(0, _), (2, _), (3, _), (5, _), (6, _), (8, _), (9, _), (11, _), (12, _), (14, _), (15, _), (18, _), (58, _)] ⟨rfl, rfl, rfl, rfl, rfl, rfl, rfl, rfl, rfl, rfl, rfl, rfl, rfl, trivial⟩ Tryd.func13 rfl ?_ ?_
      · refine RW.pureS rfl rfl rfl rfl (OpP.move rfl) ?_
        refine RW.pureS rfl rfl rfl rfl (OpP.neqInt rfl rfl) ?_
        refine RW.pureS rfl rfl rfl rfl (OpP.move rfl) ?_
        refine RW.split (d := 62) rfl (fun c1 => ?_) (fun c1 => ?_)
        · have c1' := of_decide_eq_true c1
          refine RW.skipS rfl rfl rfl rfl ?_
          refine RW.skipS rfl rfl rfl rfl ?_
          refine RW.pureS rfl rfl rfl rfl (OpP.pickT rfl rfl) ?_
          refine RW.pureS rfl rfl rfl rfl (OpP.move rfl) ?_
          refine RW.skipS rfl rfl rfl rfl ?_
          refine RW.skipS rfl rfl rfl rfl ?_
          refine RW.pureS rfl rfl rfl rfl (OpP.pickT rfl rfl) ?_
          refine RW.done rfl ?_
          exact ⟨rfl, at_bool rfl (by simp [c1']), rfl, rfl, rfl, rfl, rfl, rfl, rfl, rfl, rfl, rfl, rfl, rfl, rfl, trivial⟩
        · have c1' := of_decide_eq_false c1
          refine RW.pureS rfl rfl rfl rfl (OpP.move rfl) ?_
          refine RW.pureS rfl rfl rfl rfl (OpP.neqInt rfl rfl) ?_
          refine RW.pureS rfl rfl rfl rfl (OpP.pickF rfl rfl) ?_
          refine RW.pureS rfl rfl rfl rfl (OpP.move rfl) ?_
          refine RW.split (d := 66) rfl (fun c2 => ?_) (fun c2 => ?_)
          · have c2' := of_decide_eq_true c2
            refine RW.skipS rfl rfl rfl rfl ?_
            refine RW.skipS rfl rfl rfl rfl ?_
            refine RW.pureS rfl rfl rfl rfl (OpP.pickT rfl rfl) ?_
            refine RW.done rfl ?_
            exact ⟨rfl, at_bool rfl (by simp [c2']), rfl, rfl, rfl, rfl, rfl, rfl, rfl, rfl, rfl, rfl, rfl, rfl, rfl, trivial⟩
          · have c2' := of_decide_eq_false c2
            refine RW.pureS rfl rfl rfl rfl (OpP.move rfl) ?_
            refine RW.pureS rfl rfl rfl rfl (OpP.neqInt rfl rfl) ?_
            refine RW.pureS rfl rfl rfl rfl (OpP.pickF rfl rfl) ?_
            refine RW.done rfl ?_
            exact ⟨rfl, at_bool rfl (by simp only [decide_eq_decide]; omega), rfl, rfl, rfl, rfl, rfl, rfl, rfl, rfl, rfl, rfl, rfl, rfl, rfl, trivial⟩
      · refine G.ite rfl rfl (fun hany => ?_) (fun hany => ?_)
        · refine G.seq rfl ?_
          refine G.regToX (fun (_u : Unit) (h' : Heap) => Ext0 h h') (fun (_u : Unit) => [(2, .bool true)]) [(0, _), (3, _), (5, _), (6, _), (8, _), (9, _), (11, _), (12, _), (14, _), (15, _), (18, _), (58, _), (69, _)] ⟨rfl, rfl, rfl, rfl, rfl, rfl, rfl, rfl, rfl, rfl, rfl, rfl, rfl, trivial⟩ Tryd.func13 rfl ?_ ?_
          · refine RW.pureS rfl rfl rfl rfl (OpP.move rfl) ?_
            refine RW.pureS rfl rfl rfl rfl (OpP.eqlInt rfl rfl) ?_
            refine RW.pureS rfl rfl rfl rfl (OpP.move rfl) ?_
            refine RW.split (d := 72) rfl (fun c1 => ?_) (fun c1 => ?_)
            · refine RW.skipS rfl rfl rfl rfl ?_
              refine RW.skipS rfl rfl rfl rfl ?_
              refine RW.pureS rfl rfl rfl rfl (OpP.pickT rfl rfl) ?_
              refine RW.pureS rfl rfl rfl rfl (OpP.move rfl) ?_
              refine RW.skipS rfl rfl rfl rfl ?_
              refine RW.skipS rfl rfl rfl rfl ?_
              refine RW.pureS rfl rfl rfl rfl (OpP.pickT rfl rfl) ?_
              refine RW.pureS rfl rfl rfl rfl (OpP.move rfl) ?_
              refine RW.skipS rfl rfl rfl rfl ?_
              refine RW.pureS rfl rfl rfl rfl (OpP.pickT rfl rfl) ?_
              refine RW.pureS rfl rfl rfl rfl (OpP.assign rfl) ?_
              refine RW.done rfl ?_
              exact ⟨(), f14, at_bool rfl (rfl), rfl, rfl, rfl, rfl, rfl, rfl, rfl, rfl, rfl, rfl, rfl, rfl, rfl, trivial⟩
            · refine RW.pureS rfl rfl rfl rfl (OpP.move rfl) ?_
              refine RW.pureS rfl rfl rfl rfl (OpP.eqlInt rfl rfl) ?_
              refine RW.pureS rfl rfl rfl rfl (OpP.pickF rfl rfl) ?_
              refine RW.pureS rfl rfl rfl rfl (OpP.move rfl) ?_
              refine RW.split (d := 76) rfl (fun c2 => ?_) (fun c2 => ?_)
              · refine RW.skipS rfl rfl rfl rfl ?_
                refine RW.skipS rfl rfl rfl rfl ?_
                refine RW.pureS rfl rfl rfl rfl (OpP.pickT rfl rfl) ?_
                refine RW.pureS rfl rfl rfl rfl (OpP.move rfl) ?_
                refine RW.skipS rfl rfl rfl rfl ?_
                refine RW.pureS rfl rfl rfl rfl (OpP.pickT rfl rfl) ?_
                refine RW.pureS rfl rfl rfl rfl (OpP.assign rfl) ?_
                refine RW.done rfl ?_
                exact ⟨(), f14, at_bool rfl (rfl), rfl, rfl, rfl, rfl, rfl, rfl, rfl, rfl, rfl, rfl, rfl, rfl, rfl, trivial⟩
              · refine RW.pureS rfl rfl rfl rfl (OpP.move rfl) ?_
                refine RW.pureS rfl rfl rfl rfl (OpP.eqlInt rfl rfl) ?_
                refine RW.pureS rfl rfl rfl rfl (OpP.pickF rfl rfl) ?_
                refine RW.pureS rfl rfl rfl rfl (OpP.move rfl) ?_
                refine RW.split (d := 80) rfl (fun c3 => ?_) (fun c3 => ?_)
                · refine RW.skipS rfl rfl rfl rfl ?_
                  refine RW.pureS rfl rfl rfl rfl (OpP.pickT rfl rfl) ?_
                  refine RW.pureS rfl rfl rfl rfl (OpP.assign rfl) ?_
                  refine RW.done rfl ?_
                  exact ⟨(), f14, at_bool rfl (rfl), rfl, rfl, rfl, rfl, rfl, rfl, rfl, rfl, rfl, rfl, rfl, rfl, rfl, trivial⟩
                · refine RW.opS rfl rfl rfl rfl (OpX.call (vs := []) Tryd.func27 rfl H.nm27 rfl (CallsH.toX (tabled_calls g4 z4 t4))) ?_
                  rintro _ h5 ⟨rfl, f5⟩
                  refine RW.pureS rfl rfl rfl rfl (OpP.pickF rfl rfl) ?_
                  refine RW.pureS rfl rfl rfl rfl (OpP.assign rfl) ?_
                  refine RW.done rfl ?_
                  exact ⟨(), f14.trans f5, at_bool rfl (rfl), rfl, rfl, rfl, rfl, rfl, rfl, rfl, rfl, rfl, rfl, rfl, rfl, rfl, trivial⟩
          · rintro _ h5 f5
            refine G.ret Tryd.func13 rfl rfl ?_
            exact ⟨_, rfl, rfl, f5⟩
        · have n1 : E1 = 0 := by omega
          have n2 : E2 = 0 := by omega
          have n3 : E3 = 0 := by omega
          have n4 : E4 = 0 := by omega
          obtain ⟨d1, hd1⟩ := madeE_tab (hE1.trans n1)
          obtain ⟨d2, hd2⟩ := madeE_tab (hE2.trans n2)
          obtain ⟨d3, hd3⟩ := madeE_tab (hE3.trans n3)
          obtain ⟨d4, hd4⟩ := madeE_tab (hE4.trans n4)
          have o1 := dmadeP_ok hd1
          have o2 := dmadeP_ok hd2
          have o3 := dmadeP_ok hd3
          have o4 := dmadeP_ok hd4
          obtain ⟨n, hn⟩ := parse_of_made hd1 (by omega)
          have pn := parseE_of hn (by omega)
          have pa : (parseE (x ++ 124 :: x)).1 = .mk 3 0 [n, n] := parseE_of (by have := parse_alt hn; rw [← hx]; simpa using this) (by simp; omega)
          have ps : (parseE (x ++ [42])).1 = .mk 4 0 [n] := parseE_of (by have := parse_star hn; rw [← hx]; simpa using this) (by simp; omega)
          have po : (parseE (40 :: (x ++ [43, 41, 63]))).1 = .mk 6 0 [.mk 5 0 [n]] := parseE_of (by have := parse_opt hn; rw [← hx]; simpa using this) (by simp; omega)
          have m12 : minP d1 = minP d2 := same_min (dmade_R hd1) (dmade_R hd2) o1 o2 fun w => by rw [pn, pa]; exact (lng_alt n w).symm
          have m34 : minP d3 = minP d4 := same_min (dmade_R hd3) (dmade_R hd4) o3 o4 fun w => by rw [ps, po]; exact lng_star n w
          have b1 := (((k1 d1 hd1).ext0 f2).ext0 f3).ext0 f4
          have b2 := ((k2 d2 hd2).ext0 f3).ext0 f4
          have b3 := (k3 d3 hd3).ext0 f4
          have b4 := k4 d4 hd4
          refine G.skip rfl ?_
          refine G.seq rfl ?_
          refine G.regToX (fun (_u : Unit) (h' : Heap) => Ext0 h h') (fun (_u : Unit) => [(2, .bool true)]) [(0, _), (3, _), (5, _), (6, _), (8, _), (9, _), (11, _), (12, _), (14, _), (15, _), (18, _), (58, _), (69, _)] ⟨rfl, rfl, rfl, rfl, rfl, rfl, rfl, rfl, rfl, rfl, rfl, rfl, rfl, trivial⟩ Tryd.func13 rfl ?_ ?_
          · refine RW.pureS rfl rfl rfl rfl (OpP.move rfl) ?_
            refine RW.opS rfl rfl rfl rfl (OpX.call (vs := [_]) Tryd.func29 rfl H.nm29 rfl (CallsH.toX (dmin_calls t4 b1 o1.1))) ?_
            rintro v1 h5 ⟨y1, f5⟩
            refine RW.pureS rfl rfl rfl rfl (OpP.move rfl) ?_
            refine RW.opS rfl rfl rfl rfl (OpX.call (vs := [_]) Tryd.func29 rfl H.nm29 rfl (CallsH.toX (dmin_calls (t4.ext0 f5) (b2.ext0 f5) o2.1))) ?_
            rintro v2 h6 ⟨y2, f6⟩
            rw [← m12] at y2
            have om1 := (minP_spec o1.1 o1.2).1
            refine RW.opS rfl rfl rfl rfl (OpX.call (vs := [_, _]) Tryd.func38 rfl H.nm38 rfl (CallsH.toX (alike_calls (y1.ext0 f6) y2 om1))) ?_
            rintro _ h7 ⟨rfl, hh7⟩
            subst hh7
            refine RW.pureS rfl rfl rfl rfl (OpP.move rfl) ?_
            refine RW.know (d := 88) (b' := true) rfl (rfl) ?_
            have f46 := f5.trans f6
            refine RW.pureS rfl rfl rfl rfl (OpP.move rfl) ?_
            refine RW.opS rfl rfl rfl rfl (OpX.call (vs := [_]) Tryd.func29 rfl H.nm29 rfl (CallsH.toX (dmin_calls (t4.ext0 f46) (b3.ext0 f46) o3.1))) ?_
            rintro v3 h8 ⟨y3, f8⟩
            refine RW.pureS rfl rfl rfl rfl (OpP.move rfl) ?_
            refine RW.opS rfl rfl rfl rfl (OpX.call (vs := [_]) Tryd.func29 rfl H.nm29 rfl (CallsH.toX (dmin_calls ((t4.ext0 f46).ext0 f8) ((b4.ext0 f46).ext0 f8) o4.1))) ?_
            rintro v4 h9 ⟨y4, f9⟩
            rw [← m34] at y4
            have om3 := (minP_spec o3.1 o3.2).1
            refine RW.opS rfl rfl rfl rfl (OpX.call (vs := [_, _]) Tryd.func38 rfl H.nm38 rfl (CallsH.toX (alike_calls (y3.ext0 f9) y4 om3))) ?_
            rintro _ h10 ⟨rfl, hh10⟩
            subst hh10
            refine RW.pureS rfl rfl rfl rfl (OpP.pickT rfl rfl) ?_
            refine RW.pureS rfl rfl rfl rfl (OpP.move rfl) ?_
            refine RW.know (d := 95) (b' := true) rfl (rfl) ?_
            have f410 := (f46.trans f8).trans f9
            have e0 := f14.trans f410
            refine RW.opS rfl rfl rfl rfl (OpX.call (vs := []) Tryd.func27 rfl H.nm27 rfl (CallsH.toX (tabled_calls (hg.ext e0 (fun _ k => k.elim)) e0.size (htens.ext0 e0)))) ?_
            rintro _ h11 ⟨rfl, e11⟩
            refine RW.pureS rfl rfl rfl rfl (OpP.pickT rfl rfl) ?_
            refine RW.pureS rfl rfl rfl rfl (OpP.assign rfl) ?_
            refine RW.done rfl ?_
            exact ⟨(), e0.trans e11, at_bool rfl (rfl), rfl, rfl, rfl, rfl, rfl, rfl, rfl, rfl, rfl, rfl, rfl, rfl, rfl, trivial⟩
          · rintro _ h5 f5
            refine G.ret Tryd.func13 rfl rfl ?_
            exact ⟨_, rfl, rfl, f5⟩

end Go.Proofs.YtlegopbpofofgaaDoor
