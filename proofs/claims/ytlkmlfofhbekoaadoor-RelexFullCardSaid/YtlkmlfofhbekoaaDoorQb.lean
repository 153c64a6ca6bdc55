/- Plain words, the logic of walks, and walks that the statement's proof leans on (part 2). -/
import Derived.Lib.ItoaLen
import Derived.Test.YtlkmlfofhbekoaaDoorQa

namespace Go.Proofs.YtlkmlfofhbekoaaDoor
open Go
def keyP (l : List Int) : By := l.flatMap fun n => Lib.itoa n ++ [32]
theorem dec_digit (u : Nat) : ∀ c ∈ Lib.decDigits u, 48 ≤ c.toNat ∧ c.toNat ≤ 57 := by
 induction u using Nat.strongRecOn with
 | _ u ih =>
  intro c hc
  rw [Lib.decDigits] at hc
  split at hc
  · rename_i h
    simp at hc; subst hc
    simp; omega
  · rename_i h
    rcases List.mem_append.1 hc with k | k
    · exact ih (u / 10) (by omega) c k
    · simp at k; subst k
      have : u % 10 < 10 := Nat.mod_lt _ (by decide)
      simp; omega
def dval (l : By) : Nat := l.foldl (fun a c => a * 10 + (c.toNat - 48)) 0
theorem dec_val (u : Nat) : dval (Lib.decDigits u) = u := by
 induction u using Nat.strongRecOn with
 | _ u ih =>
  rw [Lib.decDigits]
  split
  · rename_i h
    simp [dval]; omega
  · rename_i h
    have h1 := ih (u / 10) (by omega)
    unfold dval at h1 ⊢
    rw [List.foldl_append, h1]
    have : u % 10 < 10 := Nat.mod_lt _ (by decide)
    simp; omega
theorem itoa_chars (n : Int) : ∀ c ∈ Lib.itoa n, c ≠ 32 := by
 intro c hc e
 subst e
 unfold Lib.itoa at hc
 split at hc
 · rcases List.mem_cons.1 hc with k | k
   · cases k
   · have := (dec_digit _ _ k).1; simp at this
 · have := (dec_digit _ _ hc).1; simp at this
theorem itoa_inj {m n : Int} (h : Lib.itoa m = Lib.itoa n) : m = n := by
 have neg : ∀ a b : Nat, 45 :: Lib.decDigits a ≠ Lib.decDigits b := fun a b e => by
  have : (45 : UInt8) ∈ Lib.decDigits b := by rw [← e]; exact List.mem_cons_self
  have := (dec_digit _ _ this).1
  simp at this
 unfold Lib.itoa at h
 split at h <;> split at h
 · have h := congrArg dval (List.cons.inj h).2
   rw [dec_val, dec_val] at h; omega
 · exact absurd h (neg _ _)
 · exact absurd h.symm (neg _ _)
 · have h := congrArg dval h
   rw [dec_val, dec_val] at h; omega
theorem blank_split : ∀ (a b r s : By), (∀ c ∈ a, c ≠ 32) → (∀ c ∈ b, c ≠ 32) → a ++ 32 :: r = b ++ 32 :: s → a = b ∧ r = s
 | [], [], r, s, _, _, h => by simpa using h
 | [], d :: b, r, s, _, hb, h => by
  simp only [List.nil_append, List.cons_append, List.cons.injEq] at h
  exact absurd h.1.symm (hb d List.mem_cons_self)
 | c :: a, [], r, s, ha, _, h => by
  simp only [List.nil_append, List.cons_append, List.cons.injEq] at h
  exact absurd h.1 (ha c List.mem_cons_self)
 | c :: a, d :: b, r, s, ha, hb, h => by
  simp only [List.cons_append, List.cons.injEq] at h
  have := blank_split a b r s (fun x hx => ha x (List.mem_cons_of_mem _ hx)) (fun x hx => hb x (List.mem_cons_of_mem _ hx)) h.2
  exact ⟨by rw [h.1, this.1], this.2⟩
theorem key_inj : ∀ {l m : List Int}, keyP l = keyP m → l = m
 | [], [], _ => rfl
 | [], n :: m, h => by
  have := congrArg List.length h
  simp [keyP] at this
 | n :: l, [], h => by
  have := congrArg List.length h
  simp [keyP] at this
 | n :: l, k :: m, h => by
  have h' : Lib.itoa n ++ 32 :: keyP l = Lib.itoa k ++ 32 :: keyP m := by simpa [keyP] using h
  obtain ⟨h1, h2⟩ := blank_split _ _ _ _ (itoa_chars n) (itoa_chars k) h'
  rw [itoa_inj h1, key_inj h2]
theorem key_len : ∀ (l : List Int), (∀ n ∈ l, -9223372036854775808 ≤ n ∧ n ≤ 9223372036854775807) → (keyP l).length ≤ 22 * l.length
 | [], _ => by simp [keyP]
 | n :: l, h => by
  have h1 := key_len l (fun x hx => h x (List.mem_cons_of_mem _ hx))
  have hn := h n List.mem_cons_self
  have h2 := Lib.itoa_length_le n hn.1 hn.2
  have e : keyP (n :: l) = Lib.itoa n ++ [32] ++ keyP l := rfl
  have h3 : (keyP (n :: l)).length = (Lib.itoa n).length + 1 + (keyP l).length := by rw [e, List.length_append, List.length_append]; rfl
  rw [h3, List.length_cons]; omega
theorem key_snoc (l : List Int) (n : Int) : keyP (l ++ [n]) = keyP l ++ Lib.itoa n ++ [32] := by simp [keyP]
structure Row where
 v : List Int
 len : v.length = 256
structure Tab where
 next : List Row
 rule : List Int
def Tab.to (d : Tab) (s : Nat) (c : UInt8) : Int := match d.next[s]? with | some r => r.v.getD c.toNat (-1) | none => -1
def Tab.ru (d : Tab) (s : Nat) : Int := d.rule.getD s (-1)
structure Tab.Ok (d : Tab) : Prop where
 len : d.rule.length = d.next.length
 size : d.next.length ≤ 2000
 to : ∀ r ∈ d.next, ∀ x ∈ r.v, -1 ≤ x ∧ x < d.next.length
 ru : ∀ x ∈ d.rule, -1 ≤ x ∧ x ≤ 1000000
theorem Row.at {r : Row} (c : UInt8) : ∃ x, r.v[c.toNat]? = some x ∧ r.v.getD c.toNat (-1) = x ∧ x ∈ r.v := by
 have h := r.len
 have hc := c.toNat_lt
 have hx : r.v[c.toNat]? = some (r.v[c.toNat]'(by omega)) := List.getElem?_eq_getElem (by omega)
 exact ⟨_, hx, by rw [List.getD_eq_getElem?_getD, hx]; rfl, List.getElem_mem _⟩
theorem Tab.to_lt {d : Tab} (k : d.Ok) {s : Nat} (c : UInt8) : -1 ≤ d.to s c ∧ d.to s c < d.next.length := by
 unfold Tab.to
 cases h : d.next[s]? with
 | none => simp only; omega
 | some r =>
  obtain ⟨x, hx, he, hm⟩ := r.at c
  simp only
  rw [he]
  exact k.to r (List.mem_of_getElem? h) x hm
def dmatchG (d : Tab) : By → Nat → Nat → Int × Int → Int × Int × Int
 | [], st, k, b => if 0 ≤ d.ru st then (k, d.ru st, k) else (b.1, b.2, k)
 | c :: l, st, k, b =>
  if 0 ≤ d.to st c then dmatchG d l (d.to st c).toNat (k + 1) (if 0 ≤ d.ru st then (k, d.ru st) else b)
  else if 0 ≤ d.ru st then (k, d.ru st, k) else (b.1, b.2, k)
def dmatchA (d : Tab) (s : By) (a : Int) : Int × Int × Int := if d.next.length = 0 ∨ a < 0 ∨ (s.length : Int) < a then (0, -1, 0) else dmatchG d (s.drop a.toNat) 0 0 (0, -1)
def dstepA (d : Tab) (s : Int) (c : UInt8) : Int := if s < 0 ∨ (d.next.length : Int) ≤ s then -1 else d.to s.toNat c
def daccA (d : Tab) (s : Int) : Int := if s < 0 ∨ (d.next.length : Int) ≤ s then -1 else d.ru s.toNat
def keyN (l : List Nat) : By := keyP (l.map Int.ofNat)
theorem keyN_inj {l m : List Nat} (h : keyN l = keyN m) : l = m := by
 have := key_inj h
 have hi : ∀ a b : List Nat, a.map Int.ofNat = b.map Int.ofNat → a = b := by
  intro a
  induction a with
  | nil => intro b h; cases b with
   | nil => rfl
   | cons y b => simp at h
  | cons x a ih => intro b h; cases b with
   | nil => simp at h
   | cons y b =>
    simp only [List.map_cons, List.cons.injEq] at h
    rw [ih b h.2]
    have := h.1
    simp only [Int.ofNat_eq_natCast] at this
    rw [show x = y by omega]
 exact hi _ _ this
def findL : Nat → List (List Nat) → List Nat → Option Nat
 | _, [], _ => none
 | i, x :: r, l => if l = x then some i else findL (i + 1) r l
theorem findL_some : ∀ (ls : List (List Nat)) (i j : Nat) (l : List Nat), findL i ls l = some j → i ≤ j ∧ ls[j - i]? = some l
 | [], i, j, l, h => by cases h
 | x :: r, i, j, l, h => by
  rw [findL] at h
  split at h
  · rename_i e; cases h; subst e; exact ⟨Nat.le_refl _, by simp⟩
  · have := findL_some r (i + 1) j l h
    refine ⟨by omega, ?_⟩
    rw [show j - i = (j - (i + 1)) + 1 by omega, List.getElem?_cons_succ]
    exact this.2
theorem findL_none : ∀ (ls : List (List Nat)) (i : Nat) (l : List Nat), findL i ls l = none → l ∉ ls
 | [], i, l, _ => List.not_mem_nil
 | x :: r, i, l, h => by
  rw [findL] at h
  split at h
  · cases h
  · rename_i e
    have := findL_none r (i + 1) l h
    simp only [List.mem_cons, not_or]
    exact ⟨e, this⟩
def rowStep (ss : List Ste) (cur : List Nat) (lists : List (List Nat)) (b : Nat) : List (List Nat) × Int :=
 if (stepP ss (UInt8.ofNat b) cur).length = 0 then (lists, -1)
 else match findL 0 lists (stepP ss (UInt8.ofNat b) cur) with
  | some i => (lists, (i : Int))
  | none => (lists ++ [stepP ss (UInt8.ofNat b) cur], (lists.length : Int))
def rowG (ss : List Ste) (cur : List Nat) : Nat → Nat → List (List Nat) → List Int → List (List Nat) × List Int
 | 0, _, lists, row => (lists, row)
 | n + 1, b, lists, row => rowG ss cur n (b + 1) (rowStep ss cur lists b).1 (row ++ [(rowStep ss cur lists b).2])
def mkRow (l : List Int) : Row := ⟨(l ++ List.replicate 256 (-1)).take 256, by rw [List.length_take, List.length_append, List.length_replicate]; omega⟩
theorem mkRow_v {l : List Int} (h : l.length = 256) : (mkRow l).v = l := by
 unfold mkRow
 simp only
 rw [List.take_append_of_le_length (by omega), List.take_of_length_le (by omega)]
def dmakeG (ss : List Ste) : Nat → Nat → List (List Nat) → List Row → List Int → Option Tab
 | 0, _, _, _, _ => none
 | n + 1, k, lists, next, rule =>
  match lists[k]? with
  | none => some ⟨next, rule⟩
  | some cur =>
   if 2000 < (rowG ss cur 256 0 lists []).1.length then none
   else dmakeG ss n (k + 1) (rowG ss cur 256 0 lists []).1 (next ++ [mkRow (rowG ss cur 256 0 lists []).2]) (rule ++ [acceptsP ss cur])
def dmakeP (ss : List Ste) (st : Nat) : Int ⊕ Tab :=
 if (startP ss st).length = 0 then .inl 1
 else match dmakeG ss 2002 0 [startP ss st] [] [] with
  | none => .inl 70
  | some d => .inr d
def Tab.row (d : Tab) (k : Nat) : List Int := match d.next[k]? with | some r => r.v | none => []
def liveTo (out : List Bool) (t : Int) : Bool := decide (0 ≤ t) && out.getD t.toNat false
def liveAt (d : Tab) (out : List Bool) (k : Nat) : Bool := decide (0 ≤ d.ru k) || (d.row k).any (liveTo out)
def livePass (d : Tab) : Nat → Nat → List Bool → Bool → List Bool × Bool
 | 0, _, out, ag => (out, ag)
 | n + 1, k, out, ag => if out.getD k false = true then livePass d n (k + 1) out ag else livePass d n (k + 1) (out.set k (liveAt d out k)) (ag || liveAt d out k)
def falses (out : List Bool) : Nat := (out.filter fun b => !b).length
def liveG (d : Tab) : Nat → List Bool → List Bool
 | 0, out => out
 | n + 1, out => if (livePass d d.next.length 0 out false).2 = true then liveG d n (livePass d d.next.length 0 out false).1 else (livePass d d.next.length 0 out false).1
def liveP (d : Tab) : List Bool := liveG d (d.next.length + 1) (List.replicate d.next.length false)
theorem falses_set : ∀ (out : List Bool) (k : Nat) (b : Bool), out[k]? = some false → falses (out.set k b) + (if b then 1 else 0) = falses out
 | [], k, b, h => by simp at h
 | x :: r, 0, b, h => by simp at h; subst h; cases b <;> simp [falses]
 | x :: r, k + 1, b, h => by
  have := falses_set r k b (by simpa using h)
  unfold falses at this ⊢
  rw [List.set_cons_succ]
  cases x <;> simp at this ⊢ <;> omega
theorem livePass_len (d : Tab) : ∀ (n k : Nat) (out : List Bool) (ag : Bool), (livePass d n k out ag).1.length = out.length
 | 0, _, _, _ => rfl
 | n + 1, k, out, ag => by
  rw [livePass]
  split
  · exact livePass_len d n _ _ _
  · rw [livePass_len d n]; simp
theorem livePass_less (d : Tab) : ∀ (n k : Nat) (out : List Bool) (ag : Bool), k + n ≤ out.length → falses (livePass d n k out ag).1 ≤ falses out ∧ ((livePass d n k out ag).2 = true → ag = true ∨ falses (livePass d n k out ag).1 < falses out)
 | 0, _, out, ag, _ => ⟨Nat.le_refl _, fun h => .inl h⟩
 | n + 1, k, out, ag, hk => by
  rw [livePass]
  split
  · exact livePass_less d n (k + 1) out ag (by omega)
  · rename_i h
    have hf : out[k]? = some false := by
     rw [List.getD_eq_getElem?_getD, List.getElem?_eq_getElem (by omega)] at h
     rw [List.getElem?_eq_getElem (by omega)]
     simpa using h
    have h1 := falses_set out k (liveAt d out k) hf
    have h2 := livePass_less d n (k + 1) (out.set k (liveAt d out k)) (ag || liveAt d out k) (by simp; omega)
    refine ⟨by omega, fun ht => ?_⟩
    rcases h2.2 ht with h3 | h3
    · cases hb : liveAt d out k with
      | true => rw [hb, if_pos rfl] at h1; right; rw [hb] at h2; omega
      | false => rw [hb, Bool.or_false] at h3; exact .inl h3
    · right; omega
def findK : Nat → List (List Int) → List Int → Option Nat
 | _, [], _ => none
 | i, x :: r, l => if l = x then some i else findK (i + 1) r l
theorem findK_some : ∀ (ls : List (List Int)) (i j : Nat) (l : List Int), findK i ls l = some j → i ≤ j ∧ ls[j - i]? = some l
 | [], i, j, l, h => by cases h
 | x :: r, i, j, l, h => by
  rw [findK] at h
  split at h
  · rename_i e; cases h; subst e; exact ⟨Nat.le_refl _, by simp⟩
  · have := findK_some r (i + 1) j l h
    refine ⟨by omega, ?_⟩
    rw [show j - i = (j - (i + 1)) + 1 by omega, List.getElem?_cons_succ]
    exact this.2
def behindV (live : List Bool) (cls : List Int) (t : Int) : Int := if t < 0 ∨ live.getD t.toNat false = false then -2 else cls.getD t.toNat 0
def stKey (d : Tab) (live : List Bool) (cls : List Int) (k : Nat) : List Int := cls.getD k 0 :: (d.row k).map (behindV live cls)
def classPass (d : Tab) (live : List Bool) (cls : List Int) : Nat → Nat → List (List Int) → List Int → List (List Int) × List Int
 | 0, _, seen, after => (seen, after)
 | n + 1, k, seen, after =>
  match findK 0 seen (stKey d live cls k) with
  | some i => classPass d live cls n (k + 1) seen (after ++ [(i : Int)])
  | none => classPass d live cls n (k + 1) (seen ++ [stKey d live cls k]) (after ++ [(seen.length : Int)])
def classG (d : Tab) (live : List Bool) : Nat → Nat → List Int → List Int
 | 0, _, cls => cls
 | n + 1, many, cls =>
  if (classPass d live cls d.next.length 0 [] []).1.length = many then (classPass d live cls d.next.length 0 [] []).2
  else classG d live n (classPass d live cls d.next.length 0 [] []).1.length (classPass d live cls d.next.length 0 [] []).2
def classP (d : Tab) (live : List Bool) : List Int := classG d live (d.next.length + 1) 0 d.rule
def Covers (m : Nat) (l : List Int) : Prop := ∀ i, i < m → (i : Int) ∈ l
theorem covers_len : ∀ (m : Nat) (l : List Int), Covers m l → m ≤ l.length
 | 0, _, _ => Nat.zero_le _
 | m + 1, l, h => by
  have hm := h m (Nat.lt_succ_self m)
  have h1 : Covers m (l.erase (m : Int)) := fun i hi => (List.mem_erase_of_ne (by omega)).2 (h i (by omega))
  have h2 := covers_len m _ h1
  have h3 := List.length_erase_of_mem hm
  have h4 : 0 < l.length := List.length_pos_of_mem hm
  omega
structure PassOk (d : Tab) (live : List Bool) (cls : List Int) (k : Nat) (seen : List (List Int)) (after : List Int) : Prop where
 len : after.length = k
 size : seen.length ≤ k
 nums : Covers seen.length after
 bound : ∀ x ∈ after, 0 ≤ x ∧ x < seen.length
 all : ∀ j, j < k → stKey d live cls j ∈ seen
theorem classPass_ok {d : Tab} {live : List Bool} {cls : List Int} : ∀ (n k : Nat) (seen : List (List Int)) (after : List Int), PassOk d live cls k seen after → PassOk d live cls (k + n) (classPass d live cls n k seen after).1 (classPass d live cls n k seen after).2
 | 0, k, seen, after, h => h
 | n + 1, k, seen, after, h => by
  rw [classPass, show k + (n + 1) = (k + 1) + n by omega]
  split
  · rename_i i hi
    have hi' := findK_some seen 0 i _ hi
    have hil := (List.getElem?_eq_some_iff.1 hi'.2).1
    exact classPass_ok n (k + 1) _ _ ⟨by simp [h.len], by have := h.size; omega, fun j hj => List.mem_append_left _ (h.nums j hj), fun x hx => by
     rcases List.mem_append.1 hx with e | e
     · exact h.bound x e
     · have : x = (i : Int) := by simpa using e
       rw [this]; omega, fun j hj => by
     by_cases e : j = k
     · subst e; exact List.mem_of_getElem? hi'.2
     · exact h.all j (by omega)⟩
  · exact classPass_ok n (k + 1) _ _ ⟨by simp [h.len], by have := h.size; simp; omega, fun j hj => by
     simp only [List.length_append, List.length_singleton] at hj
     by_cases e : j = seen.length
     · subst e; simp
     · exact List.mem_append_left _ (h.nums j (by omega)), fun x hx => by
     simp only [List.length_append, List.length_singleton]
     rcases List.mem_append.1 hx with e | e
     · have := h.bound x e; omega
     · have : x = (seen.length : Int) := by simpa using e
       omega, fun j hj => by
     by_cases e : j = k
     · subst e; simp
     · exact List.mem_append_left _ (h.all j (by omega))⟩
theorem classPass_end (d : Tab) (live : List Bool) (cls : List Int) : PassOk d live cls d.next.length (classPass d live cls d.next.length 0 [] []).1 (classPass d live cls d.next.length 0 [] []).2 := by
 have := classPass_ok (d := d) (live := live) (cls := cls) d.next.length 0 [] [] ⟨rfl, Nat.le_refl _, fun i hi => absurd hi (Nat.not_lt_zero _), fun x hx => (by cases hx), fun j hj => absurd hj (Nat.not_lt_zero _)⟩
 rwa [Nat.zero_add] at this
theorem classPass_more {d : Tab} {live : List Bool} {cls : List Int} {many : Nat} (hc : Covers many cls) (hl : cls.length = d.next.length) : many ≤ (classPass d live cls d.next.length 0 [] []).1.length := by
 have h := classPass_end d live cls
 have : Covers many ((classPass d live cls d.next.length 0 [] []).1.map fun s => s.getD 0 0) := fun i hi => by
  obtain ⟨k, hk⟩ := List.getElem?_of_mem (hc i hi)
  have hkl := (List.getElem?_eq_some_iff.1 hk).1
  have := h.all k (by omega)
  refine List.mem_map.2 ⟨_, this, ?_⟩
  simp [stKey, List.getD_eq_getElem?_getD, hk]
 have := covers_len _ _ this
 simpa using this
def findC (cls : List Int) : Nat → List Nat → Int → Option Nat
 | _, [], _ => none
 | i, x :: r, c => if c = cls.getD x 0 then some i else findC cls (i + 1) r c
theorem findC_some {cls : List Int} : ∀ (of : List Nat) (i j : Nat) (c : Int), findC cls i of c = some j → i ≤ j ∧ ∃ x, of[j - i]? = some x ∧ c = cls.getD x 0
 | [], i, j, c, h => by cases h
 | x :: r, i, j, c, h => by
  rw [findC] at h
  split at h
  · rename_i e; cases h; exact ⟨Nat.le_refl _, x, by simp, e⟩
  · obtain ⟨h1, y, h2, h3⟩ := findC_some r (i + 1) j c h
    refine ⟨by omega, y, ?_, h3⟩
    rw [show j - i = (j - (i + 1)) + 1 by omega, List.getElem?_cons_succ]
    exact h2
theorem findC_none {cls : List Int} : ∀ (of : List Nat) (i : Nat) (c : Int), findC cls i of c = none → ∀ x ∈ of, c ≠ cls.getD x 0
 | [], i, c, h, x, hx => by cases hx
 | y :: r, i, c, h, x, hx => by
  rw [findC] at h
  split at h
  · cases h
  · rename_i hn
    rcases List.mem_cons.1 hx with e | e
    · subst e; exact hn
    · exact findC_none r (i + 1) c h x e
def minStep (live : List Bool) (cls : List Int) (of : List Nat) (t : Int) : List Nat × Int :=
 if t < 0 ∨ live.getD t.toNat false = false then (of, -1) else
  match findC cls 0 of (cls.getD t.toNat 0) with
  | some i => (of, (i : Int))
  | none => (of ++ [t.toNat], (of.length : Int))
def minRow (live : List Bool) (cls : List Int) : List Int → List Nat → List Int → List Nat × List Int
 | [], of, row => (of, row)
 | t :: r, of, row => minRow live cls r (minStep live cls of t).1 (row ++ [(minStep live cls of t).2])
def minG (d : Tab) (live : List Bool) (cls : List Int) : Nat → Nat → List Nat → List Row → List Int → Tab
 | 0, _, _, next, rule => ⟨next, rule⟩
 | n + 1, i, of, next, rule =>
  match of[i]? with
  | none => ⟨next, rule⟩
  | some k => minG d live cls n (i + 1) (minRow live cls (d.row k) of []).1 (next ++ [mkRow (minRow live cls (d.row k) of []).2]) (rule ++ [d.ru k])
def minP (d : Tab) : Tab := if d.next.length = 0 then ⟨[], []⟩ else minG d (liveP d) (classP d (liveP d)) (d.next.length + 1) 0 [0] [] []
structure OfOk (n : Nat) (of : List Nat) : Prop where
 once : of.Nodup
 lt : ∀ x ∈ of, x < n
theorem once_len : ∀ (n : Nat) (l : List Nat), l.Nodup → (∀ x ∈ l, x < n) → l.length ≤ n
 | 0, [], _, _ => Nat.le_refl _
 | 0, x :: l, _, h => absurd (h x (by simp)) (Nat.not_lt_zero _)
 | n + 1, l, hl, h => by
  have h1 := once_len n (l.erase n) (hl.erase n) (fun x hx => by
   have := (hl.mem_erase_iff).1 hx
   have := h x this.2
   omega)
  by_cases hn : n ∈ l
  · have := List.length_erase_of_mem hn; omega
  · rw [List.erase_of_not_mem hn] at h1; omega
theorem OfOk.len {n : Nat} {of : List Nat} (k : OfOk n of) : of.length ≤ n := once_len n of k.once k.lt
theorem minStep_ok {live : List Bool} {cls : List Int} {n : Nat} {of : List Nat} {t : Int} (k : OfOk n of) (ht : t < n) : OfOk n (minStep live cls of t).1 := by
 unfold minStep
 split
 · exact k
 · rename_i hn
   split
   · exact k
   · rename_i hf
     have hne := findC_none of 0 _ hf
     refine ⟨List.nodup_append.2 ⟨k.once, by simp, fun a ha b hb e => ?_⟩, fun x hx => ?_⟩
     · have : b = t.toNat := by simpa using hb
       subst e; subst this
       exact hne _ ha rfl
     · rcases List.mem_append.1 hx with e | e
       · exact k.lt x e
       · have : x = t.toNat := by simpa using e
         omega
theorem minStep_ge {live : List Bool} {cls : List Int} {of : List Nat} {t : Int} : of.length ≤ (minStep live cls of t).1.length ∧ ∀ (i x : Nat), of[i]? = some x → (minStep live cls of t).1[i]? = some x := by
 unfold minStep
 split
 · exact ⟨Nat.le_refl _, fun _ _ h => h⟩
 · split
   · exact ⟨Nat.le_refl _, fun _ _ h => h⟩
   · exact ⟨by simp, fun i x h => by rw [List.getElem?_append_left (List.getElem?_eq_some_iff.1 h).1]; exact h⟩
def Leads (L : List (List Nat)) (l : List Nat) (to : Int) : Prop := (l.length = 0 ∧ to = -1) ∨ (l.length ≠ 0 ∧ ∃ i : Nat, to = (i : Int) ∧ L[i]? = some l)
theorem Leads.mono {L L' : List (List Nat)} {l : List Nat} {to : Int} (k : Leads L l to) (h : L <+: L') : Leads L' l to := by
 rcases k with k | ⟨k, i, e, hi⟩
 · exact .inl k
 · obtain ⟨t, rfl⟩ := h
   exact .inr ⟨k, i, e, by rw [List.getElem?_append_left (List.getElem?_eq_some_iff.1 hi).1]; exact hi⟩
theorem rowStep_spec (ss : List Ste) (cur : List Nat) (lists : List (List Nat)) (b : Nat) (hn : lists.Nodup) :
 lists <+: (rowStep ss cur lists b).1 ∧ (rowStep ss cur lists b).1.Nodup ∧ Leads (rowStep ss cur lists b).1 (stepP ss (UInt8.ofNat b) cur) (rowStep ss cur lists b).2 := by
 unfold rowStep
 split
 · rename_i h; exact ⟨List.prefix_refl _, hn, .inl ⟨h, rfl⟩⟩
 · rename_i h
   split
   · rename_i i hi
     exact ⟨List.prefix_refl _, hn, .inr ⟨h, i, rfl, (findL_some lists 0 i _ hi).2⟩⟩
   · rename_i hi
     refine ⟨List.prefix_append _ _, List.nodup_append.2 ⟨hn, by simp, fun x hx y hy e => ?_⟩, .inr ⟨h, lists.length, rfl, by simp⟩⟩
     have : y = stepP ss (UInt8.ofNat b) cur := by simpa using hy
     exact findL_none lists 0 _ hi (by rw [← this, ← e]; exact hx)
theorem rowG_spec (ss : List Ste) (cur : List Nat) : ∀ (n b : Nat) (lists : List (List Nat)) (row : List Int), lists.Nodup →
 lists <+: (rowG ss cur n b lists row).1 ∧ (rowG ss cur n b lists row).1.Nodup ∧ ∃ ys, (rowG ss cur n b lists row).2 = row ++ ys ∧ ys.length = n ∧ ∀ (j : Nat) (y : Int), ys[j]? = some y → Leads (rowG ss cur n b lists row).1 (stepP ss (UInt8.ofNat (b + j)) cur) y
 | 0, b, lists, row, hn => ⟨List.prefix_refl _, hn, [], by simp [rowG], rfl, fun j y h => by simp at h⟩
 | n + 1, b, lists, row, hn => by
  obtain ⟨h1, h2, h3⟩ := rowStep_spec ss cur lists b hn
  obtain ⟨k1, k2, ys, k3, k4, k5⟩ := rowG_spec ss cur n (b + 1) (rowStep ss cur lists b).1 (row ++ [(rowStep ss cur lists b).2]) h2
  rw [rowG]
  refine ⟨h1.trans k1, k2, (rowStep ss cur lists b).2 :: ys, by rw [k3]; simp, by simp [k4], fun j y hy => ?_⟩
  cases j with
  | zero =>
   simp only [List.getElem?_cons_zero, Option.some.injEq] at hy
   subst hy
   exact h3.mono k1
  | succ j =>
   rw [List.getElem?_cons_succ] at hy
   have := k5 j y hy
   rwa [show b + (j + 1) = b + 1 + j by omega]
structure Lists (ss : List Ste) (st : Nat) (lists : List (List Nat)) (d : Tab) : Prop where
 first : lists[0]? = some (startP ss st)
 once : lists.Nodup
 size : lists.length ≤ 2000
 rlen : d.rule.length = d.next.length
 row : ∀ (k : Nat) (r : Row) (l : List Nat), d.next[k]? = some r → lists[k]? = some l → ∀ (b : Nat) (y : Int), r.v[b]? = some y → Leads lists (stepP ss (UInt8.ofNat b) l) y
 rule : ∀ (k : Nat) (x : Int) (l : List Nat), d.rule[k]? = some x → lists[k]? = some l → x = acceptsP ss l
theorem dmakeG_spec {ss : List Ste} {st : Nat} : ∀ (n k : Nat) (lists : List (List Nat)) (next : List Row) (rule : List Int) (d : Tab), Lists ss st lists ⟨next, rule⟩ → next.length = k → k ≤ lists.length → dmakeG ss n k lists next rule = some d → ∃ L, lists <+: L ∧ Lists ss st L d ∧ L.length = d.next.length
 | 0, k, lists, next, rule, d, h, hk, hkl, hd => by cases hd
 | n + 1, k, lists, next, rule, d, h, hk, hkl, hd => by
  rw [dmakeG] at hd
  split at hd
  · rename_i hn
    cases hd
    have := List.getElem?_eq_none_iff.1 hn
    exact ⟨lists, List.prefix_refl _, h, by show lists.length = next.length; omega⟩
  · rename_i cur hcur
    obtain ⟨h1, h2, ys, h3, h4, h5⟩ := rowG_spec ss cur 256 0 lists [] h.once
    split at hd
    · cases hd
    · rename_i hsz
      have hkl2 := (List.getElem?_eq_some_iff.1 hcur).1
      have hpre : ∀ (i : Nat) (l : List Nat), i < lists.length → (rowG ss cur 256 0 lists []).1[i]? = some l → lists[i]? = some l := fun i l hi hl => by
       obtain ⟨t, ht⟩ := h1
       rw [← ht, List.getElem?_append_left hi] at hl
       exact hl
      have hpre2 : ∀ (i : Nat) (l : List Nat), lists[i]? = some l → (rowG ss cur 256 0 lists []).1[i]? = some l := fun i l hl => by
       obtain ⟨t, ht⟩ := h1
       rw [← ht, List.getElem?_append_left (List.getElem?_eq_some_iff.1 hl).1]
       exact hl
      have hlen := h1.length_le
      have hrl : rule.length = next.length := h.rlen
      obtain ⟨L, g1, g2, g3⟩ := dmakeG_spec (st := st) n (k + 1) _ _ _ d ⟨hpre2 _ _ h.first, h2, by omega, by simp [hrl], fun i r l hr hl b y hy => by
       rcases Nat.lt_or_ge i next.length with hi | hi
       · rw [List.getElem?_append_left hi] at hr
         exact (h.row i r l hr (hpre i l (by omega) hl) b y hy).mono h1
       · have hik : i = next.length := by
          have := (List.getElem?_eq_some_iff.1 hr).1
          simp at this; omega
         subst hik
         simp only [List.getElem?_concat_length, Option.some.injEq] at hr
         subst hr
         have hlc := hpre _ l (by omega) hl
         rw [hk] at hlc
         rw [hcur] at hlc
         cases hlc
         rw [h3, List.nil_append, mkRow_v h4] at hy
         have := h5 b y hy
         rwa [Nat.zero_add] at this, fun i x l hx hl => by
       rcases Nat.lt_or_ge i rule.length with hi | hi
       · rw [List.getElem?_append_left hi] at hx
         exact h.rule i x l hx (hpre i l (by omega) hl)
       · have hik : i = rule.length := by
          have := (List.getElem?_eq_some_iff.1 hx).1
          simp at this; omega
         subst hik
         simp only [List.getElem?_concat_length, Option.some.injEq] at hx
         subst hx
         have hlc := hpre _ l (by omega) hl
         rw [hrl, hk, hcur] at hlc
         cases hlc
         rfl⟩ (by simp [hk]) (by omega) hd
      exact ⟨L, h1.trans g1, g2, g3⟩
theorem accG_bound {ss : List Ste} (hr : ∀ x ∈ ss, x.rule ≤ 1000000) : ∀ (l : List Nat) (b : Int), -1 ≤ b ∧ b ≤ 1000000 → -1 ≤ accG ss l b ∧ accG ss l b ≤ 1000000
 | [], b, h => h
 | j :: r, b, h => by
  rw [accG]
  refine accG_bound hr r _ ?_
  split
  · rename_i x hx
    split
    · have := hr x (List.mem_of_getElem? hx); omega
    · exact h
  · exact h
theorem acceptsP_bound {ss : List Ste} (hr : ∀ x ∈ ss, x.rule ≤ 1000000) (l : List Nat) : -1 ≤ acceptsP ss l ∧ acceptsP ss l ≤ 1000000 := by
 unfold acceptsP
 split
 · omega
 · exact accG_bound hr l (-1) (by omega)
theorem Lists.ok {ss : List Ste} {st : Nat} {L : List (List Nat)} {d : Tab} (k : Lists ss st L d) (hL : L.length = d.next.length) (hr : ∀ x ∈ ss, x.rule ≤ 1000000) : d.Ok := by
 refine ⟨k.rlen, by rw [← hL]; exact k.size, fun r hrm x hx => ?_, fun x hx => ?_⟩
 · obtain ⟨i, hi⟩ := List.getElem?_of_mem hrm
   obtain ⟨j, hj⟩ := List.getElem?_of_mem hx
   have hil := (List.getElem?_eq_some_iff.1 hi).1
   have hl : L[i]? = some (L[i]'(by omega)) := List.getElem?_eq_getElem _
   rcases k.row i r _ hi hl j x hj with ⟨_, rfl⟩ | ⟨_, i2, rfl, h2⟩
   · omega
   · have := (List.getElem?_eq_some_iff.1 h2).1; omega
 · obtain ⟨i, hi⟩ := List.getElem?_of_mem hx
   have hil := (List.getElem?_eq_some_iff.1 hi).1
   have hl : L[i]? = some (L[i]'(by rw [hL, ← k.rlen]; exact hil)) := List.getElem?_eq_getElem _
   rw [k.rule i x _ hi hl]
   exact acceptsP_bound hr _
theorem dmakeP_lists {ss : List Ste} {st : Nat} {d : Tab} (h : dmakeP ss st = .inr d) : (startP ss st).length ≠ 0 ∧ ∃ L, Lists ss st L d ∧ L.length = d.next.length ∧ 0 < L.length := by
 unfold dmakeP at h
 split at h
 · cases h
 · rename_i hs
   refine ⟨hs, ?_⟩
   split at h
   · cases h
   · rename_i d' hd
     cases h
     obtain ⟨L, h1, h2, h3⟩ := dmakeG_spec (st := st) 2002 0 [startP ss st] [] [] d ⟨rfl, by simp, by simp, rfl, fun k r l hr => by simp at hr, fun k x l hx => by simp at hx⟩ rfl (by simp) hd
     exact ⟨L, h2, h3, by have := (List.getElem?_eq_some_iff.1 h2.first).1; omega⟩
theorem dmakeP_ok {ss : List Ste} {st : Nat} {d : Tab} (h : dmakeP ss st = .inr d) (hr : ∀ x ∈ ss, x.rule ≤ 1000000) : d.Ok := by
 obtain ⟨_, L, h1, h2, _⟩ := dmakeP_lists h
 exact h1.ok h2 hr
def Tab.go (d : Tab) : By → Int → Int
 | [], s => s
 | c :: l, s => Tab.go d l (if s < 0 then -1 else d.to s.toNat c)
def Tab.says (d : Tab) (s : Int) (w : By) : Int := if d.go w s < 0 then -1 else d.ru (d.go w s).toNat
theorem go_neg (d : Tab) : ∀ (w : By) (s : Int), s < 0 → d.go w s < 0
 | [], s, h => h
 | c :: l, s, h => by
  rw [Tab.go, if_pos h]
  exact go_neg d l (-1) (by decide)
theorem says_neg (d : Tab) (w : By) {s : Int} (h : s < 0) : d.says s w = -1 := by rw [Tab.says, if_pos (go_neg d w s h)]
theorem says_nil (d : Tab) (k : Nat) : d.says (k : Int) [] = d.ru k := by
 rw [Tab.says, Tab.go, if_neg (by omega), Int.toNat_natCast]
theorem says_cons (d : Tab) (k : Nat) (c : UInt8) (w : By) : d.says (k : Int) (c :: w) = d.says (d.to k c) w := by
 have h : ¬ ((k : Int) < 0) := by omega
 rw [Tab.says, Tab.says, Tab.go, if_neg h, Int.toNat_natCast]
def Alive (d : Tab) (k : Nat) : Prop := ∃ w, 0 ≤ d.says (k : Int) w
def LiveSound (d : Tab) (out : List Bool) : Prop := ∀ k : Nat, out.getD k false = true → Alive d k
theorem row_to {d : Tab} {k : Nat} {t : Int} (h : t ∈ d.row k) : ∃ c : UInt8, d.to k c = t := by
 unfold Tab.row at h
 split at h
 · rename_i r hr
   obtain ⟨i, hi⟩ := List.getElem?_of_mem h
   have hl := (List.getElem?_eq_some_iff.1 hi).1
   rw [r.len] at hl
   refine ⟨UInt8.ofNat i, ?_⟩
   have hc : (UInt8.ofNat i).toNat = i := by simp; omega
   unfold Tab.to
   rw [hr]
   simp only
   rw [hc, List.getD_eq_getElem?_getD, hi]; rfl
 · cases h
theorem to_row {d : Tab} {k : Nat} (c : UInt8) (h : k < d.next.length) : d.to k c ∈ d.row k := by
 have hr : d.next[k]? = some (d.next[k]'h) := List.getElem?_eq_getElem _
 obtain ⟨x, hx, he, hm⟩ := (d.next[k]'h).at c
 unfold Tab.to Tab.row
 rw [hr]
 simp only
 rw [he]; exact hm
theorem liveAt_sound {d : Tab} {out : List Bool} (h : LiveSound d out) (k : Nat) (ha : liveAt d out k = true) : Alive d k := by
 unfold liveAt at ha
 rcases Bool.or_eq_true _ _ ▸ ha with e | e
 · exact ⟨[], by rw [says_nil]; exact of_decide_eq_true e⟩
 · obtain ⟨t, ht, hl⟩ := List.any_eq_true.1 e
   unfold liveTo at hl
   rw [Bool.and_eq_true] at hl
   have h0 := of_decide_eq_true hl.1
   obtain ⟨c, hc⟩ := row_to ht
   obtain ⟨w, hw⟩ := h t.toNat hl.2
   refine ⟨c :: w, ?_⟩
   rw [says_cons, hc]
   rwa [Int.toNat_of_nonneg h0] at hw
theorem set_sound {d : Tab} {out : List Bool} (h : LiveSound d out) (k : Nat) : LiveSound d (out.set k (liveAt d out k)) := by
 intro j hj
 by_cases e : k = j
 · subst e
   rw [List.getD_eq_getElem?_getD] at hj
   by_cases hk : k < out.length
   · rw [List.getElem?_set_self hk] at hj
     exact liveAt_sound h k hj
   · rw [List.getElem?_eq_none (by simp; omega)] at hj; cases hj
 · rw [List.getD_eq_getElem?_getD, List.getElem?_set_ne e, ← List.getD_eq_getElem?_getD] at hj
   exact h j hj
theorem livePass_sound {d : Tab} : ∀ (n k : Nat) (out : List Bool) (ag : Bool), LiveSound d out → LiveSound d (livePass d n k out ag).1
 | 0, _, _, _, h => h
 | n + 1, k, out, ag, h => by
  rw [livePass]
  split
  · exact livePass_sound n (k + 1) out ag h
  · exact livePass_sound n (k + 1) _ _ (set_sound h k)
theorem livePass_still {d : Tab} : ∀ (n k : Nat) (out : List Bool) (ag : Bool), k + n ≤ out.length → (livePass d n k out ag).2 = false → (livePass d n k out ag).1 = out ∧ ∀ j, k ≤ j → j < k + n → out.getD j false = false → liveAt d out j = false
 | 0, _, _, _, _, _ => ⟨rfl, fun j h1 h2 => by omega⟩
 | n + 1, k, out, ag, hk, h => by
  rw [livePass] at h ⊢
  split at h
  · rename_i hg
    rw [if_pos hg]
    obtain ⟨h1, h2⟩ := livePass_still n (k + 1) out ag (by omega) h
    exact ⟨h1, fun j hj1 hj2 hj3 => by
     by_cases e : j = k
     · subst e; rw [hg] at hj3; cases hj3
     · exact h2 j (by omega) (by omega) hj3⟩
  · rename_i hg
    rw [if_neg hg]
    have hf : out[k]? = some false := by
     rw [List.getD_eq_getElem?_getD, List.getElem?_eq_getElem (by omega)] at hg
     rw [List.getElem?_eq_getElem (by omega)]
     simpa using hg
    obtain ⟨h1, h2⟩ := livePass_still n (k + 1) _ _ (by simp; omega) h
    have hb : liveAt d out k = false := by
     cases hb : liveAt d out k with
     | false => rfl
     | true =>
      exfalso
      rw [hb, Bool.or_true] at h
      have hmono : ∀ (n k : Nat) (out : List Bool), (livePass d n k out true).2 = true := fun n => by
       induction n with
       | zero => intro k out; rfl
       | succ n ih => intro k out; rw [livePass]; split <;> simp [ih]
      rw [hmono] at h; cases h
    have hset : out.set k (liveAt d out k) = out := by
     rw [hb]
     apply List.ext_getElem?
     intro j
     by_cases e : k = j
     · subst e; rw [List.getElem?_set_self (by omega), hf]
     · rw [List.getElem?_set_ne e]
    rw [hset] at h1 h2
    rw [hset]
    exact ⟨h1, fun j hj1 hj2 hj3 => by
     by_cases e : j = k
     · subst e; exact hb
     · exact h2 j (by omega) (by omega) hj3⟩
def LiveClosed (d : Tab) (out : List Bool) : Prop := ∀ k, k < d.next.length → out.getD k false = false → liveAt d out k = false
theorem liveG_spec {d : Tab} : ∀ (n : Nat) (out : List Bool), out.length = d.next.length → falses out < n → LiveSound d out → LiveSound d (liveG d n out) ∧ LiveClosed d (liveG d n out)
 | 0, _, _, h, _ => absurd h (Nat.not_lt_zero _)
 | n + 1, out, hl, hf, hs => by
  have hless := livePass_less d d.next.length 0 out false (by omega)
  have hsp := livePass_sound d.next.length 0 out false hs
  rw [liveG]
  split
  · rename_i ht
    rcases hless.2 ht with e | e
    · cases e
    · exact liveG_spec n _ (by rw [livePass_len]; exact hl) (by omega) hsp
  · rename_i ht
    have hst := livePass_still d.next.length 0 out false (by omega) (by simpa using ht)
    rw [hst.1]
    exact ⟨hs, fun k hk hko => hst.2 k (Nat.zero_le _) (by omega) hko⟩
theorem closed_alive {d : Tab} {out : List Bool} (hok : d.Ok) (h : LiveClosed d out) : ∀ (w : By) (k : Nat), k < d.next.length → 0 ≤ d.says (k : Int) w → out.getD k false = true
 | [], k, hk, hw => by
  rw [says_nil] at hw
  cases ho : out.getD k false with
  | true => rfl
  | false =>
   have := h k hk ho
   unfold liveAt at this
   rw [decide_eq_true hw] at this
   cases this
 | c :: w, k, hk, hw => by
  rw [says_cons] at hw
  have ht := Tab.to_lt hok (s := k) c
  have h0 : 0 ≤ d.to k c := by
   by_cases e : d.to k c < 0
   · rw [says_neg d w e] at hw; omega
   · omega
  obtain ⟨t, htt⟩ := Int.eq_ofNat_of_zero_le h0
  rw [htt] at hw
  have ih := closed_alive hok h w t (by omega) hw
  cases ho : out.getD k false with
  | true => rfl
  | false =>
   have := h k hk ho
   unfold liveAt at this
   rw [Bool.or_eq_false_iff] at this
   have h2 := List.any_eq_false.1 this.2 _ (to_row c hk)
   unfold liveTo at h2
   rw [htt, Int.toNat_natCast, ih] at h2
   simp at h2
theorem liveP_spec {d : Tab} (hok : d.Ok) {k : Nat} (hk : k < d.next.length) : (liveP d).getD k false = true ↔ Alive d k := by
 have h := liveG_spec (d := d) (d.next.length + 1) (List.replicate d.next.length false) (by simp) (by
  have : falses (List.replicate d.next.length false) ≤ d.next.length := by unfold falses; exact Nat.le_trans (List.length_filter_le _ _) (by simp)
  omega) (fun k hk => by
   rw [List.getD_eq_getElem?_getD, List.getElem?_replicate] at hk
   split at hk <;> cases hk)
 exact ⟨h.1 k, fun ⟨w, hw⟩ => closed_alive hok h.2 w k hk hw⟩
structure PassKey (d : Tab) (live : List Bool) (cls : List Int) (k : Nat) (seen : List (List Int)) (after : List Int) : Prop where
 len : after.length = k
 once : seen.Nodup
 at_ : ∀ j, j < k → ∃ i : Nat, after[j]? = some (i : Int) ∧ seen[i]? = some (stKey d live cls j)
theorem findK_none : ∀ (ls : List (List Int)) (i : Nat) (l : List Int), findK i ls l = none → l ∉ ls
 | [], i, l, _ => List.not_mem_nil
 | x :: r, i, l, h => by
  rw [findK] at h
  split at h
  · cases h
  · rename_i e
    have := findK_none r (i + 1) l h
    simp only [List.mem_cons, not_or]
    exact ⟨e, this⟩
theorem classPass_key {d : Tab} {live : List Bool} {cls : List Int} : ∀ (n k : Nat) (seen : List (List Int)) (after : List Int), PassKey d live cls k seen after → PassKey d live cls (k + n) (classPass d live cls n k seen after).1 (classPass d live cls n k seen after).2
 | 0, k, seen, after, h => h
 | n + 1, k, seen, after, h => by
  rw [classPass, show k + (n + 1) = (k + 1) + n by omega]
  split
  · rename_i i hi
    have hi' := findK_some seen 0 i _ hi
    refine classPass_key n (k + 1) _ _ ⟨by simp [h.len], h.once, fun j hj => ?_⟩
    by_cases e : j = k
    · subst e
      refine ⟨i, ?_, hi'.2⟩
      rw [← h.len, List.getElem?_concat_length]
    · obtain ⟨i', h1, h2⟩ := h.at_ j (by omega)
      exact ⟨i', by rw [List.getElem?_append_left (by rw [h.len]; omega)]; exact h1, h2⟩
  · rename_i hi
    have hno := findK_none seen 0 _ hi
    refine classPass_key n (k + 1) _ _ ⟨by simp [h.len], List.nodup_append.2 ⟨h.once, by simp, fun a ha b hb e => ?_⟩, fun j hj => ?_⟩
    · have : b = stKey d live cls k := by simpa using hb
      rw [e, this] at ha
      exact hno ha
    · by_cases e : j = k
      · subst e
        refine ⟨seen.length, ?_, by rw [List.getElem?_concat_length]⟩
        rw [← h.len, List.getElem?_concat_length]
      · obtain ⟨i', h1, h2⟩ := h.at_ j (by omega)
        exact ⟨i', by rw [List.getElem?_append_left (by rw [h.len]; omega)]; exact h1, by rw [List.getElem?_append_left (List.getElem?_eq_some_iff.1 h2).1]; exact h2⟩
theorem classPass_iff {d : Tab} {live : List Bool} {cls : List Int} {s t : Nat} (hs : s < d.next.length) (ht : t < d.next.length) :
 (classPass d live cls d.next.length 0 [] []).2.getD s 0 = (classPass d live cls d.next.length 0 [] []).2.getD t 0 ↔ stKey d live cls s = stKey d live cls t := by
 have h := classPass_key (d := d) (live := live) (cls := cls) d.next.length 0 [] [] ⟨rfl, by simp, fun j hj => absurd hj (Nat.not_lt_zero _)⟩
 rw [Nat.zero_add] at h
 obtain ⟨i, h1, h2⟩ := h.at_ s hs
 obtain ⟨j, h3, h4⟩ := h.at_ t ht
 rw [List.getD_eq_getElem?_getD, List.getD_eq_getElem?_getD, h1, h3]
 constructor
 · intro e
   have : i = j := by
    have e' : (i : Int) = (j : Int) := e
    omega
   subst this
   rw [h2] at h4
   exact Option.some.inj h4
 · intro e
   rw [← e] at h4
   have hi := (List.getElem?_eq_some_iff.1 h2)
   have hj := (List.getElem?_eq_some_iff.1 h4)
   obtain ⟨hi1, hi2⟩ := hi
   obtain ⟨hj1, hj2⟩ := hj
   have : i = j := by
    rcases Nat.lt_trichotomy i j with e | e | e
    · exact absurd (hi2.trans hj2.symm) (List.pairwise_iff_getElem.1 h.once i j hi1 hj1 e)
    · exact e
    · exact absurd (hj2.trans hi2.symm) (List.pairwise_iff_getElem.1 h.once j i hj1 hi1 e)
   subst this; rfl
theorem covers_once : ∀ (m : Nat) (l : List Int), Covers m l → l.length = m → l.Nodup
 | 0, l, _, hl => by rw [List.length_eq_zero_iff.1 hl]; exact List.Pairwise.nil
 | m + 1, l, h, hl => by
  have hm := h m (Nat.lt_succ_self m)
  have h1 : Covers m (l.erase (m : Int)) := fun i hi => (List.mem_erase_of_ne (by omega)).2 (h i (by omega))
  have h3 := List.length_erase_of_mem hm
  have h2 := covers_once m _ h1 (by omega)
  have hno : (m : Int) ∉ l.erase (m : Int) := fun hin => by
   have h4 : Covers m ((l.erase (m : Int)).erase (m : Int)) := fun i hi => (List.mem_erase_of_ne (by omega)).2 (h1 i hi)
   have h5 := covers_len _ _ h4
   have h6 := List.length_erase_of_mem hin
   have h7 := List.length_pos_of_mem hin
   omega
  exact (List.perm_cons_erase hm).nodup_iff.2 (List.nodup_cons.2 ⟨hno, h2⟩)
theorem row_get {d : Tab} {s : Nat} (hs : s < d.next.length) (c : UInt8) : (d.row s)[c.toNat]? = some (d.to s c) := by
 have hr : d.next[s]? = some (d.next[s]'hs) := List.getElem?_eq_getElem _
 obtain ⟨x, hx, he, _⟩ := (d.next[s]'hs).at c
 unfold Tab.row Tab.to
 rw [hr]
 simp only
 rw [he]; exact hx
theorem row_len {d : Tab} {s : Nat} (hs : s < d.next.length) : (d.row s).length = 256 := by
 have hr : d.next[s]? = some (d.next[s]'hs) := List.getElem?_eq_getElem _
 unfold Tab.row
 rw [hr]
 exact (d.next[s]'hs).len
theorem row_map {d : Tab} {s t : Nat} (hs : s < d.next.length) (ht : t < d.next.length) (f : Int → Int) : (d.row s).map f = (d.row t).map f ↔ ∀ c : UInt8, f (d.to s c) = f (d.to t c) := by
 constructor
 · intro e c
   have := congrArg (fun l => l[c.toNat]?) e
   simp only [List.getElem?_map, row_get hs c, row_get ht c, Option.map_some, Option.some.injEq] at this
   exact this
 · intro h
   apply List.ext_getElem?
   intro i
   by_cases hi : i < 256
   · have hc : (UInt8.ofNat i).toNat = i := by simp; omega
     have h1 := row_get hs (UInt8.ofNat i)
     have h2 := row_get ht (UInt8.ofNat i)
     rw [hc] at h1 h2
     rw [List.getElem?_map, List.getElem?_map, h1, h2, Option.map_some, Option.map_some, h]
   · rw [List.getElem?_eq_none (by rw [List.length_map, row_len hs]; omega), List.getElem?_eq_none (by rw [List.length_map, row_len ht]; omega)]
def Alike (d : Tab) (a b : Int) : Prop := ∀ w, d.says a w = d.says b w
theorem says_ge {d : Tab} (hok : d.Ok) (a : Int) (w : By) : -1 ≤ d.says a w := by
 unfold Tab.says
 split
 · omega
 · unfold Tab.ru
   rw [List.getD_eq_getElem?_getD]
   cases h : d.rule[(d.go w a).toNat]? with
   | none => decide
   | some x => exact (hok.ru x (List.mem_of_getElem? h)).1
theorem dead_iff {d : Tab} (hok : d.Ok) {a : Int} (ha : a < d.next.length) : (a < 0 ∨ (liveP d).getD a.toNat false = false) ↔ ∀ w, d.says a w = -1 := by
 constructor
 · intro h w
   rcases h with h | h
   · exact says_neg d w h
   · by_cases hn : a < 0
     · exact says_neg d w hn
     · obtain ⟨k, rfl⟩ := Int.eq_ofNat_of_zero_le (show 0 ≤ a by omega)
       have hl := liveP_spec hok (k := k) (by omega)
       have hg := says_ge hok (k : Int) w
       by_cases hw : 0 ≤ d.says (k : Int) w
       · rw [Int.toNat_natCast, hl.2 ⟨w, hw⟩] at h; cases h
       · omega
 · intro h
   by_cases hn : a < 0
   · exact .inl hn
   · right
     obtain ⟨k, rfl⟩ := Int.eq_ofNat_of_zero_le (show 0 ≤ a by omega)
     have hl := liveP_spec hok (k := k) (by omega)
     rw [Int.toNat_natCast]
     cases hb : (liveP d).getD k false with
     | false => rfl
     | true =>
      obtain ⟨w, hw⟩ := hl.1 hb
      have := h w; omega
structure ClsOk (d : Tab) (cls : List Int) : Prop where
 len : cls.length = d.next.length
 ge : ∀ k, -1 ≤ cls.getD k 0
 alike : ∀ s t : Nat, s < d.next.length → t < d.next.length → Alike d s t → cls.getD s 0 = cls.getD t 0
 rule : ∀ s t : Nat, s < d.next.length → t < d.next.length → cls.getD s 0 = cls.getD t 0 → d.ru s = d.ru t
theorem behind_alike {d : Tab} (hok : d.Ok) {cls : List Int} (k : ClsOk d cls) {a b : Int} (ha : a < d.next.length) (hb : b < d.next.length) (h : Alike d a b) : behindV (liveP d) cls a = behindV (liveP d) cls b := by
 by_cases hd : a < 0 ∨ (liveP d).getD a.toNat false = false
 · have hd' : b < 0 ∨ (liveP d).getD b.toNat false = false := (dead_iff hok hb).2 fun w => by rw [← h w]; exact (dead_iff hok ha).1 hd w
   rw [behindV, if_pos hd, behindV, if_pos hd']
 · have hd' : ¬ (b < 0 ∨ (liveP d).getD b.toNat false = false) := fun e => hd ((dead_iff hok ha).2 fun w => by rw [h w]; exact (dead_iff hok hb).1 e w)
   rw [behindV, if_neg hd, behindV, if_neg hd']
   have ha0 : 0 ≤ a := by
    by_cases e : a < 0
    · exact absurd (.inl e) hd
    · omega
   have hb0 : 0 ≤ b := by
    by_cases e : b < 0
    · exact absurd (.inl e) hd'
    · omega
   exact k.alike a.toNat b.toNat (by omega) (by omega) (by rw [Int.toNat_of_nonneg ha0, Int.toNat_of_nonneg hb0]; exact h)
theorem key_alike {d : Tab} (hok : d.Ok) {cls : List Int} (k : ClsOk d cls) {s t : Nat} (hs : s < d.next.length) (ht : t < d.next.length) (h : Alike d s t) : stKey d (liveP d) cls s = stKey d (liveP d) cls t := by
 unfold stKey
 rw [k.alike s t hs ht h, (row_map hs ht _).2 fun c => behind_alike hok k (Tab.to_lt hok c).2 (Tab.to_lt hok c).2 fun w => by rw [← says_cons, ← says_cons]; exact h (c :: w)]
theorem key_head {d : Tab} {live : List Bool} {cls : List Int} {s t : Nat} (h : stKey d live cls s = stKey d live cls t) : cls.getD s 0 = cls.getD t 0 := by
 unfold stKey at h
 exact (List.cons.inj h).1
theorem pass_cls {d : Tab} (hok : d.Ok) {cls : List Int} (k : ClsOk d cls) : ClsOk d (classPass d (liveP d) cls d.next.length 0 [] []).2 := by
 have hend := classPass_end d (liveP d) cls
 refine ⟨hend.len, fun j => ?_, fun s t hs ht h => (classPass_iff hs ht).2 (key_alike hok k hs ht h), fun s t hs ht h => k.rule s t hs ht (key_head ((classPass_iff hs ht).1 h))⟩
 rw [List.getD_eq_getElem?_getD]
 cases hx : (classPass d (liveP d) cls d.next.length 0 [] []).2[j]? with
 | none => decide
 | some x => have := hend.bound x (List.mem_of_getElem? hx); show -1 ≤ x; omega
theorem ru_getD {d : Tab} (hok : d.Ok) {s : Nat} (hs : s < d.next.length) : d.rule.getD s 0 = d.ru s := by
 have hl := hok.len
 unfold Tab.ru
 rw [List.getD_eq_getElem?_getD, List.getD_eq_getElem?_getD, List.getElem?_eq_getElem (by omega)]; rfl
theorem rule_cls {d : Tab} (hok : d.Ok) : ClsOk d d.rule := by
 refine ⟨hok.len, fun k => ?_, fun s t hs ht h => ?_, fun s t hs ht h => ?_⟩
 · rw [List.getD_eq_getElem?_getD]
   cases hx : d.rule[k]? with
   | none => decide
   | some x => exact (hok.ru x (List.mem_of_getElem? hx)).1
 · rw [ru_getD hok hs, ru_getD hok ht]
   have := h []
   rwa [says_nil, says_nil] at this
 · rwa [ru_getD hok hs, ru_getD hok ht] at h
theorem stable_alike {d : Tab} (hok : d.Ok) {cls : List Int} (k : ClsOk d cls) (hst : ∀ s t, s < d.next.length → t < d.next.length → cls.getD s 0 = cls.getD t 0 → stKey d (liveP d) cls s = stKey d (liveP d) cls t) : ∀ (w : By) (s t : Nat), s < d.next.length → t < d.next.length → cls.getD s 0 = cls.getD t 0 → d.says (s : Int) w = d.says (t : Int) w
 | [], s, t, hs, ht, h => by rw [says_nil, says_nil]; exact k.rule s t hs ht h
 | c :: w, s, t, hs, ht, h => by
  rw [says_cons, says_cons]
  have hk := hst s t hs ht h
  unfold stKey at hk
  have hb := (row_map hs ht _).1 (List.cons.inj hk).2 c
  have ha := (Tab.to_lt hok (s := s) c).2
  have hb2 := (Tab.to_lt hok (s := t) c).2
  generalize d.to s c = a at *
  generalize d.to t c = b at *
  by_cases hd : a < 0 ∨ (liveP d).getD a.toNat false = false
  · have hd' : b < 0 ∨ (liveP d).getD b.toNat false = false := by
     by_cases e : b < 0 ∨ (liveP d).getD b.toNat false = false
     · exact e
     · rw [behindV, if_pos hd, behindV, if_neg e] at hb
       have := k.ge b.toNat
       omega
    rw [(dead_iff hok ha).1 hd w, (dead_iff hok hb2).1 hd' w]
  · by_cases hd' : b < 0 ∨ (liveP d).getD b.toNat false = false
    · rw [behindV, if_neg hd, behindV, if_pos hd'] at hb
      have := k.ge a.toNat
      omega
    · rw [behindV, if_neg hd, behindV, if_neg hd'] at hb
      have ha0 : 0 ≤ a := by
       by_cases e : a < 0
       · exact absurd (.inl e) hd
       · omega
      have hb0 : 0 ≤ b := by
       by_cases e : b < 0
       · exact absurd (.inl e) hd'
       · omega
      have ih := stable_alike hok k hst w a.toNat b.toNat (by omega) (by omega) hb
      rwa [Int.toNat_of_nonneg ha0, Int.toNat_of_nonneg hb0] at ih
theorem classG_spec {d : Tab} (hok : d.Ok) : ∀ (n many : Nat) (cls : List Int), ClsOk d cls → Covers many cls → many ≤ d.next.length → d.next.length + 1 ≤ n + many → ClsOk d (classG d (liveP d) n many cls) ∧ ∀ s t : Nat, s < d.next.length → t < d.next.length → (classG d (liveP d) n many cls).getD s 0 = (classG d (liveP d) n many cls).getD t 0 → Alike d s t
 | 0, many, cls, k, hc, hm, hf => by omega
 | n + 1, many, cls, k, hc, hm, hf => by
  have hend := classPass_end d (liveP d) cls
  have hmore := classPass_more (live := liveP d) hc k.len
  have hp := pass_cls hok k
  rw [classG]
  split
  · rename_i he
    refine ⟨hp, fun s t hs ht h w => ?_⟩
    have hkey := (classPass_iff hs ht).1 h
    refine stable_alike hok k (fun s t hs ht h => ?_) w s t hs ht (key_head hkey)
    have hcov : Covers many ((classPass d (liveP d) cls d.next.length 0 [] []).1.map fun s => s.getD 0 0) := fun i hi => by
     obtain ⟨k', hk'⟩ := List.getElem?_of_mem (hc i hi)
     have hkl := (List.getElem?_eq_some_iff.1 hk').1
     have := hend.all k' (by have := k.len; omega)
     refine List.mem_map.2 ⟨_, this, ?_⟩
     simp [stKey, List.getD_eq_getElem?_getD, hk']
    have hon := covers_once many _ hcov (by simpa using he)
    obtain ⟨i, hi⟩ := List.getElem?_of_mem (hend.all s hs)
    obtain ⟨j, hj⟩ := List.getElem?_of_mem (hend.all t ht)
    have h1 : ((classPass d (liveP d) cls d.next.length 0 [] []).1.map fun s => s.getD 0 0)[i]? = some (cls.getD s 0) := by rw [List.getElem?_map, hi]; rfl
    have h2 : ((classPass d (liveP d) cls d.next.length 0 [] []).1.map fun s => s.getD 0 0)[j]? = some (cls.getD s 0) := by rw [List.getElem?_map, hj, h]; rfl
    obtain ⟨hi1, hi2⟩ := List.getElem?_eq_some_iff.1 h1
    obtain ⟨hj1, hj2⟩ := List.getElem?_eq_some_iff.1 h2
    have hij : i = j := by
     rcases Nat.lt_trichotomy i j with e | e | e
     · exact absurd (hi2.trans hj2.symm) (List.pairwise_iff_getElem.1 hon i j hi1 hj1 e)
     · exact e
     · exact absurd (hj2.trans hi2.symm) (List.pairwise_iff_getElem.1 hon j i hj1 hi1 e)
    subst hij
    rw [hi] at hj
    exact Option.some.inj hj
  · rename_i hne
    have hsz := hend.size
    exact classG_spec hok n _ _ hp hend.nums hsz (by omega)
theorem classP_spec {d : Tab} (hok : d.Ok) {s t : Nat} (hs : s < d.next.length) (ht : t < d.next.length) : (classP d (liveP d)).getD s 0 = (classP d (liveP d)).getD t 0 ↔ Alike d s t := by
 have h := classG_spec hok (d.next.length + 1) 0 d.rule (rule_cls hok) (fun i hi => absurd hi (Nat.not_lt_zero _)) (Nat.zero_le _) (by omega)
 exact ⟨h.2 s t hs ht, h.1.alike s t hs ht⟩
def Like (d e : Tab) (a b : Int) : Prop := ∀ w, d.says a w = e.says b w
inductive LikeOf (d e : Tab) : List Nat → List Nat → Prop
 | nil : LikeOf d e [] []
 | cons {x y : Nat} {o p : List Nat} : x < d.next.length → y < e.next.length → Like d e x y → LikeOf d e o p → LikeOf d e (x :: o) (y :: p)
theorem minStep_pre {live : List Bool} {cls : List Int} {of : List Nat} {t : Int} : of <+: (minStep live cls of t).1 := by
 unfold minStep
 split
 · exact List.prefix_refl _
 · split
   · exact List.prefix_refl _
   · exact List.prefix_append _ _
theorem minRow_pre {live : List Bool} {cls : List Int} : ∀ (r : List Int) (of : List Nat) (row : List Int), of <+: (minRow live cls r of row).1
 | [], of, row => List.prefix_refl _
 | t :: r, of, row => by
  rw [minRow]
  exact minStep_pre.trans (minRow_pre r _ _)
theorem row_lt {d : Tab} (hd : d.Ok) (k : Nat) : ∀ t ∈ d.row k, t < (d.next.length : Int) := fun t ht => by
 obtain ⟨c, rfl⟩ := row_to ht
 exact (Tab.to_lt hd c).2
def Stands (d : Tab) (of : List Nat) (t y : Int) : Prop := ((∀ w, d.says t w = -1) ∧ y = -1) ∨ ((∃ w, 0 ≤ d.says t w) ∧ ∃ (i x : Nat), y = (i : Int) ∧ of[i]? = some x ∧ Alike d t x)
theorem Stands.mono {d : Tab} {of of' : List Nat} {t y : Int} (k : Stands d of t y) (h : of <+: of') : Stands d of' t y := by
 rcases k with k | ⟨k, i, x, e, hi, ha⟩
 · exact .inl k
 · obtain ⟨l, rfl⟩ := h
   exact .inr ⟨k, i, x, e, by rw [List.getElem?_append_left (List.getElem?_eq_some_iff.1 hi).1]; exact hi, ha⟩
def Apart (d : Tab) (of : List Nat) : Prop := ∀ (i j x y : Nat), of[i]? = some x → of[j]? = some y → Alike d x y → i = j
structure Rep (d : Tab) (of : List Nat) : Prop where
 ok : OfOk d.next.length of
 apart : Apart d of
theorem minStep_rep {d : Tab} (hd : d.Ok) {of : List Nat} {t : Int} (k : Rep d of) (ht : t < d.next.length) :
 Rep d (minStep (liveP d) (classP d (liveP d)) of t).1 ∧ Stands d (minStep (liveP d) (classP d (liveP d)) of t).1 t (minStep (liveP d) (classP d (liveP d)) of t).2 := by
 have hdead := dead_iff hd ht
 have hok := minStep_ok (live := liveP d) (cls := classP d (liveP d)) k.ok ht
 revert hok
 unfold minStep
 split
 · rename_i h
   exact fun _ => ⟨k, .inl ⟨hdead.1 h, rfl⟩⟩
 · rename_i h
   have halive : ∃ w, 0 ≤ d.says t w := by
    by_cases q : ∃ w, 0 ≤ d.says t w
    · exact q
    · refine absurd (hdead.2 fun w => ?_) h
      have h1 := says_ge hd t w
      have h2 : ¬ 0 ≤ d.says t w := fun z => q ⟨w, z⟩
      omega
   obtain ⟨n, rfl⟩ := Int.eq_ofNat_of_zero_le (show 0 ≤ t by omega)
   simp only [Int.toNat_natCast]
   split
   · rename_i i hi
     intro _
     obtain ⟨_, x, hx, he⟩ := findC_some of 0 i _ hi
     have hxl := k.ok.lt x (List.mem_of_getElem? hx)
     exact ⟨k, .inr ⟨halive, i, x, rfl, by simpa using hx, (classP_spec hd (by omega) hxl).1 he⟩⟩
   · rename_i hi
     intro hok
     have hne := findC_none of 0 _ hi
     refine ⟨⟨hok, fun i j x y hx hy ha => ?_⟩, .inr ⟨halive, of.length, n, rfl, by simp, fun w => rfl⟩⟩
     have hcase : ∀ (i x : Nat), (of ++ [n])[i]? = some x → (i < of.length ∧ of[i]? = some x) ∨ (i = of.length ∧ x = n) := fun i x hx => by
      rcases Nat.lt_or_ge i of.length with hl | hl
      · rw [List.getElem?_append_left hl] at hx; exact .inl ⟨hl, hx⟩
      · have := (List.getElem?_eq_some_iff.1 hx).1
        simp at this
        have hil : i = of.length := by omega
        subst hil
        simp only [List.getElem?_concat_length, Option.some.injEq] at hx
        exact .inr ⟨rfl, hx.symm⟩
     rcases hcase i x hx with ⟨h1, h2⟩ | ⟨h1, h2⟩ <;> rcases hcase j y hy with ⟨h3, h4⟩ | ⟨h3, h4⟩
     · exact k.apart i j x y h2 h4 ha
     · subst h4
       have hxm := List.mem_of_getElem? h2
       exact absurd ((classP_spec hd (by omega) (k.ok.lt x hxm)).2 fun w => (ha w).symm) (hne x hxm)
     · subst h2
       have hym := List.mem_of_getElem? h4
       exact absurd ((classP_spec hd (by omega) (k.ok.lt y hym)).2 ha) (hne y hym)
     · omega
theorem minRow_rep {d : Tab} (hd : d.Ok) : ∀ (r : List Int) (of : List Nat) (row : List Int), Rep d of → (∀ t ∈ r, t < (d.next.length : Int)) →
 Rep d (minRow (liveP d) (classP d (liveP d)) r of row).1 ∧ ∃ ys, (minRow (liveP d) (classP d (liveP d)) r of row).2 = row ++ ys ∧ ys.length = r.length ∧ ∀ (j : Nat) (t y : Int), r[j]? = some t → ys[j]? = some y → Stands d (minRow (liveP d) (classP d (liveP d)) r of row).1 t y
 | [], of, row, k, _ => ⟨k, [], by simp [minRow], rfl, fun j t y h => by simp at h⟩
 | t :: r, of, row, k, h => by
  obtain ⟨h1, h2⟩ := minStep_rep hd k (h t (by simp))
  obtain ⟨k1, ys, k3, k4, k5⟩ := minRow_rep hd r (minStep (liveP d) (classP d (liveP d)) of t).1 (row ++ [(minStep (liveP d) (classP d (liveP d)) of t).2]) h1 (fun u hu => h u (by simp [hu]))
  rw [minRow]
  refine ⟨k1, (minStep (liveP d) (classP d (liveP d)) of t).2 :: ys, by rw [k3]; simp, by simp [k4], fun j u y hu hy => ?_⟩
  cases j with
  | zero =>
   simp only [List.getElem?_cons_zero, Option.some.injEq] at hu hy
   subst hu; subst hy
   exact h2.mono (minRow_pre _ _ _)
  | succ j => exact k5 j u y (by simpa using hu) (by simpa using hy)
structure Reps (d : Tab) (of : List Nat) (m : Tab) : Prop where
 rep : Rep d of
 first : of[0]? = some 0
 rlen : m.rule.length = m.next.length
 row : ∀ (k : Nat) (r : Row) (x : Nat), m.next[k]? = some r → of[k]? = some x → ∀ (c : UInt8) (y : Int), r.v[c.toNat]? = some y → Stands d of (d.to x c) y
 rule : ∀ (k : Nat) (y : Int) (x : Nat), m.rule[k]? = some y → of[k]? = some x → y = d.ru x
theorem minG_rep {d : Tab} (hd : d.Ok) : ∀ (n i : Nat) (of : List Nat) (next : List Row) (rule : List Int), Reps d of ⟨next, rule⟩ → next.length = i → i ≤ of.length → n + i = d.next.length + 1 →
 ∃ of', Reps d of' (minG d (liveP d) (classP d (liveP d)) n i of next rule) ∧ of'.length = (minG d (liveP d) (classP d (liveP d)) n i of next rule).next.length
 | 0, i, of, next, rule, h, hi, hio, hn => by have := h.rep.ok.len; omega
 | n + 1, i, of, next, rule, h, hi, hio, hn => by
  rw [minG]
  split
  · rename_i hnone
    have := List.getElem?_eq_none_iff.1 hnone
    exact ⟨of, h, by show of.length = next.length; omega⟩
  · rename_i x hx
    have hxl := h.rep.ok.lt x (List.mem_of_getElem? hx)
    obtain ⟨k1, ys, k3, k4, k5⟩ := minRow_rep hd (d.row x) of [] h.rep (row_lt hd x)
    have hpre := minRow_pre (live := liveP d) (cls := classP d (liveP d)) (d.row x) of []
    rw [row_len hxl] at k4
    have hol := (List.getElem?_eq_some_iff.1 hx).1
    generalize minRow (liveP d) (classP d (liveP d)) (d.row x) of [] = q at *
    have hb : ∀ (j y : Nat), j < of.length → q.1[j]? = some y → of[j]? = some y := fun j y hj hy => by
     obtain ⟨t, ht⟩ := hpre
     rw [← ht, List.getElem?_append_left hj] at hy
     exact hy
    have hf : ∀ (j y : Nat), of[j]? = some y → q.1[j]? = some y := fun j y hy => by
     obtain ⟨t, ht⟩ := hpre
     rw [← ht, List.getElem?_append_left (List.getElem?_eq_some_iff.1 hy).1]
     exact hy
    have hrl : rule.length = next.length := h.rlen
    have hlen := hpre.length_le
    refine minG_rep hd n (i + 1) _ _ _ ⟨k1, hf _ _ h.first, by simp [hrl], fun k r z hr hz c y hy => ?_, fun k y z hy hz => ?_⟩ (by simp [hi]) (by omega) (by omega)
    · rcases Nat.lt_or_ge k next.length with hk | hk
      · rw [List.getElem?_append_left hk] at hr
        exact (h.row k r z hr (hb k z (by omega) hz) c y hy).mono hpre
      · have hkn : k = next.length := by
         have := (List.getElem?_eq_some_iff.1 hr).1
         simp at this; omega
        subst hkn
        simp only [List.getElem?_concat_length, Option.some.injEq] at hr
        subst hr
        have hzx := hb _ z (by omega) hz
        rw [hi, hx] at hzx
        cases hzx
        rw [k3, List.nil_append, mkRow_v k4] at hy
        exact k5 c.toNat _ y (row_get hxl c) hy
    · rcases Nat.lt_or_ge k rule.length with hk | hk
      · rw [List.getElem?_append_left hk] at hy
        exact h.rule k y z hy (hb k z (by omega) hz)
      · have hkn : k = rule.length := by
         have := (List.getElem?_eq_some_iff.1 hy).1
         simp at this; omega
        subst hkn
        simp only [List.getElem?_concat_length, Option.some.injEq] at hy
        subst hy
        have hzx := hb _ z (by omega) hz
        rw [hrl, hi, hx] at hzx
        cases hzx
        rfl
theorem minP_reps {d : Tab} (hd : d.Ok) (hn : 0 < d.next.length) : ∃ of, Reps d of (minP d) ∧ of.length = (minP d).next.length := by
 unfold minP
 rw [if_neg (by omega)]
 refine minG_rep hd _ 0 [0] [] [] ⟨⟨⟨by simp, fun x hx => by simp at hx; omega⟩, fun i j x y hx hy _ => ?_⟩, rfl, rfl, fun k r x hr => by simp at hr, fun k y x hy => by simp at hy⟩ rfl (by simp) (by omega)
 have h1 := (List.getElem?_eq_some_iff.1 hx).1
 have h2 := (List.getElem?_eq_some_iff.1 hy).1
 simp at h1 h2; omega
theorem Reps.to {d m : Tab} {of : List Nat} (k : Reps d of m) (hl : of.length = m.next.length) {s x : Nat} (hx : of[s]? = some x) (c : UInt8) : Stands d of (d.to x c) (m.to s c) := by
 have hs := (List.getElem?_eq_some_iff.1 hx).1
 have hr : m.next[s]? = some (m.next[s]'(by omega)) := List.getElem?_eq_getElem _
 obtain ⟨y, hy, he, _⟩ := (m.next[s]'(by omega)).at c
 unfold Tab.to
 rw [hr]
 simp only
 rw [he]
 exact k.row s _ x hr hx c y hy
theorem Reps.ru {d m : Tab} {of : List Nat} (k : Reps d of m) (hl : of.length = m.next.length) {s x : Nat} (hx : of[s]? = some x) : m.ru s = d.ru x := by
 have hs := (List.getElem?_eq_some_iff.1 hx).1
 have hlt : s < m.rule.length := by rw [k.rlen]; omega
 have hr : m.rule[s]? = some (m.rule[s]'hlt) := List.getElem?_eq_getElem _
 have := k.rule s _ x hr hx
 unfold Tab.ru at this ⊢
 rw [List.getD_eq_getElem?_getD, hr]
 exact this
theorem Reps.says {d m : Tab} {of : List Nat} (k : Reps d of m) (hl : of.length = m.next.length) : ∀ (w : By) (s x : Nat), of[s]? = some x → m.says (s : Int) w = d.says (x : Int) w
 | [], s, x, hx => by rw [says_nil, says_nil, k.ru hl hx]
 | c :: w, s, x, hx => by
  rw [says_cons, says_cons]
  rcases k.to hl hx c with ⟨h1, h2⟩ | ⟨_, i, y, h2, h3, h4⟩
  · rw [h2, says_neg m w (by decide), h1]
  · rw [h2, k.says hl w i y h3, h4]
theorem Reps.mok {d m : Tab} {of : List Nat} (hd : d.Ok) (k : Reps d of m) (hl : of.length = m.next.length) : m.Ok := by
 refine ⟨k.rlen, by have := k.rep.ok.len; have := hd.size; omega, fun r hr x hx => ?_, fun x hx => ?_⟩
 · obtain ⟨i, hi⟩ := List.getElem?_of_mem hr
   obtain ⟨j, hj⟩ := List.getElem?_of_mem hx
   have hil := (List.getElem?_eq_some_iff.1 hi).1
   have hjl := (List.getElem?_eq_some_iff.1 hj).1
   rw [r.len] at hjl
   have hc : (UInt8.ofNat j).toNat = j := by simp; omega
   obtain ⟨y, hy⟩ : ∃ y, of[i]? = some y := ⟨_, List.getElem?_eq_getElem (by omega)⟩
   rcases k.row i r y hi hy (UInt8.ofNat j) x (by rw [hc]; exact hj) with ⟨_, rfl⟩ | ⟨_, a, z, rfl, h3, _⟩
   · omega
   · have := (List.getElem?_eq_some_iff.1 h3).1; omega
 · obtain ⟨i, hi⟩ := List.getElem?_of_mem hx
   have hil := (List.getElem?_eq_some_iff.1 hi).1
   have := k.rlen
   obtain ⟨y, hy⟩ : ∃ y, of[i]? = some y := ⟨_, List.getElem?_eq_getElem (by omega)⟩
   rw [k.rule i x y hi hy]
   unfold Tab.ru
   rw [List.getD_eq_getElem?_getD]
   cases h : d.rule[y]? with
   | none => show -1 ≤ (-1 : Int) ∧ (-1 : Int) ≤ 1000000; omega
   | some v => exact hd.ru v (List.mem_of_getElem? h)
def Trim (m : Tab) : Prop := ∀ (s : Nat) (c : UInt8), s < m.next.length → 0 ≤ m.to s c → ∃ w, 0 ≤ m.says (m.to s c) w
theorem minP_spec {d : Tab} (hd : d.Ok) (hn : 0 < d.next.length) : (minP d).Ok ∧ 0 < (minP d).next.length ∧ (minP d).next.length ≤ d.next.length ∧ Like (minP d) d 0 0 ∧ Trim (minP d) := by
 obtain ⟨of, k, hl⟩ := minP_reps hd hn
 have h0 := (List.getElem?_eq_some_iff.1 k.first).1
 refine ⟨k.mok hd hl, by omega, by have := k.rep.ok.len; omega, fun w => k.says hl w 0 0 k.first, fun s c hs h => ?_⟩
 obtain ⟨x, hx⟩ : ∃ x, of[s]? = some x := ⟨_, List.getElem?_eq_getElem (by omega)⟩
 rcases k.to hl hx c with ⟨h1, h2⟩ | ⟨⟨w, hw⟩, i, y, h2, h3, h4⟩
 · rw [h2] at h; omega
 · exact ⟨w, by rw [h2, k.says hl w i y h3, ← h4]; exact hw⟩
theorem dmatchG_dead (d : Tab) : ∀ (l : By) (s k : Nat) (b : Int × Int), (∀ w, d.says (s : Int) w = -1) → (dmatchG d l s k b).1 = b.1 ∧ (dmatchG d l s k b).2.1 = b.2 ∧ (k : Int) ≤ (dmatchG d l s k b).2.2
 | [], s, k, b, h => by
  have h0 := h []
  rw [says_nil] at h0
  rw [dmatchG, if_neg (by omega)]
  exact ⟨rfl, rfl, Int.le_refl _⟩
 | c :: l, s, k, b, h => by
  have h0 := h []
  rw [says_nil] at h0
  rw [dmatchG, if_neg (by omega : ¬ 0 ≤ d.ru s), if_neg (by omega : ¬ 0 ≤ d.ru s)]
  split
  · rename_i hp
    have := dmatchG_dead d l (d.to s c).toNat (k + 1) b (fun w => by rw [Int.toNat_of_nonneg hp, ← says_cons]; exact h (c :: w))
    exact ⟨this.1, this.2.1, by have := this.2.2; omega⟩
  · exact ⟨rfl, rfl, Int.le_refl _⟩
theorem dmatchG_like {d m : Tab} (hd : d.Ok) (hm : m.Ok) (ht : Trim m) : ∀ (l : By) (s t k : Nat) (b : Int × Int), s < d.next.length → t < m.next.length → Like d m s t →
 (dmatchG d l s k b).1 = (dmatchG m l t k b).1 ∧ (dmatchG d l s k b).2.1 = (dmatchG m l t k b).2.1 ∧ (dmatchG m l t k b).2.2 ≤ (dmatchG d l s k b).2.2
 | [], s, t, k, b, hs, htl, h => by
  have h0 := h []
  rw [says_nil, says_nil] at h0
  rw [dmatchG, dmatchG, h0]
  exact ⟨rfl, rfl, Int.le_refl _⟩
 | c :: l, s, t, k, b, hs, htl, h => by
  have h0 := h []
  rw [says_nil, says_nil] at h0
  have hl : Like d m (d.to s c) (m.to t c) := fun w => by rw [← says_cons, ← says_cons]; exact h _
  have h1 := Tab.to_lt hd (s := s) c
  have h2 := Tab.to_lt hm (s := t) c
  rw [dmatchG, dmatchG, h0]
  by_cases hmt : 0 ≤ m.to t c
  · obtain ⟨w, hw⟩ := ht t c htl hmt
    have hdt : 0 ≤ d.to s c := by
     by_cases e : d.to s c < 0
     · rw [← hl w, says_neg d w e] at hw; omega
     · omega
    rw [if_pos hmt, if_pos hdt]
    exact dmatchG_like hd hm ht l _ _ _ _ (by omega) (by omega) (fun w => by rw [Int.toNat_of_nonneg hmt, Int.toNat_of_nonneg hdt]; exact hl w)
  · rw [if_neg hmt]
    by_cases hdt : 0 ≤ d.to s c
    · rw [if_pos hdt]
      have hdd := dmatchG_dead d l (d.to s c).toNat (k + 1) (if 0 ≤ m.ru t then ((k : Int), m.ru t) else b) (fun w => by rw [Int.toNat_of_nonneg hdt, hl w]; exact says_neg m w (by omega))
      obtain ⟨d1, d2, d3⟩ := hdd
      rw [d1, d2]
      generalize (dmatchG d l (d.to s c).toNat (k + 1) (if 0 ≤ m.ru t then ((k : Int), m.ru t) else b)).2.2 = z at *
      split
      · exact ⟨rfl, rfl, by show (k : Int) ≤ _; omega⟩
      · exact ⟨rfl, rfl, by show (k : Int) ≤ _; omega⟩
    · rw [if_neg hdt]
      exact ⟨rfl, rfl, Int.le_refl _⟩
theorem table_like {d m : Tab} (hd : d.Ok) (hm : m.Ok) (ht : Trim m) (hd0 : 0 < d.next.length) (hm0 : 0 < m.next.length) (hl : Like d m 0 0) (s : By) (a : Int) :
 (dmatchA d s a).1 = (dmatchA m s a).1 ∧ (dmatchA d s a).2.1 = (dmatchA m s a).2.1 ∧ (dmatchA m s a).2.2 ≤ (dmatchA d s a).2.2 := by
 unfold dmatchA
 by_cases ha : a < 0 ∨ (s.length : Int) < a
 · rw [if_pos (.inr ha), if_pos (.inr ha)]
   exact ⟨rfl, rfl, Int.le_refl _⟩
 · rw [if_neg (by omega), if_neg (by omega)]
   exact dmatchG_like hd hm ht (s.drop a.toNat) 0 0 0 (0, -1) hd0 hm0 hl
theorem Lists.to {ss : List Ste} {st0 : Nat} {L : List (List Nat)} {d : Tab} (k : Lists ss st0 L d) (hL : L.length = d.next.length) {st : Nat} {now : List Nat} (hn : L[st]? = some now) (c : UInt8) : Leads L (stepP ss c now) (d.to st c) := by
 have hl := (List.getElem?_eq_some_iff.1 hn).1
 have hr : d.next[st]? = some (d.next[st]'(by omega)) := List.getElem?_eq_getElem _
 obtain ⟨x, hx, he, hm⟩ := (d.next[st]'(by omega)).at c
 unfold Tab.to
 rw [hr]
 simp only
 rw [he]
 have := k.row st _ now hr hn c.toNat x hx
 rwa [UInt8.ofNat_toNat] at this
theorem Lists.ru {ss : List Ste} {st0 : Nat} {L : List (List Nat)} {d : Tab} (k : Lists ss st0 L d) (hL : L.length = d.next.length) {st : Nat} {now : List Nat} (hn : L[st]? = some now) : d.ru st = acceptsP ss now := by
 have hl := (List.getElem?_eq_some_iff.1 hn).1
 have hlt : st < d.rule.length := by rw [k.rlen]; omega
 have hr : d.rule[st]? = some (d.rule[st]'hlt) := List.getElem?_eq_getElem _
 have := k.rule st _ now hr hn
 unfold Tab.ru
 rw [List.getD_eq_getElem?_getD, hr]
 exact this
theorem dmatchG_sim {ss : List Ste} {st0 : Nat} {L : List (List Nat)} {d : Tab} (k : Lists ss st0 L d) (hL : L.length = d.next.length) : ∀ (l : By) (st j : Nat) (now : List Nat) (b : Int × Int), L[st]? = some now → now.length ≠ 0 →
 ((dmatchG d l st j b).1, (dmatchG d l st j b).2.1) = matchG ss l now j b
 | [], st, j, now, b, hn, h0 => by
  rw [dmatchG, matchG, if_neg h0, k.ru hL hn]
  split <;> rfl
 | c :: l, st, j, now, b, hn, h0 => by
  rw [dmatchG, matchG, if_neg h0, k.ru hL hn]
  rcases k.to hL hn c with ⟨e, h⟩ | ⟨e, i, h, hi⟩
  · rw [h, if_neg (by decide), matchG_nil e]
    split <;> rfl
  · rw [h, if_pos (by omega), Int.toNat_natCast]
    exact dmatchG_sim k hL l i (j + 1) _ _ hi e
theorem dmakeP_match {ss : List Ste} {st : Nat} {d : Tab} (h : dmakeP ss st = .inr d) (hs : ss.length ≠ 0) (l : By) : ((dmatchG d l 0 0 (0, -1)).1, (dmatchG d l 0 0 (0, -1)).2.1) = matchP ss st l := by
 obtain ⟨h0, L, h1, h2, _⟩ := dmakeP_lists h
 rw [matchP, if_neg hs]
 exact dmatchG_sim h1 h2 l 0 0 _ _ h1.first h0
theorem dmatchG_steps (d : Tab) : ∀ (l : By) (st k : Nat) (b : Int × Int), b.1 ≤ k → (dmatchG d l st k b).1 ≤ (dmatchG d l st k b).2.2 ∧ (dmatchG d l st k b).2.2 ≤ k + l.length
 | [], st, k, b, h => by
  rw [dmatchG]
  split
  · exact ⟨Int.le_refl _, by simp⟩
  · exact ⟨h, by simp⟩
 | c :: l, st, k, b, h => by
  rw [dmatchG]
  split
  · have hb : (if 0 ≤ d.ru st then ((k : Int), d.ru st) else b).1 ≤ ((k + 1 : Nat) : Int) := by
     split
     · show (k : Int) ≤ _; omega
     · omega
    have := dmatchG_steps d l (d.to st c).toNat (k + 1) _ hb
    rw [List.length_cons]
    exact ⟨this.1, by have := this.2; omega⟩
  · split
    · exact ⟨Int.le_refl _, by show (k : Int) ≤ _; omega⟩
    · exact ⟨h, by show (k : Int) ≤ _; omega⟩
theorem nodup_in {α : Type} [DecidableEq α] : ∀ (l m : List α), l.Nodup → (∀ x ∈ l, x ∈ m) → l.length ≤ m.length
 | [], m, _, _ => Nat.zero_le _
 | a :: l, m, h, hs => by
  rw [List.nodup_cons] at h
  have ha := hs a (by simp)
  have := nodup_in l (m.erase a) h.2 (fun x hx => (List.mem_erase_of_ne (fun e => h.1 (by rw [← e]; exact hx))).2 (hs x (by simp [hx])))
  have h2 := List.length_erase_of_mem ha
  have h3 := List.length_pos_of_mem ha
  simp only [List.length_cons]; omega
def Shut (ss : List Ste) (S : List (List Nat)) : Prop := ∀ T ∈ S, ∀ c : UInt8, (stepP ss c T).length = 0 ∨ stepP ss c T ∈ S
theorem rowG_in {ss : List Ste} {S : List (List Nat)} {cur : List Nat} (hS : Shut ss S) (hc : cur ∈ S) : ∀ (n b : Nat) (lists : List (List Nat)) (row : List Int), (∀ T ∈ lists, T ∈ S) → ∀ T ∈ (rowG ss cur n b lists row).1, T ∈ S
 | 0, b, lists, row, h => h
 | n + 1, b, lists, row, h => by
  rw [rowG]
  refine rowG_in hS hc n (b + 1) _ _ fun T hT => ?_
  unfold rowStep at hT
  split at hT
  · exact h T hT
  · rename_i hne
    split at hT
    · exact h T hT
    · rcases List.mem_append.1 hT with k | k
      · exact h T k
      · rw [List.mem_singleton.1 k]
        exact (hS cur hc (UInt8.ofNat b)).resolve_left hne
theorem dmakeG_some {ss : List Ste} {S : List (List Nat)} (hS : Shut ss S) (hlen : S.length ≤ 2000) : ∀ (n k : Nat) (lists : List (List Nat)) (next : List Row) (rule : List Int), lists.Nodup → (∀ T ∈ lists, T ∈ S) → k ≤ lists.length → 2002 ≤ n + k → ∃ d, dmakeG ss n k lists next rule = some d
 | 0, k, lists, next, rule, hn, hin, hk, hf => by
  have := nodup_in lists S hn hin
  omega
 | n + 1, k, lists, next, rule, hn, hin, hk, hf => by
  rw [dmakeG]
  split
  · exact ⟨_, rfl⟩
  · rename_i cur hcur
    have hkl := (List.getElem?_eq_some_iff.1 hcur).1
    obtain ⟨h1, h2, _⟩ := rowG_spec ss cur 256 0 lists [] hn
    have h3 := rowG_in hS (hin cur (List.mem_of_getElem? hcur)) 256 0 lists [] hin
    have h4 := nodup_in _ S h2 h3
    have h5 := h1.length_le
    rw [if_neg (by omega)]
    exact dmakeG_some hS hlen n (k + 1) _ _ _ h2 h3 (by omega) (by omega)
theorem dmakeP_some {ss : List Ste} {st : Nat} {S : List (List Nat)} (hS : Shut ss S) (hlen : S.length ≤ 2000) (h0 : (startP ss st).length ≠ 0) (hst : startP ss st ∈ S) : ∃ d, dmakeP ss st = .inr d := by
 obtain ⟨d, hd⟩ := dmakeG_some hS hlen 2002 0 [startP ss st] [] [] (by simp) (fun T hT => by rw [List.mem_singleton.1 hT]; exact hst) (Nat.zero_le _) (Nat.le_refl _)
 refine ⟨d, ?_⟩
 unfold dmakeP
 rw [if_neg h0, hd]
theorem stepG_rep {ss : List Ste} {c r : UInt8} (h : ∀ x ∈ ss, x.set.testBit c.toNat = x.set.testBit r.toNat) : ∀ (l a : List Nat), stepG ss c l a = stepG ss r l a
 | [], a => rfl
 | j :: l, a => by
  rw [stepG, stepG]
  cases hx : ss[j]? with
  | none => exact stepG_rep h l a
  | some x =>
   simp only
   rw [show stepOk x c = stepOk x r by unfold stepOk; rw [h x (List.mem_of_getElem? hx)]]
   exact stepG_rep h l _
theorem stepP_rep {ss : List Ste} {c r : UInt8} (h : ∀ x ∈ ss, x.set.testBit c.toNat = x.set.testBit r.toNat) (T : List Nat) : stepP ss c T = stepP ss r T := by
 unfold stepP
 rw [stepG_rep h]
def htOf : List (List Nat × Nat) → List Nat → Option Nat
 | [], _ => none
 | (T, h) :: l, U => if T = U then some h else htOf l U
theorem htOf_mem : ∀ {l : List (List Nat × Nat)} {U : List Nat} {h : Nat}, htOf l U = some h → (U, h) ∈ l
 | [], U, h, e => by cases e
 | (T, h') :: l, U, h, e => by
  rw [htOf] at e
  split at e
  · rename_i k; cases e; subst k; simp
  · exact List.mem_cons_of_mem _ (htOf_mem e)
def chkStep (ss : List Ste) (H : List (List Nat × Nat)) (T : List Nat) (h : Nat) (r : UInt8) : Bool :=
 (stepP ss r T).isEmpty || match htOf H (stepP ss r T) with
  | none => false
  | some h' => decide (0 ≤ acceptsP ss (stepP ss r T)) || decide ((if 0 ≤ acceptsP ss T then 0 else h) + 1 ≤ h')
def chkAll (ss : List Ste) (H : List (List Nat × Nat)) (reps : List UInt8) : Bool := H.all fun p => decide (p.2 ≤ 2) && reps.all fun r => chkStep ss H p.1 p.2 r
def chkReps (ss : List Ste) (tab : List UInt8) (reps : List UInt8) : Bool := decide (tab.length = 256) && (List.range 256).all fun b => reps.contains (tab.getD b 0) && ss.all fun x => x.set.testBit b == x.set.testBit (tab.getD b 0).toNat
theorem chk_rep {ss : List Ste} {tab reps : List UInt8} (h : chkReps ss tab reps = true) (c : UInt8) : ∃ r ∈ reps, ∀ x ∈ ss, x.set.testBit c.toNat = x.set.testBit r.toNat := by
 unfold chkReps at h
 rw [Bool.and_eq_true] at h
 have h2 := List.all_eq_true.1 h.2 c.toNat (List.mem_range.2 c.toNat_lt)
 rw [Bool.and_eq_true] at h2
 exact ⟨_, by simpa using h2.1, fun x hx => by simpa using List.all_eq_true.1 h2.2 x hx⟩
theorem chk_step {ss : List Ste} {H : List (List Nat × Nat)} {tab reps : List UInt8} (hr : chkReps ss tab reps = true) (ha : chkAll ss H reps = true) {T : List Nat} {h : Nat} (hT : (T, h) ∈ H) (c : UInt8) :
 (stepP ss c T).length = 0 ∨ ∃ h', (stepP ss c T, h') ∈ H ∧ h' ≤ 2 ∧ (0 ≤ acceptsP ss (stepP ss c T) ∨ (if 0 ≤ acceptsP ss T then 0 else h) + 1 ≤ h') := by
 obtain ⟨r, hrm, hx⟩ := chk_rep hr c
 rw [stepP_rep hx]
 have h1 := List.all_eq_true.1 ha _ hT
 rw [Bool.and_eq_true] at h1
 have h2 := List.all_eq_true.1 h1.2 r hrm
 simp only [chkStep, Bool.or_eq_true, List.isEmpty_iff] at h2
 rcases h2 with h2 | h2
 · left; rw [h2]; rfl
 · right
   cases hh : htOf H (stepP ss r T) with
   | none => rw [hh] at h2; cases h2
   | some h' =>
    rw [hh] at h2
    simp only [Bool.or_eq_true, decide_eq_true_eq] at h2
    have hm := htOf_mem hh
    have h3 := List.all_eq_true.1 ha _ hm
    rw [Bool.and_eq_true] at h3
    exact ⟨h', hm, of_decide_eq_true h3.1, h2⟩
theorem chk_shut {ss : List Ste} {H : List (List Nat × Nat)} {tab reps : List UInt8} (hr : chkReps ss tab reps = true) (ha : chkAll ss H reps = true) : Shut ss (H.map (·.1)) := fun T hT c => by
 obtain ⟨⟨T', h⟩, hm, rfl⟩ := List.mem_map.1 hT
 rcases chk_step hr ha hm c with k | ⟨h', k, _⟩
 · exact .inl k
 · exact .inr (List.mem_map.2 ⟨_, k, rfl⟩)
theorem steps_two {ss : List Ste} {st0 : Nat} {L : List (List Nat)} {d : Tab} (k : Lists ss st0 L d) (hL : L.length = d.next.length) {H : List (List Nat × Nat)} {tab reps : List UInt8} (hr : chkReps ss tab reps = true) (ha : chkAll ss H reps = true) : ∀ (l : By) (s j : Nat) (b : Int × Int) (T : List Nat) (h : Nat),
 L[s]? = some T → (T, h) ∈ H → (j : Int) ≤ (if 0 ≤ acceptsP ss T then (j : Int) else b.1 + h) → (dmatchG d l s j b).2.2 ≤ (dmatchG d l s j b).1 + 2
 | [], s, j, b, T, h, hs, hm, hj => by
  have h2 := List.all_eq_true.1 ha _ hm
  rw [Bool.and_eq_true] at h2
  have h3 := of_decide_eq_true h2.1
  rw [dmatchG, k.ru hL hs]
  split
  · show (j : Int) ≤ j + 2; omega
  · rename_i hn
    rw [if_neg hn] at hj
    show (j : Int) ≤ b.1 + 2
    simp only at h3
    omega
 | c :: l, s, j, b, T, h, hs, hm, hj => by
  have h2 := List.all_eq_true.1 ha _ hm
  rw [Bool.and_eq_true] at h2
  have h3 := of_decide_eq_true h2.1
  simp only at h3
  rw [dmatchG, k.ru hL hs]
  rcases k.to hL hs c with ⟨h1, e1⟩ | ⟨h1, i, e1, hi⟩
  · rw [e1, if_neg (by decide)]
    split
    · show (j : Int) ≤ j + 2; omega
    · rename_i hn
      rw [if_neg hn] at hj
      show (j : Int) ≤ b.1 + 2
      omega
  · rw [e1, if_pos (by omega), Int.toNat_natCast]
    rcases chk_step hr ha hm c with q | ⟨h', q1, q2, q3⟩
    · exact absurd q h1
    · refine steps_two k hL hr ha l i (j + 1) _ _ h' hi q1 ?_
      by_cases hacc : 0 ≤ acceptsP ss (stepP ss c T)
      · rw [if_pos hacc]; omega
      · rw [if_neg hacc]
        have q4 := q3.resolve_left hacc
        by_cases ht : 0 ≤ acceptsP ss T
        · rw [if_pos ht] at q4
          rw [if_pos ht]
          show ((j + 1 : Nat) : Int) ≤ (j : Int) + h'
          omega
        · rw [if_neg ht] at q4 hj
          rw [if_neg ht]
          omega
end Go.Proofs.YtlkmlfofhbekoaaDoor
namespace Go.Proofs.YtlkmlfofhbekoaaDoor
open Go
set_option maxRecDepth 100000
def rules0 : List By := [[91, 32, 92, 116, 92, 114, 93, 43], [92, 110], [91, 97, 45, 122, 65, 45, 90, 95, 93, 91, 97, 45, 122, 65, 45, 90, 48, 45, 57, 95, 93, 42], [91, 48, 45, 57, 93, 43, 40, 92, 46, 91, 48, 45, 57, 93, 43, 41, 63, 40, 91, 101, 69, 93, 91, 92, 43, 92, 45, 93, 63, 91, 48, 45, 57, 93, 43, 41, 63], [47, 47, 91, 94, 92, 110, 93, 42], [47, 92, 42], [34], [91, 92, 40, 92, 91, 123, 93], [91, 92, 41, 92, 93, 125, 93], [91, 92, 43, 92, 45, 92, 42, 47, 37, 60, 62, 33, 61, 44, 59, 58, 92, 46, 93, 124, 61, 61, 124, 33, 61, 124, 60, 61, 124, 62, 61, 124, 38, 38, 124, 92, 124, 92, 124, 124, 92, 45, 62]]
def ste0 : List Ste := [⟨2, 0, [], 0⟩, ⟨0, 0, [2, 0], 0⟩, ⟨1, 4294976000, [1], 0⟩, ⟨2, 0, [], 1⟩, ⟨1, 1024, [3], 0⟩, ⟨2, 0, [], 2⟩, ⟨0, 0, [7, 5], 0⟩, ⟨1, 10633823849912963253799171395480977408, [6], 0⟩, ⟨1, 10633823849912963253511222494305976320, [6], 0⟩, ⟨2, 0, [], 3⟩, ⟨0, 0, [11, 9], 0⟩, ⟨1, 287948901175001088, [10], 0⟩, ⟨1, 43980465111040, [11], 0⟩, ⟨0, 0, [12, 11], 0⟩, ⟨1, 2535301201046754613352112062464, [13], 0⟩, ⟨0, 0, [14, 9], 0⟩, ⟨0, 0, [17, 15], 0⟩, ⟨1, 287948901175001088, [16], 0⟩, ⟨1, 70368744177664, [17], 0⟩, ⟨0, 0, [18, 15], 0⟩, ⟨0, 0, [21, 19], 0⟩, ⟨1, 287948901175001088, [20], 0⟩, ⟨2, 0, [], 4⟩, ⟨0, 0, [24, 22], 0⟩, ⟨1, 115792089237316195423570985008687907853269984665640564039457584007913129638911, [23], 0⟩, ⟨1, 140737488355328, [23], 0⟩, ⟨1, 140737488355328, [25], 0⟩, ⟨2, 0, [], 5⟩, ⟨1, 4398046511104, [27], 0⟩, ⟨1, 140737488355328, [28], 0⟩, ⟨2, 0, [], 6⟩, ⟨1, 17179869184, [30], 0⟩, ⟨2, 0, [], 7⟩, ⟨1, 10633823968755207061801218131552632832, [32], 0⟩, ⟨2, 0, [], 8⟩, ⟨1, 42535295875020828247204870327187275776, [34], 0⟩, ⟨2, 0, [], 9⟩, ⟨1, 8935418883662151680, [36], 0⟩, ⟨1, 2305843009213693952, [36], 0⟩, ⟨1, 2305843009213693952, [38], 0⟩, ⟨1, 2305843009213693952, [36], 0⟩, ⟨1, 8589934592, [40], 0⟩, ⟨1, 2305843009213693952, [36], 0⟩, ⟨1, 1152921504606846976, [42], 0⟩, ⟨1, 2305843009213693952, [36], 0⟩, ⟨1, 4611686018427387904, [44], 0⟩, ⟨1, 274877906944, [36], 0⟩, ⟨1, 274877906944, [46], 0⟩, ⟨1, 21267647932558653966460912964485513216, [36], 0⟩, ⟨1, 21267647932558653966460912964485513216, [48], 0⟩, ⟨1, 4611686018427387904, [36], 0⟩, ⟨1, 35184372088832, [50], 0⟩, ⟨0, 0, [37, 39, 41, 43, 45, 47, 49, 51], 0⟩, ⟨0, 0, [2, 4, 8, 21, 26, 29, 31, 33, 35, 52], 0⟩]
theorem mk0 : makeP rules0 = .inr (ste0, 53) := rfl
def ht0 : List (List Nat × Nat) := [([2, 4, 8, 21, 26, 29, 31, 33, 35, 37, 39, 41, 43, 45, 47, 49, 51], 0), ([0, 2], 0), ([3], 0), ([36, 40], 0), ([30], 0), ([36], 0), ([46], 1), ([32], 0), ([34], 0), ([36, 50], 0), ([25, 28, 36], 0), ([9, 14, 18, 21], 0), ([36, 42], 0), ([36, 38], 0), ([36, 44], 0), ([5, 7], 0), ([48], 1), ([27], 0), ([22, 24], 0), ([17], 1), ([11, 12], 1), ([9, 14, 17], 0), ([11], 2), ([9, 11], 0)]
def tab0 : List UInt8 := [0, 0, 0, 0, 0, 0, 0, 0, 0, 9, 10, 0, 0, 9, 0, 0, 0, 0, 0, 0, 0, 0, 0, 0, 0, 0, 0, 0, 0, 0, 0, 0, 9, 33, 34, 0, 0, 37, 38, 0, 40, 41, 42, 43, 37, 45, 46, 47, 48, 48, 48, 48, 48, 48, 48, 48, 48, 48, 37, 37, 60, 61, 62, 0, 0, 65, 65, 65, 65, 69, 65, 65, 65, 65, 65, 65, 65, 65, 65, 65, 65, 65, 65, 65, 65, 65, 65, 65, 65, 65, 65, 40, 0, 41, 0, 65, 0, 65, 65, 65, 65, 69, 65, 65, 65, 65, 65, 65, 65, 65, 65, 65, 65, 65, 65, 65, 65, 65, 65, 65, 65, 65, 65, 40, 124, 41, 0, 0, 0, 0, 0, 0, 0, 0, 0, 0, 0, 0, 0, 0, 0, 0, 0, 0, 0, 0, 0, 0, 0, 0, 0, 0, 0, 0, 0, 0, 0, 0, 0, 0, 0, 0, 0, 0, 0, 0, 0, 0, 0, 0, 0, 0, 0, 0, 0, 0, 0, 0, 0, 0, 0, 0, 0, 0, 0, 0, 0, 0, 0, 0, 0, 0, 0, 0, 0, 0, 0, 0, 0, 0, 0, 0, 0, 0, 0, 0, 0, 0, 0, 0, 0, 0, 0, 0, 0, 0, 0, 0, 0, 0, 0, 0, 0, 0, 0, 0, 0, 0, 0, 0, 0, 0, 0, 0, 0, 0, 0, 0, 0, 0, 0, 0, 0, 0, 0, 0, 0, 0, 0, 0, 0, 0, 0, 0, 0, 0]
def reps0 : List UInt8 := [0, 9, 10, 33, 34, 37, 38, 40, 41, 42, 43, 45, 46, 47, 48, 60, 61, 62, 65, 69, 124]
def rules1 : List By := [[91, 94, 34, 92, 92, 92, 110, 93, 43], [92, 92, 91, 110, 114, 116, 34, 92, 92, 48, 93], [34], [92, 110]]
def ste1 : List Ste := [⟨2, 0, [], 0⟩, ⟨0, 0, [2, 0], 0⟩, ⟨1, 115792089237316195423570985008687907853269984665635612279300442486796353272831, [1], 0⟩, ⟨2, 0, [], 1⟩, ⟨1, 105144016337090416619545142419783680, [3], 0⟩, ⟨1, 4951760157141521099596496896, [4], 0⟩, ⟨2, 0, [], 2⟩, ⟨1, 17179869184, [6], 0⟩, ⟨2, 0, [], 3⟩, ⟨1, 1024, [8], 0⟩, ⟨0, 0, [2, 5, 7, 9], 0⟩]
theorem mk1 : makeP rules1 = .inr (ste1, 10) := rfl
def ht1 : List (List Nat × Nat) := [([2, 5, 7, 9], 0), ([0, 2], 0), ([8], 0), ([6], 0), ([4], 1), ([3], 0)]
def tab1 : List UInt8 := [0, 0, 0, 0, 0, 0, 0, 0, 0, 0, 10, 0, 0, 0, 0, 0, 0, 0, 0, 0, 0, 0, 0, 0, 0, 0, 0, 0, 0, 0, 0, 0, 0, 0, 34, 0, 0, 0, 0, 0, 0, 0, 0, 0, 0, 0, 0, 0, 48, 0, 0, 0, 0, 0, 0, 0, 0, 0, 0, 0, 0, 0, 0, 0, 0, 0, 0, 0, 0, 0, 0, 0, 0, 0, 0, 0, 0, 0, 0, 0, 0, 0, 0, 0, 0, 0, 0, 0, 0, 0, 0, 0, 92, 0, 0, 0, 0, 0, 0, 0, 0, 0, 0, 0, 0, 0, 0, 0, 0, 0, 48, 0, 0, 0, 48, 0, 48, 0, 0, 0, 0, 0, 0, 0, 0, 0, 0, 0, 0, 0, 0, 0, 0, 0, 0, 0, 0, 0, 0, 0, 0, 0, 0, 0, 0, 0, 0, 0, 0, 0, 0, 0, 0, 0, 0, 0, 0, 0, 0, 0, 0, 0, 0, 0, 0, 0, 0, 0, 0, 0, 0, 0, 0, 0, 0, 0, 0, 0, 0, 0, 0, 0, 0, 0, 0, 0, 0, 0, 0, 0, 0, 0, 0, 0, 0, 0, 0, 0, 0, 0, 0, 0, 0, 0, 0, 0, 0, 0, 0, 0, 0, 0, 0, 0, 0, 0, 0, 0, 0, 0, 0, 0, 0, 0, 0, 0, 0, 0, 0, 0, 0, 0, 0, 0, 0, 0, 0, 0, 0, 0, 0, 0, 0, 0, 0, 0, 0, 0, 0, 0, 0, 0, 0, 0, 0, 0]
def reps1 : List UInt8 := [0, 10, 34, 48, 92]
def rules2 : List By := [[47, 92, 42], [92, 42, 47], [91, 94, 92, 42, 47, 93, 43], [91, 92, 42, 47, 93]]
def ste2 : List Ste := [⟨2, 0, [], 0⟩, ⟨1, 4398046511104, [0], 0⟩, ⟨1, 140737488355328, [1], 0⟩, ⟨2, 0, [], 1⟩, ⟨1, 140737488355328, [3], 0⟩, ⟨1, 4398046511104, [4], 0⟩, ⟨2, 0, [], 2⟩, ⟨0, 0, [8, 6], 0⟩, ⟨1, 115792089237316195423570985008687907853269984665640564039457583862777594773503, [7], 0⟩, ⟨2, 0, [], 3⟩, ⟨1, 145135534866432, [9], 0⟩, ⟨0, 0, [2, 5, 8, 10], 0⟩]
theorem mk2 : makeP rules2 = .inr (ste2, 11) := rfl
def ht2 : List (List Nat × Nat) := [([2, 5, 8, 10], 0), ([6, 8], 0), ([4, 9], 0), ([1, 9], 0), ([3], 0), ([0], 0)]
def tab2 : List UInt8 := [0, 0, 0, 0, 0, 0, 0, 0, 0, 0, 0, 0, 0, 0, 0, 0, 0, 0, 0, 0, 0, 0, 0, 0, 0, 0, 0, 0, 0, 0, 0, 0, 0, 0, 0, 0, 0, 0, 0, 0, 0, 0, 42, 0, 0, 0, 0, 47, 0, 0, 0, 0, 0, 0, 0, 0, 0, 0, 0, 0, 0, 0, 0, 0, 0, 0, 0, 0, 0, 0, 0, 0, 0, 0, 0, 0, 0, 0, 0, 0, 0, 0, 0, 0, 0, 0, 0, 0, 0, 0, 0, 0, 0, 0, 0, 0, 0, 0, 0, 0, 0, 0, 0, 0, 0, 0, 0, 0, 0, 0, 0, 0, 0, 0, 0, 0, 0, 0, 0, 0, 0, 0, 0, 0, 0, 0, 0, 0, 0, 0, 0, 0, 0, 0, 0, 0, 0, 0, 0, 0, 0, 0, 0, 0, 0, 0, 0, 0, 0, 0, 0, 0, 0, 0, 0, 0, 0, 0, 0, 0, 0, 0, 0, 0, 0, 0, 0, 0, 0, 0, 0, 0, 0, 0, 0, 0, 0, 0, 0, 0, 0, 0, 0, 0, 0, 0, 0, 0, 0, 0, 0, 0, 0, 0, 0, 0, 0, 0, 0, 0, 0, 0, 0, 0, 0, 0, 0, 0, 0, 0, 0, 0, 0, 0, 0, 0, 0, 0, 0, 0, 0, 0, 0, 0, 0, 0, 0, 0, 0, 0, 0, 0, 0, 0, 0, 0, 0, 0, 0, 0, 0, 0, 0, 0, 0, 0, 0, 0, 0, 0, 0, 0, 0, 0, 0, 0]
def reps2 : List UInt8 := [0, 42, 47]
theorem chkR0 : chkReps ste0 tab0 reps0 = true := by decide +kernel
theorem chkA0 : chkAll ste0 ht0 reps0 = true := by decide +kernel
theorem chkS0 : htOf ht0 (startP ste0 53) = some 0 ∧ startP ste0 53 ≠ [] ∧ ¬ 0 ≤ acceptsP ste0 (startP ste0 53) := by decide +kernel
theorem chkR1 : chkReps ste1 tab1 reps1 = true := by decide +kernel
theorem chkA1 : chkAll ste1 ht1 reps1 = true := by decide +kernel
theorem chkS1 : htOf ht1 (startP ste1 10) = some 0 ∧ startP ste1 10 ≠ [] ∧ ¬ 0 ≤ acceptsP ste1 (startP ste1 10) := by decide +kernel
theorem chkR2 : chkReps ste2 tab2 reps2 = true := by decide +kernel
theorem chkA2 : chkAll ste2 ht2 reps2 = true := by decide +kernel
theorem chkS2 : htOf ht2 (startP ste2 11) = some 0 ∧ startP ste2 11 ≠ [] ∧ ¬ 0 ≤ acceptsP ste2 (startP ste2 11) := by decide +kernel
end Go.Proofs.YtlkmlfofhbekoaaDoor
