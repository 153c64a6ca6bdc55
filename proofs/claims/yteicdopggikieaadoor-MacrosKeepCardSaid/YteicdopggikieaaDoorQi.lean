/- What the proof of the statement leans on (part 9). -/
import Derived.Laws.IdiomStrings
import Derived.Laws.BytesArg
import Derived.Test.YteicdopggikieaaDoorQh

namespace Go.Lw
open Go.RowKit
section
variable {P : Program} {ρ : Env} {h : Heap} {dst : Option Nat} {ty : TypeId} {pos : String} {after : Array Edge} {guard : Option (Nat × Bool)} {X : List PanicEntry → Heap → Prop}
theorem row_push (h : Heap) (us : List Value) (t : TypeId) : rowAt (h.push (.cells us.toArray t)) h.size 0 us := fun j v hv => by
 rw [Nat.zero_add]
 exact cellAt_push_new h _ _ _ _ _ (by simpa using hv)
theorem OpX.buildRec {t e : TypeId} {size bytes : Nat} {ps : Array (Nat × Operand)} {cs : List Value} (ht : P.underlying t = some (.slice e)) (he : ElemT P e size bytes)
 (hps : ps.toList.map (fun p => (p.1, opd ρ p.2)) = [(0, some (.agg cs.toArray))]) (hn : cs.length = size) (hsz : size ≤ 16777216) :
 OpX P ⟨dst, .buildSlice t 1 ps, ty, pos, after, guard⟩ ρ h (fun u g => u = .slice (some ⟨h.size, 0, none⟩) 1 1 ∧ g = h.push (.cells cs.toArray e)) X := by
 refine OpX.buildSlice (vs := [(0, .agg cs.toArray)]) ht he hps (by omega) (fun z hz => ?_)
 have key : ∀ (cs : List Value) (k : Nat) (pre tl : List Value), pre.length = k → tl.length = cs.length →
  (cs.zipIdx k).foldl (fun (a : Array Value) (p : Value × Nat) => a.setIfInBounds p.2 p.1) (pre ++ tl).toArray = (pre ++ cs).toArray := by
  intro cs
  induction cs with
  | nil =>
   intro k pre tl _ hl
   have : tl = [] := List.eq_nil_of_length_eq_zero (by simpa using hl)
   subst this; rfl
  | cons c cs ih =>
   intro k pre tl hp hl
   cases tl with
   | nil => simp at hl
   | cons t tl =>
    rw [List.zipIdx_cons, List.foldl_cons]
    have hset : (pre ++ t :: tl).toArray.setIfInBounds k c = ((pre ++ [c]) ++ tl).toArray := by
     subst hp
     simp [List.set_append_right]
    simp only [hset]
    rw [ih (k + 1) (pre ++ [c]) tl (by simp [hp]) (by simpa using hl)]
    simp
 subst hn
 simp only [Instr.fill, Nat.zero_mul, Nat.one_mul, Value.cells]
 rw [if_neg (by simp)]
 congr 1
 have e1 : (Array.map (fun x => z[x % z.size]!) (Array.range cs.length)) = ([] ++ (List.range cs.length).map (fun x => z[x % z.size]!)).toArray := by
  apply Array.ext'; simp
 rw [e1]
 have := key cs 0 [] ((List.range cs.length).map (fun x => z[x % z.size]!)) rfl (by simp)
 have e2 : (cs.toArray.zipIdx.foldl (fun (a : Array Value) (p : Value × Nat) => a.setIfInBounds (0 + p.2) p.1) ([] ++ (List.range cs.length).map (fun x => z[x % z.size]!)).toArray) = ([] ++ cs).toArray := by
  rw [← this]
  simp
 simpa using e2
theorem OpX.appendNew {t e : TypeId} {size bytes : Nat} {x y : Operand} {v : Value} {n : Nat} {xs news : List Value} {m c base : Nat} {h0 : Heap} (ht : P.underlying t = some (.slice e)) (he : ElemT P e size bytes)
 (hx : opd ρ x = some v) (hy : opd ρ y = some (.slice (some ⟨h0.size, 0, none⟩) m c)) (hown : OwnH h0 base e size v n xs) (hh : h = h0.push (.cells news.toArray e)) (hl : news.length = m * size)
 (h1 : ∀ u ∈ news, u.oneCell' = true) (hn : n + m ≤ 1000000000) (hby : bytes ≤ 1000) (hbase : base ≤ h0.size) :
 OpX P ⟨dst, .call ⟨.builtin .append, #[x, y], #[t, t]⟩, ty, pos, after, guard⟩ ρ h (fun v' h' => OwnH h' base e size v' (n + m) (xs ++ news) ∧ Ext (but v.ownBlock) h0 h' ∧ Ext (but v.ownBlock) h h' ∧ (∀ b, v'.ownBlock = some b → v.ownBlock = some b ∨ h0.size ≤ b)) X := by
 subst hh
 have hp := Ext.push (fun _ => False) h0 (.cells news.toArray e)
 have hs : (h0.push (.cells news.toArray e)).size = h0.size + 1 := by simp
 have hmul : (n + m) * bytes ≤ 1000000000 * 1000 := Nat.mul_le_mul hn hby
 refine (OpX.append ht he hx hy (hown.ext hp (fun _ _ k => k)) hl (.inr ⟨_, _, rfl, row_push _ _ _⟩) h1 (by simp only [maxLen]; omega) (by omega) (by omega)).mono (fun v' h' ⟨k1, k2, _, k4⟩ => ⟨k1, ?_, k2, fun b hb => ?_⟩) (fun _ _ k => k)
 · exact (Ext0.of hp).trans k2
 · rcases k4 b hb with k | k
   · exact .inl k
   · exact .inr (by omega)
theorem OpP.convBytes {s d e : TypeId} {x : Operand} {v : Value} {O : Nat → Prop} {l : List UInt8} (hs : P.underlying s = some (.slice e)) (he : P.underlying e = some (.int .u8)) (hd : P.underlying d = some .string)
 (hx : opd ρ x = some v) (hv : SlR .byte h O v l) : OpP P ⟨dst, .convert s d x, ty, pos, after, guard⟩ ρ h (.string ⟨l.toArray⟩) := by
 intro _ B a w hf ha
 obtain ⟨oa, n, c, rfl, hsl⟩ := hv.open
 have hn := hsl.len
 subst hn
 have key : (convert s d (.slice oa l.length c)).run P w = .ok (.string ⟨l.toArray⟩) w := by
  cases oa with
  | none =>
   have hl : l = [] := by
    rcases Nat.eq_zero_or_pos l.length with h0 | h0
    · exact List.eq_nil_of_length_eq_zero h0
    · obtain ⟨b, o, x, ha, _⟩ := hsl.at h0; cases ha
   subst hl
   rw [run_convert_bytes_string w s d e none _ c hs he hd]
   rfl
  | some p =>
   refine run_convert_bytes_back w s d e p c l hs he hd (fun j hj => ?_)
   obtain ⟨b, o, y, hp, _, hy, hc⟩ := hsl.at hj
   cases hp
   rw [ha.cell]
   rw [List.getElem?_eq_getElem hj] at hy
   cases hy
   simpa [Addr.add_mid] using hc
 simp only [execOp, hf.eval hx, Sem.run_bind, key, Result.andThen_ok, Sem.run_pure]
end
def Elt.record {α : Type} (sz : Nat) (pos : 0 < sz) (enc : α → List Value) (hl : ∀ x, (enc x).length = sz) (h1 : ∀ x, ∀ v ∈ enc x, v.oneCell' = true) : Elt α where
 sz := sz
 pos := pos
 R := fun _ _ cs x => cs = enc x
 len := fun h => by subst h; exact hl _
 one := fun h => by subst h; exact h1 _
 mv := fun h _ => h
theorem Sl.recd {α : Type} {sz : Nat} {pos : 0 < sz} {enc : α → List Value} {hl : ∀ x, (enc x).length = sz} {h1 : ∀ x, ∀ v ∈ enc x, v.oneCell' = true} {h : Heap} {O : Nat → Prop} {oa : Option Addr} {n c : Nat} {xs : List α} (k : Sl (.record sz pos enc hl h1) h O oa n c xs) {i : Nat} (hi : i < n) :
 ∃ b o x, oa = some ⟨b, o, none⟩ ∧ ¬ O b ∧ xs[i]? = some x ∧ rowAt h b (o + i * sz) (enc x) := by
 have hlt : i < xs.length := by rw [k.len]; exact hi
 obtain ⟨b, o, cs, ha, ho, hr, hR⟩ := k.get i xs[i] (List.getElem?_eq_getElem hlt)
 have hcs : cs = enc xs[i] := hR
 subst hcs
 exact ⟨b, o, xs[i], ha, ho, List.getElem?_eq_getElem hlt, hr⟩
theorem flatMap_at {α : Type} {sz : Nat} {enc : α → List Value} (hl : ∀ x, (enc x).length = sz) : ∀ (xs : List α) (i : Nat) (x : α) (j : Nat) (v : Value), xs[i]? = some x → (enc x)[j]? = some v → (xs.flatMap enc)[i * sz + j]? = some v
 | [], i, x, j, v, hx, _ => by simp at hx
 | y :: ys, 0, x, j, v, hx, hv => by
  simp at hx; subst hx
  have : j < (enc y).length := (List.getElem?_eq_some_iff.1 hv).1
  rw [List.flatMap_cons, Nat.zero_mul, Nat.zero_add, List.getElem?_append_left this]
  exact hv
 | y :: ys, i + 1, x, j, v, hx, hv => by
  rw [List.flatMap_cons, List.getElem?_append_right (by rw [hl, Nat.add_mul]; omega), hl]
  have : (i + 1) * sz + j - sz = i * sz + j := by rw [Nat.add_mul]; omega
  rw [this]
  exact flatMap_at hl ys i x j v (by simpa using hx) hv
theorem flatMap_len {α : Type} {sz : Nat} {enc : α → List Value} (hl : ∀ x, (enc x).length = sz) : ∀ xs : List α, (xs.flatMap enc).length = xs.length * sz
 | [] => by simp
 | y :: ys => by rw [List.flatMap_cons, List.length_append, hl, flatMap_len hl ys, List.length_cons, Nat.add_mul]; omega
theorem OwnH.shutR {α : Type} {sz : Nat} {pos : 0 < sz} {enc : α → List Value} {hl : ∀ x, (enc x).length = sz} {h1 : ∀ x, ∀ v ∈ enc x, v.oneCell' = true} {h : Heap} {base : Nat} {O : Nat → Prop} {t : TypeId} {v : Value} {n : Nat} {xs : List α}
 (k : OwnH h base t sz v n (xs.flatMap enc)) (ho : ∀ b, base ≤ b → ¬ O b) : SlR (.record sz pos enc hl h1) h O v xs := by
 have hn : xs.length = n := by
  have := k.1
  rw [flatMap_len hl] at this
  exact Nat.eq_of_mul_eq_mul_right pos this
 rcases k.2 with ⟨rfl, rfl⟩ | ⟨g, cap, cur, rfl, hb, hg, hnc, hc, hs, ht⟩
 · exact ⟨none, 0, 0, rfl, hn, Nat.le_refl _, by simp [maxLen], fun i x hx => by
    have : xs = [] := List.eq_nil_of_length_eq_zero hn
    subst this; simp at hx⟩
 · refine ⟨some ⟨g, 0, none⟩, n, cap, rfl, hn, hnc, hc, fun i x hx => ⟨g, 0, enc x, rfl, ho g hb, ?_, rfl⟩⟩
   intro j u hj
   have h2 := flatMap_at hl xs i x j u hx hj
   rw [← ht, List.getElem?_take] at h2
   split at h2
   · have h3 : cur[i * sz + j]? = some u := by simpa using h2
     simpa [cellAt, hg, Elt.record, Nat.add_assoc] using h3
   · cases h2
theorem ResOk.rowN {P : Program} {ρ : Env} {h : Heap} {a : Tmp} {t : TypeId} {b o sz : Nat} {cs : List Value} (hr : isRowT P t = some true) (hs : szOf P t = some sz) (hx : ρ.at a = some (.pointer (some ⟨b, o, none⟩))) (hc : rowAt h b o cs) (hn : cs.length = sz) : ResOk P ρ h (.cell a t) (.agg cs.toArray) :=
 ResOk.row hr (by rw [hn]; exact hs) hx hc
end Go.Lw
namespace Go.Lw
def OwE {α : Type} (enc : α → Value) (h : Heap) (base : Nat) (t : TypeId) (v : Value) (xs : List α) : Prop := OwnH h base t 1 v xs.length (xs.map enc)
theorem OwE.nil {α : Type} (enc : α → Value) (h : Heap) (base : Nat) (t : TypeId) : OwE enc h base t (.slice none 0 0) [] := OwnH.nil h base t 1
theorem OwE.made {α : Type} (enc : α → Value) (h : Heap) (t : TypeId) (xs : List α) (n : Nat) (hn : xs.length = n) (hm : n ≤ maxLen) (base : Nat) (hb : base ≤ h.size) {us : List Value} (hu : us = xs.map enc) : OwE enc (h.push (.cells us.toArray t)) base t (.slice (some ⟨h.size, 0, none⟩) n n) xs := by
 subst hn hu
 exact OwnH.made h (xs.map enc) t xs.length (by simp) hm base hb
theorem OwE.read {α : Type} {enc : α → Value} {h1 : ∀ x, (enc x).oneCell' = true} {h : Heap} {base : Nat} {O : Nat → Prop} {t : TypeId} {v : Value} {xs : List α} (k : OwE enc h base t v xs) (ho : ∀ b, base ≤ b → ¬ O b) : SlR (.flat enc h1) h O v xs := OwnH.shut k ho
theorem OwE.ext0 {α : Type} {enc : α → Value} {h h' : Heap} {base : Nat} {t : TypeId} {v : Value} {xs : List α} (k : OwE enc h base t v xs) (e : Ext0 h h') : OwE enc h' base t v xs := OwnH.ext e k (fun _ _ k => k)
theorem OwE.grown {α : Type} {enc : α → Value} {h0 h h' : Heap} {base : Nat} {t : TypeId} {v : Value} {xs : List α} (e0 : Ext0 h0 h) (k : OwE enc h base t v xs) (hb : h0.size ≤ base) (e : Ext (but v.ownBlock) h h') : Ext0 h0 h' := Ext.own e0 k hb e
def encB (b : UInt8) : Value := .int .u8 b.toNat
abbrev OwB (h : Heap) (base : Nat) (t : TypeId) (v : Value) (xs : List UInt8) : Prop := OwE encB h base t v xs
def OwR {α : Type} (sz : Nat) (enc : α → List Value) (h : Heap) (base : Nat) (t : TypeId) (v : Value) (xs : List α) : Prop := OwnH h base t sz v xs.length (xs.flatMap enc)
theorem OwR.of {α : Type} {sz : Nat} {enc : α → List Value} {h : Heap} {base : Nat} {t : TypeId} {v : Value} {xs : List α} {y : α} {n : Nat} {news : List Value} (k : OwnH h base t sz v (n + 1) (xs.flatMap enc ++ news)) (hn : n = xs.length) (hnews : news = enc y) : OwR sz enc h base t v (xs ++ [y]) := by
 unfold OwR
 subst hn hnews
 simpa using k
theorem OwR.nil {α : Type} (sz : Nat) (enc : α → List Value) (h : Heap) (base : Nat) (t : TypeId) : OwR sz enc h base t (.slice none 0 0) [] := OwnH.nil h base t sz
theorem OwR.ext0 {α : Type} {sz : Nat} {enc : α → List Value} {h h' : Heap} {base : Nat} {t : TypeId} {v : Value} {xs : List α} (k : OwR sz enc h base t v xs) (e : Ext0 h h') : OwR sz enc h' base t v xs := OwnH.ext e k (fun _ _ k => k)
theorem OwR.read {α : Type} {sz : Nat} {pos : 0 < sz} {enc : α → List Value} {hl : ∀ x, (enc x).length = sz} {h1 : ∀ x, ∀ v ∈ enc x, v.oneCell' = true} {h : Heap} {base : Nat} {O : Nat → Prop} {t : TypeId} {v : Value} {xs : List α} (k : OwR sz enc h base t v xs) (ho : ∀ b, base ≤ b → ¬ O b) : SlR (.record sz pos enc hl h1) h O v xs := OwnH.shutR k ho
end Go.Lw
namespace Go.Proofs.YteicdopggikieaaDoor
open Go Go.Lw
def bs (l : List UInt8) : ByteArray := ⟨l.toArray⟩
theorem bs_list (l : List UInt8) : (bs l).data.toList = l := by simp [bs]
theorem bs_of (s : ByteArray) : bs s.data.toList = s := by simp [bs]
theorem bs_size (l : List UInt8) : (bs l).size = l.length := by simp [bs, ByteArray.size]
theorem bs_append (l m : List UInt8) : bs l ++ bs m = bs (l ++ m) := by
 apply ByteArray.ext
 simp [bs]
theorem bs_inj {l m : List UInt8} (h : bs l = bs m) : l = m := by have := congrArg (fun x => x.data.toList) h; simpa [bs] using this
theorem bs_eq (l m : List UInt8) : decide (bs l = bs m) = decide (l = m) := by
 rw [decide_eq_decide]; exact ⟨bs_inj, fun h => by rw [h]⟩
theorem bs_nil (l : List UInt8) : decide (bs l = (⟨#[]⟩ : ByteArray)) = decide (l = []) := bs_eq l []
theorem bs_at {l : List UInt8} {i : Nat} {c : UInt8} (h : l[i]? = some c) : (bs l).data[i]? = some c := by simpa [bs] using h
theorem bs_drop (l : List UInt8) (i : Nat) : (bs l).extract i (bs l).size = bs (l.drop i) := by
 apply ByteArray.ext
 apply Array.ext'
 rw [ByteArray.data_extract, Array.toList_extract, List.extract_eq_take_drop]
 rw [bs_size]
 simp only [bs]
 exact List.take_of_length_le (by simp)
theorem u8_is {c : UInt8} {k : Nat} {d : UInt8} (hd : d.toNat = k) : (((c.toNat : Nat) : Int) = (k : Int)) ↔ c = d := by
 subst hd
 exact ⟨fun e => UInt8.toNat_inj.1 (by omega), fun e => by rw [e]⟩
end Go.Proofs.YteicdopggikieaaDoor
