/- What the proof of the statement leans on (part 18). -/
import Derived.Deep.Fields
import Derived.OpenShut
import Derived.Test.YteicdopggikieaaDoorQq

namespace Go.Lw
open Go.ChangeShapes Go.WideShapes Go.ChangeAt Go.RowKit
variable {H : Type} {enc : TypeId × Value → H} {P : Program}
theorem choose_list {α : Type} {n : Nat} {p : Nat → α → Prop} (h : ∀ i, i < n → ∃ x, p i x) : ∃ l : List α, l.length = n ∧ ∀ i x, l[i]? = some x → p i x := by
 induction n with
 | zero => exact ⟨[], rfl, fun i x hx => by simp at hx⟩
 | succ n ih =>
  obtain ⟨l, hl, hp⟩ := ih (fun i hi => h i (by omega))
  obtain ⟨x, hx⟩ := h n (by omega)
  refine ⟨l ++ [x], by simp [hl], fun i y hy => ?_⟩
  rcases Nat.lt_or_ge i n with hi | hi
  · rw [List.getElem?_append_left (by omega)] at hy; exact hp i y hy
  · rw [List.getElem?_append_right (by omega), hl] at hy
    have : i = n := by
     rcases Nat.lt_or_ge (i - n) 1 with h1 | h1
     · omega
     · rw [List.getElem?_eq_none (by simpa using h1)] at hy; cases hy
    subst this
    simp at hy; subst hy; exact hx
end Go.Lw
namespace Go.Lw
open Go.ChangeShapes Go.WideShapes Go.ChangeAt Go.RowKit
variable {H : Type} {enc : TypeId × Value → H} {P : Program}
theorem trod_fields {W : World} {base n : Nat} {t : TypeId} {fs : Array Field} {cs : List Value} {sp : Nat → Bool} {held : Bool} {y : DataW H × List MemPlace} (ht : P.underlying t = some (.struct fs)) (h : DataW.trod enc P W base sp held n t cs = some y) :
 ∃ k, ∀ (i : Nat) (f : Field), fs[i]? = some f → ∃ z, DataW.trod enc P W base sp held k f.type ((cs.drop f.offset).take (P.cellsOf f.type)) = some z := by
 obtain ⟨xs, k, _, _, _, hxl, hfl⟩ := DataW.trod_struct ht h
 refine ⟨k, fun i f hf => ?_⟩
 have g := hfl i f hf
 have hi : i < fs.size := (Array.getElem?_eq_some_iff.1 hf).1
 rw [List.getElem?_eq_getElem (by omega)] at g
 exact ⟨_, g⟩
theorem read_deeps {α : Type} {sz : Nat} {pos : 0 < sz} {en : α → List Value} {hl : ∀ x, (en x).length = sz} {h1 : ∀ x, ∀ v ∈ en x, v.oneCell' = true} {Q : α → Prop}
 {W : World} {base : Nat} {t e : TypeId} {fs : Array Field} {v : Value} {d : DataW H} {p : List MemPlace} (ht : P.underlying t = some (.slice e)) (he : P.underlying e = some (.struct fs))
 (hC : P.cellsOf e = sz)
 (rd : ∀ (cs : List Value) (n : Nat), cs.length = sz → (∀ (i : Nat) (f : Field), fs[i]? = some f → ∃ y, DataW.trod enc P W 0 (fun _ => true) true n f.type ((cs.drop f.offset).take (P.cellsOf f.type)) = some y) → ∃ x : α, cs = en x ∧ Q x)
 (hv : Value.okWide P W .any base t v) (h : DataW.Trod enc P W 0 (fun _ => true) true t v d p) : ∃ l : List α, SlR (.record sz pos en hl h1) W.heap (fun _ => False) v l ∧ ∀ x ∈ l, Q x := by
 obtain ⟨a0, len, cap, rfl⟩ := okWide_slice ht hv
 obtain ⟨fuel, hf⟩ := h
 rcases Deep.open_slice ht hf with ⟨hcs, hx⟩ | ⟨a, len', cap', m, n, D, Pl, hcs, _, hle, hm, hmm, hx, hel⟩
 · simp [Value.cells] at hcs
   obtain ⟨rfl, rfl, rfl⟩ := hcs
   exact ⟨[], SlR.nil _ _ _, by simp⟩
 · simp [Value.cells] at hcs
   obtain ⟨rfl, rfl, rfl⟩ := hcs
   simp only [if_true] at hmm
   subst hmm
   have hspot0 : 0 < len → a.spot = none := fun h0 => by
    obtain ⟨cs', hc1, hc2⟩ := hel 0 (by omega)
    rw [hC] at hc1
    obtain ⟨_, hlen, hcell⟩ := World.cells?_some hc1
    have h0 := hcell 0 (by omega)
    rw [List.getElem?_eq_getElem (by omega)] at h0
    simpa [Addr.add] using World.cell?_spot h0
   obtain ⟨l, hll, hlp⟩ := choose_list (n := len) (p := fun i (x : α) => (∃ b o, a = ⟨b, o, none⟩ ∧ rowAt W.heap b (o + i * sz) (en x)) ∧ Q x) (fun i hi => by
    obtain ⟨cs', hc1, hc2⟩ := hel i (by omega)
    rw [hC] at hc1
    obtain ⟨_, hlen, hcell⟩ := World.cells?_some hc1
    obtain ⟨k, hk⟩ := trod_fields he hc2
    obtain ⟨x, hxe, hQ⟩ := rd cs' k hlen hk
    refine ⟨x, ?_, hQ⟩
    obtain ⟨b, o, spot⟩ := a
    have hspot : spot = none := hspot0 (by omega)
    subst hspot
    refine ⟨b, o, rfl, fun j u hj => ?_⟩
    have hjl : j < sz := by
     rcases Nat.lt_or_ge j sz with h2 | h2
     · exact h2
     · rw [List.getElem?_eq_none (by rw [hl]; exact h2)] at hj; cases hj
    have := hcell j hjl
    rw [Deep.add_add, Addr.add_mid, cell_heap, hxe, hj] at this
    rw [Nat.add_assoc]; exact this)
   refine ⟨l, ⟨some a, len, _, rfl, hll, hle, hm, fun i x hx => ?_⟩, fun x hx => ?_⟩
   · obtain ⟨⟨b, o, ha, hr⟩, _⟩ := hlp i x hx
     exact ⟨b, o, en x, by rw [ha], fun k => k, hr, rfl⟩
   · obtain ⟨i, hi⟩ := List.getElem?_of_mem hx
     exact (hlp i x hi).2
end Go.Lw
namespace Go.Lw
open Go.ChangeShapes Go.WideShapes Go.ChangeAt Go.RowKit
variable {H : Type} {enc : TypeId × Value → H} {P : Program}
theorem trod_str_lit {W : World} {base fuel : Nat} {sp : Nat → Bool} {held : Bool} {t : TypeId} {cs : List Value} {l : List UInt8} {pl : List MemPlace} (ht : P.underlying t = some .string)
 (h : DataW.trod enc P W base sp held fuel t cs = some (.lit (.string l), pl)) : cs = [.string ⟨l.toArray⟩] := by
 cases fuel with
 | zero => simp [DataW.trod] at h
 | succ n =>
  rw [DataW.trod_step] at h
  unfold DataW.trodStep at h
  rw [ht] at h
  split at h <;> try (first | cases h | (simp at *; done))
  rename_i s _ _
  split at h
  · simp only [Option.some.injEq, Prod.mk.injEq, DataW.lit.injEq, Lit.string.injEq] at h
    rw [← h.1]
  · cases h
theorem trod_int_lit {W : World} {base fuel : Nat} {sp : Nat → Bool} {held : Bool} {t : TypeId} {k k' : IntKind} {cs : List Value} {i : Int} {pl : List MemPlace} (ht : P.underlying t = some (.int k))
 (h : DataW.trod enc P W base sp held fuel t cs = some (.lit (.int k' i), pl)) : cs = [.int k i] := by
 cases fuel with
 | zero => simp [DataW.trod] at h
 | succ n =>
  rw [DataW.trod_step] at h
  unfold DataW.trodStep at h
  rw [ht] at h
  split at h <;> simp_all
def encSII (r : List UInt8 × Int × Int) : List Value := [.string ⟨r.1.toArray⟩, .int .i64 r.2.1, .int .i64 r.2.2]
def eSII : Elt (List UInt8 × Int × Int) := .record 3 (by decide) encSII (fun _ => rfl) (fun x v hv => by simp [encSII] at hv; rcases hv with rfl | rfl | rfl <;> rfl)
def dataSII (r : List UInt8 × Int × Int) : DataW H := .agg [.lit (.string r.1), .lit (.int .i64 r.2.1), .lit (.int .i64 r.2.2)]
end Go.Lw
