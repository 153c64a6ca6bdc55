/- What the proof of the statement leans on (part 18). -/
import Derived.Deep.Fields
import Derived.OpenShut
import Derived.Test.YteicdopggikieaaDoorQq

namespace Go.Lw
open Go.ChangeShapes Go.WideShapes Go.ChangeAt Go.RowKit
variable {H : Type} {enc : TypeId × Value → H} {P : Program}
theorem trod_str_lit {W : World} {base fuel : Nat} {sp : Nat → Bool} {held : Bool} {t : TypeId} {cs : List Value} {l : List UInt8} {pl : List MemPlace} (ht : P.underlying t = some .string)
 (h : DataW.trod enc P W base sp held fuel t cs = some (.lit (.string l), pl)) : cs = [.string ⟨l.toArray⟩] := by
 cases fuel with
 | zero => simp [DataW.trod] at h
 | succ n =>
  rw [DataW.trod_step] at h
  unfold DataW.trodStep at h
  rw [ht] at h
  split at h <;> try (first | cases h | (simp at *; done))
  rename_i s _ _
  split at h
  · simp only [Option.some.injEq, Prod.mk.injEq, DataW.lit.injEq, Lit.string.injEq] at h
    rw [← h.1]
  · cases h
theorem trod_int_lit {W : World} {base fuel : Nat} {sp : Nat → Bool} {held : Bool} {t : TypeId} {k k' : IntKind} {cs : List Value} {i : Int} {pl : List MemPlace} (ht : P.underlying t = some (.int k))
 (h : DataW.trod enc P W base sp held fuel t cs = some (.lit (.int k' i), pl)) : cs = [.int k i] := by
 cases fuel with
 | zero => simp [DataW.trod] at h
 | succ n =>
  rw [DataW.trod_step] at h
  unfold DataW.trodStep at h
  rw [ht] at h
  split at h <;> simp_all
def encSII (r : List UInt8 × Int × Int) : List Value := [.string ⟨r.1.toArray⟩, .int .i64 r.2.1, .int .i64 r.2.2]
def eSII : Elt (List UInt8 × Int × Int) := .record 3 (by decide) encSII (fun _ => rfl) (fun x v hv => by simp [encSII] at hv; rcases hv with rfl | rfl | rfl <;> rfl)
def dataSII (r : List UInt8 × Int × Int) : DataW H := .agg [.lit (.string r.1), .lit (.int .i64 r.2.1), .lit (.int .i64 r.2.2)]
end Go.Lw
