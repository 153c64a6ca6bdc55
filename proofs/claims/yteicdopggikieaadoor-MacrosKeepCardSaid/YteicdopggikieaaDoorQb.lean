/- What the proof of the statement leans on (part 2). -/
import Derived.Lib.IndexBytes
import Derived.Lib.Split
import Derived.Test.YteicdopggikieaaDoorQa

namespace Go.Proofs.YteicdopggikieaaDoor
open Go
def splitS (c : UInt8) : By → List By
 | [] => [[]]
 | b :: r => if b = c then [] :: splitS c r else match splitS c r with | [] => [[b]] | x :: xs => (b :: x) :: xs
theorem splitS_none {c : UInt8} : ∀ {s : By}, c ∉ s → splitS c s = [s]
 | [], _ => rfl
 | b :: r, h => by
  simp only [List.mem_cons, not_or] at h
  rw [splitS, if_neg (fun e => h.1 e.symm), splitS_none h.2]
theorem splitS_hit {c : UInt8} : ∀ {a : By} (r : By), c ∉ a → splitS c (a ++ c :: r) = a :: splitS c r
 | [], r, _ => by rw [List.nil_append, splitS, if_pos rfl]
 | b :: a, r, h => by
  simp only [List.mem_cons, not_or] at h
  rw [List.cons_append, splitS, if_neg (fun e => h.1 e.symm), splitS_hit r h.2]
def joinP : List By → By
 | [] => []
 | x :: xs => x ++ xs.flatMap fun y => 32 :: y
noncomputable def keyP (s : By) : Option Ky := open Classical in if h : ∃ k, mayP k = true ∧ wordK k = s then some h.choose else none
theorem keyP_word {k : Ky} (h : mayP k = true) : keyP (wordK k) = some k := by
 unfold keyP
 have he : ∃ k', mayP k' = true ∧ wordK k' = wordK k := ⟨k, h, rfl⟩
 rw [dif_pos he]
 exact congrArg some (word_inj he.choose_spec.1 h he.choose_spec.2)
theorem keyP_some {s : By} {k : Ky} (h : keyP s = some k) : mayP k = true ∧ wordK k = s := by
 unfold keyP at h
 split at h
 · rename_i he
   cases h
   exact he.choose_spec
 · cases h
theorem keyP_none {s : By} : keyP s = none ↔ ∀ k, mayP k = true → wordK k ≠ s := by
 constructor
 · intro h k hk e
   rw [← e, keyP_word hk] at h
   cases h
 · intro h
   cases hk : keyP s with
   | none => rfl
   | some k => have := keyP_some hk; exact absurd this.2 (h k this.1)
theorem keyP_nil : keyP [] = none := keyP_none.2 fun _ h => word_ne h
noncomputable def keyV (s : By) : Ky × Bool := match keyP s with | some k => (k, true) | none => ((0, 0, []), false)
theorem KeyR.val {s : By} {k : Ky} {ok : Bool} (h : KeyR s k ok) : keyV s = (k, ok) := by
 unfold keyV
 rcases h with ⟨rfl, h1, rfl⟩ | ⟨rfl, rfl, h3⟩
 · rw [keyP_word h1]
 · rw [keyP_none.2 h3]
def putK (ks : List Ky) : By := joinP ((ks.filter fun k => mayP k).map wordK)
noncomputable def getW : List By → Int → List Ky → List Ky × Int × Int
 | [], _, acc => (acc, 0, 0)
 | w :: ws, n, acc => match keyP w with | some k => getW ws (n + 1) (acc ++ [k]) | none => ([], n + 1, 10)
noncomputable def getK (s : By) : List Ky × Int × Int := if s = [] then ([], 0, 0) else getW (splitS 32 s) 0 []
end Go.Proofs.YteicdopggikieaaDoor
