/- limner/history.Find and its reference. -/
import Derived.Test.YtoddkkjkhfdehaaHist2
import Derived.Test.YtoddkkjkhfdehaaShelf
namespace Go.Proofs.Ytoddkkjkhfdehaa
open Go Go.Lw

/-- Where a text stands last in another one; below 0: nowhere. -/
def lastAt (s t : ByteArray) : Int := Lib.lastIndex s.data.toList t.data.toList

/-- Among the first k entries: the last one that has the text. -/
def findDown (l : List ByteArray) (t : ByteArray) : Nat → Option (Int × Int)
  | 0 => none
  | k + 1 => if 0 ≤ lastAt (l.getD k noText) t then some (k, lastAt (l.getD k noText) t) else findDown l t k

/-- How many entries there are up to one. -/
def upToN (n : Nat) (upto : Int) : Nat := if (n : Int) - 1 < upto then n else (upto + 1).toNat

def findH (l : List ByteArray) (t : ByteArray) (upto : Int) : Option (Int × Int) := if t = noText then none else findDown l t (upToN l.length upto)

def foundV : Option (Int × Int) → Value
  | none => .tuple #[.int .i64 0, .int .i64 0, .bool false]
  | some (i, a) => .tuple #[.int .i64 i, .int .i64 a, .bool true]

theorem lastAt_calls {h : Heap} (s t : ByteArray) (hs : s.size ≤ 1000000) : CallsH Try.prog 12 #[.string s, .string t] h (Ret fun r h' => r = .int .i64 (lastAt s t) ∧ h' = h) :=
  CallsH.ofCalls fun w => Try.strings_LastIndex s t (by omega) w

theorem find_calls {h : Heap} {O : Nat → Prop} {v : Value} {l : List ByteArray} {t : ByteArray} (upto : Int) (hu : -9223372036854775808 ≤ upto ∧ upto ≤ 9223372036854775807) (hv : SlR .str h O v l) (hl : l.length ≤ 1000000) (hls : ∀ x ∈ l, x.size ≤ 1000000) :
    CallsH Try.prog 10 #[v, .string t, .int .i64 upto] h (Ret fun r h' => r = foundV (findH l t upto) ∧ h' = h) := by
  obtain ⟨oa, n, c, rfl, hsl⟩ := hv.open
  have hn := hsl.len
  refine CallsH.of Try.func10 rfl rfl ?_
  refine G.seq rfl ?_
  refine G.reg Try.func10 rfl ?_
  refine RW.pureS rfl rfl rfl rfl (OpP.assign rfl) ?_
  refine RW.pureS rfl rfl rfl rfl (OpP.assign rfl) ?_
  refine RW.pureS rfl rfl rfl rfl (OpP.assign rfl) ?_
  refine RW.done rfl ?_
  refine G.sub (ρ' := [(0, _), (1, _), (2, _), (6, _), (7, _), (8, _)]) ⟨rfl, rfl, rfl, rfl, rfl, rfl, trivial⟩ ?_
  refine G.seq rfl ?_
  refine G.seq rfl ?_
  refine G.reg Try.func10 rfl ?_
  refine RW.pureS rfl rfl rfl rfl (OpP.move rfl) ?_
  refine RW.pureS rfl rfl rfl rfl (OpP.eqlStr rfl rfl) ?_
  refine RW.done rfl ?_
  refine G.sub (ρ' := [(0, _), (1, _), (2, _), (6, _), (7, _), (8, _), (12, _)]) ⟨rfl, rfl, rfl, rfl, rfl, rfl, rfl, trivial⟩ ?_
  refine G.ite rfl rfl (fun ht => ?_) (fun ht => ?_)
  · refine G.seq rfl ?_
    refine G.reg Try.func10 rfl ?_
    refine RW.pureS rfl rfl rfl rfl (OpP.assign rfl) ?_
    refine RW.pureS rfl rfl rfl rfl (OpP.assign rfl) ?_
    refine RW.pureS rfl rfl rfl rfl (OpP.assign rfl) ?_
    refine RW.done rfl ?_
    refine G.sub (ρ' := [(0, _), (1, _), (2, _), (6, _), (7, _), (8, _), (12, _)]) ⟨rfl, rfl, rfl, rfl, rfl, rfl, rfl, trivial⟩ ?_
    refine G.ret Try.func10 rfl rfl ?_
    exact ⟨_, rfl, by unfold findH; rw [if_pos (by exact ht)]; rfl, rfl⟩
  · have hf : findH l t upto = findDown l t (upToN n upto) := by unfold findH; rw [if_neg (by exact ht), hn]
    have hu2 := hu.2
    have hu1 := hu.1
    refine G.skip rfl ?_
    refine G.seq rfl ?_
    refine G.seq rfl ?_
    refine G.reg Try.func10 rfl ?_
    refine RW.pureS rfl rfl rfl rfl (OpP.move rfl) ?_
    refine RW.pureS rfl rfl rfl rfl (OpP.move rfl) ?_
    refine RW.pureS rfl rfl rfl rfl (OpP.lenSlice Try.underlying22 rfl) ?_
    refine RW.pureS rfl rfl rfl rfl (OpP.sub64 rfl rfl ⟨by omega, by omega⟩) ?_
    refine RW.pureS rfl rfl rfl rfl (OpP.min2 rfl rfl) ?_
    refine RW.pureS rfl rfl rfl rfl (OpP.assign rfl) ?_
    refine RW.done rfl ?_
    refine G.sub (ρ' := [(0, _), (1, _), (2, _), (6, _), (7, _), (8, _), (9, _), (12, _)]) ⟨rfl, rfl, rfl, rfl, rfl, rfl, rfl, rfl, trivial⟩ ?_
    refine G.block rfl rfl ?_
    refine G.loop (σ := Int) (fun i => [(0, .slice oa n c), (1, .string t), (9, .int .i64 i)]) (fun i h' => h' = h ∧ i ≤ (n : Int) - 1 ∧ -9223372036854775808 ≤ i ∧ findDown l t (i + 1).toNat = findDown l t (upToN n upto)) (fun i => (i + 1).toNat) ((if ((n : Int) - 1) < upto then (n : Int) - 1 else upto)) rfl ⟨rfl, rfl, rfl, trivial⟩ ⟨rfl, by split <;> omega, by split <;> omega, by unfold upToN; split <;> congr 1; omega⟩ ?_
    rintro i h1 ⟨rfl, hi, hi1, hfd⟩ ih
    refine G.seq rfl ?_
    refine G.seq rfl ?_
    refine G.reg Try.func10 rfl ?_
    refine RW.pureS rfl rfl rfl rfl (OpP.move rfl) ?_
    refine RW.pureS rfl rfl rfl rfl (OpP.geq rfl rfl) ?_
    refine RW.done rfl ?_
    refine G.sub (ρ' := [(0, _), (1, _), (9, _), (19, _)]) ⟨rfl, rfl, rfl, rfl, trivial⟩ ?_
    refine G.ite rfl rfl (fun h0 => ?_) (fun h0 => ?_)
    · obtain ⟨k, rfl⟩ := Int.eq_ofNat_of_zero_le h0
      have hkn : k < n := by omega
      obtain ⟨b, o, x, ha, _, hx, hcell⟩ := hsl.at hkn
      have hg : l.getD k noText = x := by simp [List.getD, hx]
      have hstep : findDown l t (k + 1) = if 0 ≤ lastAt x t then some ((k : Int), lastAt x t) else findDown l t k := by rw [findDown, hg]
      rw [show ((k : Int) + 1).toNat = k + 1 from by omega, hstep] at hfd
      refine G.skip rfl ?_
      refine G.seq rfl ?_
      refine G.block rfl rfl ?_
      refine G.seq rfl ?_
      refine G.reg Try.func10 rfl ?_
      refine RW.pureS rfl rfl rfl rfl (OpP.move rfl) ?_
      refine RW.pureS rfl rfl rfl rfl (OpP.move rfl) ?_
      refine RW.pureS rfl rfl rfl rfl (OpP.indexSlice Try.underlying22 H.sz9 rfl rfl k rfl ha hkn) ?_
      refine RW.pureS rfl rfl rfl rfl (OpP.load H.ag9 rfl hcell) ?_
      refine RW.pureS rfl rfl rfl rfl (OpP.move rfl) ?_
      refine RW.opS rfl rfl rfl rfl (OpX.call (vs := [_, _]) Try.func12 rfl H.nm12 rfl (CallsH.toX (lastAt_calls x t (hls x (List.mem_of_getElem? hx))))) ?_
      rintro _ _ ⟨rfl, rfl⟩
      refine RW.pureS rfl rfl rfl rfl (OpP.assign rfl) ?_
      refine RW.done rfl ?_
      refine G.sub (ρ' := [(0, _), (1, _), (9, _), (10, _), (19, _)]) ⟨rfl, rfl, rfl, rfl, rfl, trivial⟩ ?_
      refine G.seq rfl ?_
      refine G.reg Try.func10 rfl ?_
      refine RW.pureS rfl rfl rfl rfl (OpP.move rfl) ?_
      refine RW.pureS rfl rfl rfl rfl (OpP.geq rfl rfl) ?_
      refine RW.done rfl ?_
      refine G.sub (ρ' := [(0, _), (1, _), (9, _), (10, _), (19, _), (29, _)]) ⟨rfl, rfl, rfl, rfl, rfl, rfl, trivial⟩ ?_
      refine G.ite rfl rfl (fun hat => ?_) (fun hat => ?_)
      · refine G.seq rfl ?_
        refine G.reg Try.func10 rfl ?_
        refine RW.pureS rfl rfl rfl rfl (OpP.move rfl) ?_
        refine RW.pureS rfl rfl rfl rfl (OpP.move rfl) ?_
        refine RW.pureS rfl rfl rfl rfl (OpP.assign rfl) ?_
        refine RW.pureS rfl rfl rfl rfl (OpP.assign rfl) ?_
        refine RW.pureS rfl rfl rfl rfl (OpP.assign rfl) ?_
        refine RW.done rfl ?_
        refine G.sub (ρ' := [(0, _), (1, _), (6, _), (7, _), (8, _), (9, _), (10, _), (19, _), (29, _)]) ⟨rfl, rfl, rfl, rfl, rfl, rfl, rfl, rfl, rfl, trivial⟩ ?_
        refine G.ret Try.func10 rfl rfl ?_
        rw [if_pos hat] at hfd
        exact ⟨_, rfl, by rw [hf, ← hfd]; rfl, rfl⟩
      · refine G.skip rfl ?_
        refine G.blkEnd ?_
        refine G.reg Try.func10 rfl ?_
        refine RW.pureS rfl rfl rfl rfl (OpP.move rfl) ?_
        refine RW.pureS rfl rfl rfl rfl (OpP.sub64 rfl rfl ⟨by omega, by omega⟩) ?_
        refine RW.pureS rfl rfl rfl rfl (OpP.assign rfl) ?_
        refine RW.done rfl ?_
        refine G.sub (ρ' := [(0, _), (1, _), (9, _), (10, _), (19, _), (29, _)]) ⟨rfl, rfl, rfl, rfl, rfl, rfl, trivial⟩ ?_
        rw [if_neg hat] at hfd
        exact ih ((k : Int) - 1) _ _ ⟨rfl, rfl, rfl, trivial⟩ ⟨rfl, by omega, by omega, by rw [← hfd]; congr 1; omega⟩ (by show ((k : Int) - 1 + 1).toNat < ((k : Int) + 1).toNat; omega)
    · refine G.exit rfl rfl ?_
      refine G.seq rfl ?_
      refine G.reg Try.func10 rfl ?_
      refine RW.pureS rfl rfl rfl rfl (OpP.assign rfl) ?_
      refine RW.pureS rfl rfl rfl rfl (OpP.assign rfl) ?_
      refine RW.pureS rfl rfl rfl rfl (OpP.assign rfl) ?_
      refine RW.done rfl ?_
      refine G.sub (ρ' := [(0, _), (1, _), (6, _), (7, _), (8, _), (9, _), (19, _)]) ⟨rfl, rfl, rfl, rfl, rfl, rfl, rfl, trivial⟩ ?_
      refine G.ret Try.func10 rfl rfl ?_
      have : (i + 1).toNat = 0 := by omega
      rw [this] at hfd
      exact ⟨_, rfl, by rw [hf, ← hfd]; rfl, rfl⟩

end Go.Proofs.Ytoddkkjkhfdehaa
