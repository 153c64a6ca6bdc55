/- limnerlaw20.entered and HistoryTell. -/
import Derived.Test.YtoddkkjkhfdehaaHist4
namespace Go.Proofs.Ytoddkkjkhfdehaa
open Go Go.Lw

theorem find_is {h : Heap} {O : Nat → Prop} {v : Value} {l : List ByteArray} {t : ByteArray} (upto : Int) (hu : -9223372036854775808 ≤ upto ∧ upto ≤ 9223372036854775807) (hv : SlR .str h O v l) (hl : l.length ≤ 1000000) (hls : ∀ x ∈ l, x.size ≤ 1000000)
    {f : Option (Int × Int)} (e : findH l t upto = f) : CallsH Try.prog 10 #[v, .string t, .int .i64 upto] h (Ret fun r h' => r = foundV f ∧ h' = h) :=
  (find_calls upto hu hv hl hls).ret fun _ _ ⟨ho, he⟩ => ⟨by rw [ho, e], he⟩

def ex3 : List ByteArray := [⟨#[97, 98]⟩, ⟨#[98, 97]⟩, ⟨#[97, 98]⟩]

theorem entered_calls (h : Heap) : CallsH Try.prog 6 #[] h (Ret fun r h' => r = .bool true ∧ Ext0 h h') := by
  have e1 : findH ex3 ⟨#[98]⟩ 9 = some (2, 1) := by decide +kernel
  have e2 : findH ex3 ⟨#[98]⟩ 1 = some (1, 0) := by decide +kernel
  have e3 : findH ex3 ⟨#[99]⟩ 9 = none := by decide +kernel
  have e4 : (addH ex3 ⟨#[97, 98]⟩).length = 3 := by decide +kernel
  have e5 : (addH ex3 ⟨#[99]⟩).length = 4 := by decide +kernel
  have hz : ∀ x ∈ ex3, x.size ≤ 1000000 := by decide +kernel
  have hl3 : ex3.length ≤ 1000000 := by decide
  refine CallsH.of Try.func6 rfl rfl ?_
  have hp := Ext.push (fun _ => False) h (.cells [Value.string ⟨#[97, 98]⟩, Value.string ⟨#[98, 97]⟩, Value.string ⟨#[97, 98]⟩].toArray 9)
  have hv : SlR .str _ nobody _ ex3 := made_read (h := h) (us := ex3) (n := 3) rfl (by decide)
  refine G.seq rfl ?_
  refine G.reg Try.func6 rfl ?_
  refine RW.pureS rfl rfl rfl rfl (OpP.assign rfl) ?_
  refine RW.done rfl ?_
  refine G.sub (ρ' := [(0, _)]) ⟨rfl, trivial⟩ ?_
  refine G.seq rfl ?_
  refine G.reg Try.func6 rfl ?_
  refine RW.opS rfl rfl rfl rfl (OpX.buildOnes (us := [_, _, _]) Try.underlying22 H.el9 rfl rfl (by decide) (by simp [Value.oneCell'])) ?_
  rintro _ _ ⟨rfl, rfl⟩
  refine RW.pureS rfl rfl rfl rfl (OpP.assign rfl) ?_
  refine RW.done rfl ?_
  refine G.sub (ρ' := [(0, _), (1, _)]) ⟨rfl, rfl, trivial⟩ ?_
  refine G.seq rfl ?_
  refine G.reg Try.func6 rfl ?_
  refine RW.pureS rfl rfl rfl rfl (OpP.move rfl) ?_
  refine RW.opS rfl rfl rfl rfl (OpX.call (vs := [_, _, _]) Try.func10 rfl H.nm10 rfl (CallsH.toX (find_is 9 (by omega) hv hl3 hz e1))) ?_
  rintro _ _ ⟨rfl, rfl⟩
  refine RW.pureS rfl rfl rfl rfl (OpP.move rfl) ?_
  refine RW.pureS rfl rfl rfl rfl (OpP.extract rfl rfl) ?_
  refine RW.pureS rfl rfl rfl rfl (OpP.extract rfl rfl) ?_
  refine RW.pureS rfl rfl rfl rfl (OpP.extract rfl rfl) ?_
  refine RW.pureS rfl rfl rfl rfl (OpP.assign rfl) ?_
  refine RW.pureS rfl rfl rfl rfl (OpP.assign rfl) ?_
  refine RW.pureS rfl rfl rfl rfl (OpP.assign rfl) ?_
  refine RW.done rfl ?_
  refine G.sub (ρ' := [(0, _), (1, _), (2, _), (3, _), (4, _)]) ⟨rfl, rfl, rfl, rfl, rfl, trivial⟩ ?_
  refine G.seq rfl ?_
  refine G.reg Try.func6 rfl ?_
  refine RW.pureS rfl rfl rfl rfl (OpP.move rfl) ?_
  refine RW.opS rfl rfl rfl rfl (OpX.call (vs := [_, _, _]) Try.func10 rfl H.nm10 rfl (CallsH.toX (find_is 1 (by omega) hv hl3 hz e2))) ?_
  rintro _ _ ⟨rfl, rfl⟩
  refine RW.pureS rfl rfl rfl rfl (OpP.move rfl) ?_
  refine RW.pureS rfl rfl rfl rfl (OpP.extract rfl rfl) ?_
  refine RW.pureS rfl rfl rfl rfl (OpP.extract rfl rfl) ?_
  refine RW.pureS rfl rfl rfl rfl (OpP.extract rfl rfl) ?_
  refine RW.pureS rfl rfl rfl rfl (OpP.assign rfl) ?_
  refine RW.pureS rfl rfl rfl rfl (OpP.assign rfl) ?_
  refine RW.pureS rfl rfl rfl rfl (OpP.assign rfl) ?_
  refine RW.done rfl ?_
  refine G.sub (ρ' := [(0, _), (1, _), (2, _), (3, _), (4, _), (5, _), (6, _), (7, _)]) ⟨rfl, rfl, rfl, rfl, rfl, rfl, rfl, rfl, trivial⟩ ?_
  refine G.seq rfl ?_
  refine G.reg Try.func6 rfl ?_
  refine RW.pureS rfl rfl rfl rfl (OpP.move rfl) ?_
  refine RW.opS rfl rfl rfl rfl (OpX.call (vs := [_, _, _]) Try.func10 rfl H.nm10 rfl (CallsH.toX (find_is 9 (by omega) hv hl3 hz e3))) ?_
  rintro _ _ ⟨rfl, rfl⟩
  refine RW.pureS rfl rfl rfl rfl (OpP.move rfl) ?_
  refine RW.pureS rfl rfl rfl rfl (OpP.extract rfl rfl) ?_
  refine RW.pureS rfl rfl rfl rfl (OpP.extract rfl rfl) ?_
  refine RW.pureS rfl rfl rfl rfl (OpP.extract rfl rfl) ?_
  refine RW.pureS rfl rfl rfl rfl (OpP.assign rfl) ?_
  refine RW.pureS rfl rfl rfl rfl (OpP.assign rfl) ?_
  refine RW.pureS rfl rfl rfl rfl (OpP.assign rfl) ?_
  refine RW.done rfl ?_
  refine G.sub (ρ' := [(0, _), (1, _), (2, _), (3, _), (4, _), (5, _), (6, _), (7, _), (10, _)]) ⟨rfl, rfl, rfl, rfl, rfl, rfl, rfl, rfl, rfl, trivial⟩ ?_
  refine G.seq rfl ?_
  refine G.regToX (fun (_u : Unit) (h' : Heap) => Ext0 h h') (fun (_u : Unit) => [(0, .bool true)]) [(1, _), (2, _), (3, _), (4, _), (5, _), (6, _), (7, _), (10, _)] ⟨rfl, rfl, rfl, rfl, rfl, rfl, rfl, rfl, trivial⟩ Try.func6 rfl ?_ ?_
  · refine RW.pureS rfl rfl rfl rfl (OpP.move rfl) ?_
    refine RW.pureS rfl rfl rfl rfl (OpP.eqlInt rfl rfl) ?_
    refine RW.pureS rfl rfl rfl rfl (OpP.move rfl) ?_
    refine RW.know (d := 32) (b' := true) rfl (rfl) ?_
    refine RW.pureS rfl rfl rfl rfl (OpP.move rfl) ?_
    refine RW.pureS rfl rfl rfl rfl (OpP.eqlInt rfl rfl) ?_
    refine RW.pureS rfl rfl rfl rfl (OpP.pickT rfl rfl) ?_
    refine RW.pureS rfl rfl rfl rfl (OpP.move rfl) ?_
    refine RW.know (d := 36) (b' := true) rfl (rfl) ?_
    refine RW.pureS rfl rfl rfl rfl (OpP.move rfl) ?_
    refine RW.pureS rfl rfl rfl rfl (OpP.pickT rfl rfl) ?_
    refine RW.pureS rfl rfl rfl rfl (OpP.move rfl) ?_
    refine RW.know (d := 39) (b' := true) rfl (rfl) ?_
    refine RW.pureS rfl rfl rfl rfl (OpP.move rfl) ?_
    refine RW.pureS rfl rfl rfl rfl (OpP.eqlInt rfl rfl) ?_
    refine RW.pureS rfl rfl rfl rfl (OpP.pickT rfl rfl) ?_
    refine RW.pureS rfl rfl rfl rfl (OpP.move rfl) ?_
    refine RW.know (d := 43) (b' := true) rfl (rfl) ?_
    refine RW.pureS rfl rfl rfl rfl (OpP.move rfl) ?_
    refine RW.pureS rfl rfl rfl rfl (OpP.eqlInt rfl rfl) ?_
    refine RW.pureS rfl rfl rfl rfl (OpP.pickT rfl rfl) ?_
    refine RW.pureS rfl rfl rfl rfl (OpP.move rfl) ?_
    refine RW.know (d := 47) (b' := true) rfl (rfl) ?_
    refine RW.pureS rfl rfl rfl rfl (OpP.move rfl) ?_
    refine RW.pureS rfl rfl rfl rfl (OpP.pickT rfl rfl) ?_
    refine RW.pureS rfl rfl rfl rfl (OpP.move rfl) ?_
    refine RW.know (d := 50) (b' := true) rfl (rfl) ?_
    refine RW.pureS rfl rfl rfl rfl (OpP.move rfl) ?_
    refine RW.pureS rfl rfl rfl rfl (OpP.notB rfl) ?_
    refine RW.pureS rfl rfl rfl rfl (OpP.pickT rfl rfl) ?_
    refine RW.pureS rfl rfl rfl rfl (OpP.move rfl) ?_
    refine RW.know (d := 54) (b' := true) rfl (rfl) ?_
    refine RW.pureS rfl rfl rfl rfl (OpP.move rfl) ?_
    refine RW.opS rfl rfl rfl rfl (OpX.call (vs := [_, _]) Try.func7 rfl H.nm7 rfl (CallsH.toX (histAdd_calls hv hl3))) ?_
    rintro _ h1 ⟨⟨o1, n1, c1, rfl, hw1⟩, he1⟩
    refine RW.pureS rfl rfl rfl rfl (OpP.lenSlice Try.underlying22 rfl) ?_
    refine RW.pureS rfl rfl rfl rfl (OpP.eqlInt rfl rfl) ?_
    refine RW.pureS rfl rfl rfl rfl (OpP.pickT rfl rfl) ?_
    refine RW.pureS rfl rfl rfl rfl (OpP.move rfl) ?_
    have hn1 := hw1.sl.len
    rw [e4] at hn1
    subst hn1
    refine RW.know (d := 60) (b' := true) rfl (rfl) ?_
    have hv2 := hv.ext0 he1
    refine RW.pureS rfl rfl rfl rfl (OpP.move rfl) ?_
    refine RW.opS rfl rfl rfl rfl (OpX.call (vs := [_, _]) Try.func7 rfl H.nm7 rfl (CallsH.toX (histAdd_calls hv2 hl3))) ?_
    rintro _ h2 ⟨⟨o2, n2, c2, rfl, hw2⟩, he2⟩
    refine RW.pureS rfl rfl rfl rfl (OpP.lenSlice Try.underlying22 rfl) ?_
    refine RW.pureS rfl rfl rfl rfl (OpP.eqlInt rfl rfl) ?_
    refine RW.pureS rfl rfl rfl rfl (OpP.pickT rfl rfl) ?_
    refine RW.pureS rfl rfl rfl rfl (OpP.assign rfl) ?_
    have hn2 := hw2.sl.len
    rw [e5] at hn2
    subst hn2
    refine RW.done rfl ?_
    exact ⟨(), hp.trans (he1.trans he2), rfl, rfl, rfl, rfl, rfl, rfl, rfl, rfl, rfl, trivial⟩
  · rintro _ h' he
    refine G.ret Try.func6 rfl rfl ?_
    exact ⟨_, rfl, rfl, he⟩

end Go.Proofs.Ytoddkkjkhfdehaa
