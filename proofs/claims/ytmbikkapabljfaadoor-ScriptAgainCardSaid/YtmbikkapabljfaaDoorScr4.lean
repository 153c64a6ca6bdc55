/- script.number and limnerref27.number. -/
import Derived.Test.YtmbikkapabljfaaDoorScr3
namespace Go.Proofs.YtmbikkapabljfaaDoor
open Go Go.Lw
set_option maxRecDepth 20000

theorem numP_fst_range (w : Bs) {v : Int} (h : Lib.atoiAll w = .ok v) : (numP w).1 = v ∧ -9223372036854775808 ≤ v ∧ v ≤ 9223372036854775807 := by
  have := Lib.atoiAll_bounds h
  unfold numP
  rw [h]
  exact ⟨rfl, by omega, by omega⟩

theorem eq_bs (s : ByteArray) (l : Bs) : decide (bs l = s) = decide (l = s.data.toList) := by
  rw [← bs_of s, bs_eq, bs_of]

theorem numberP_calls {h : Heap} (hg : Glob h) (w : ByteArray) (hw : w.size ≤ 1000000000) :
    CallsH Tryd.prog 43 #[.string w] h (Ret fun r h' => r = .tuple #[.int .i64 (numP w.data.toList).1, .bool (numP w.data.toList).2] ∧ Ext0 h h') := by
  refine CallsH.of Tryd.func43 rfl rfl ?_
  refine G.seq rfl ?_
  refine G.reg Tryd.func43 rfl ?_
  refine RW.pureS rfl rfl rfl rfl (OpP.assign rfl) ?_
  refine RW.pureS rfl rfl rfl rfl (OpP.assign rfl) ?_
  refine RW.done rfl ?_
  refine G.sub (ρ' := [(0, _), (2, _), (3, _)]) ⟨rfl, rfl, rfl, trivial⟩ ?_
  refine G.seq rfl ?_
  refine G.reg Tryd.func43 rfl ?_
  refine RW.pureS rfl rfl rfl rfl (OpP.move rfl) ?_
  refine RW.opS rfl rfl rfl rfl (OpX.call (vs := [_]) Tryd.func69 rfl H.nm69 rfl (CallsH.toX (atoi_calls hg w hw))) ?_
  rintro _ h1 ⟨⟨ev, rfl, hev⟩, he1⟩
  refine RW.pureS rfl rfl rfl rfl (OpP.move rfl) ?_
  refine RW.pureS rfl rfl rfl rfl (OpP.extract rfl rfl) ?_
  refine RW.pureS rfl rfl rfl rfl (OpP.extract rfl rfl) ?_
  refine RW.pureS rfl rfl rfl rfl (OpP.assign rfl) ?_
  refine RW.pureS rfl rfl rfl rfl (OpP.assign rfl) ?_
  refine RW.done rfl ?_
  refine G.sub (ρ' := [(0, _), (2, _), (3, _), (4, _), (5, _)]) ⟨rfl, rfl, rfl, rfl, rfl, trivial⟩ ?_
  refine G.seq rfl ?_
  have hev' : ev = .nilIface ∨ ∃ tx vx, ev = .iface tx vx := by
    rcases hev with ⟨_, _, rfl⟩ | ⟨_, t, p, rfl⟩
    · exact .inl rfl
    · exact .inr ⟨t, p, rfl⟩
  refine G.regToX (fun (_u : Unit) (h' : Heap) => Ext0 h h') (fun (_u : Unit) => [(2, .int .i64 (numP w.data.toList).1), (3, .bool (numP w.data.toList).2)]) [(0, _), (4, _), (5, _)] ⟨rfl, rfl, rfl, trivial⟩ Tryd.func43 rfl ?_ ?_
  · refine RW.pureS rfl rfl rfl rfl (OpP.move rfl) ?_
    refine RW.pureS rfl rfl rfl rfl (OpP.move rfl) ?_
    refine RW.pureS rfl rfl rfl rfl (OpP.eqlIface Tryd.underlying68 rfl hev') ?_
    refine RW.pureS rfl rfl rfl rfl (OpP.move rfl) ?_
    refine RW.split (d := 14) rfl (fun hn => ?_) (fun hn => ?_)
    · obtain ⟨v, hv⟩ : ∃ v, Lib.atoiAll w.data.toList = .ok v := by
        rcases hev with ⟨v, hv, _⟩ | ⟨_, t, p, rfl⟩
        · exact ⟨v, hv⟩
        · cases hn
      obtain ⟨e1, hr⟩ := numP_fst_range _ hv
      refine RW.pureS rfl rfl rfl rfl (OpP.move rfl) ?_
      refine RW.opS rfl rfl rfl rfl (OpX.call (vs := [_]) Tryd.func25 rfl H.nm25 rfl (CallsH.toX (itoa_calls (hg.ext0 he1) (numP w.data.toList).1 (by rw [e1]; exact hr)))) ?_
      rintro _ h2 ⟨rfl, he2⟩
      refine RW.pureS rfl rfl rfl rfl (OpP.move rfl) ?_
      refine RW.pureS rfl rfl rfl rfl (OpP.eqlStr rfl rfl) ?_
      refine RW.pureS rfl rfl rfl rfl (OpP.pickT rfl rfl) ?_
      refine RW.pureS rfl rfl rfl rfl (OpP.assign rfl) ?_
      refine RW.pureS rfl rfl rfl rfl (OpP.assign rfl) ?_
      refine RW.done rfl ?_
      exact ⟨(), he1.trans he2, rfl, at_bool rfl (by rw [e1]; show decide (bs (Lib.itoa v) = w) = _; rw [eq_bs]; unfold numP; rw [hv]), rfl, rfl, rfl, trivial⟩
    · have hv : ∀ v, Lib.atoiAll w.data.toList ≠ .ok v := by
        rcases hev with ⟨v, hv, rfl⟩ | ⟨hv, _⟩
        · cases hn
        · exact hv
      refine RW.skipS rfl rfl rfl rfl ?_
      refine RW.skipS rfl rfl rfl rfl ?_
      refine RW.skipS rfl rfl rfl rfl ?_
      refine RW.skipS rfl rfl rfl rfl ?_
      refine RW.pureS rfl rfl rfl rfl (OpP.pickF rfl rfl) ?_
      refine RW.pureS rfl rfl rfl rfl (OpP.assign rfl) ?_
      refine RW.pureS rfl rfl rfl rfl (OpP.assign rfl) ?_
      refine RW.done rfl ?_
      exact ⟨(), he1, rfl, at_bool rfl (by unfold numP; exact match ha : Lib.atoiAll w.data.toList with | .ok v => absurd ha (hv v) | .syntax => rfl | .range => rfl), rfl, rfl, rfl, trivial⟩
  · rintro _ h2 he2
    refine G.ret Tryd.func43 rfl rfl ?_
    exact ⟨_, rfl, rfl, he2⟩

end Go.Proofs.YtmbikkapabljfaaDoor
