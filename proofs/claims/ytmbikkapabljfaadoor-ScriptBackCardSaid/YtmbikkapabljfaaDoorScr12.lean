/- limnerref27.Get. -/
import Derived.Test.YtmbikkapabljfaaDoorScr11
namespace Go.Proofs.YtmbikkapabljfaaDoor
open Go Go.Lw
set_option maxRecDepth 20000

theorem getR_calls {h : Heap} (s : ByteArray) (hs : s.size ≤ 1000000) :
    CallsH Tryd.prog 13 #[.string s] h (Ret fun r h' => GetV h' r (getS s.data.toList) ∧ Ext0 h h') := by
  have hls : s.data.toList.length = s.size := by simp
  refine CallsH.of Tryd.func13 rfl rfl ?_
  refine G.seq rfl ?_
  refine G.reg Tryd.func13 rfl ?_
  refine RW.pureS rfl rfl rfl rfl (OpP.assign rfl) ?_
  refine RW.pureS rfl rfl rfl rfl (OpP.assign rfl) ?_
  refine RW.pureS rfl rfl rfl rfl (OpP.assign rfl) ?_
  refine RW.done rfl ?_
  refine G.sub (ρ' := [(0, _), (2, _), (3, _), (4, _)]) ⟨rfl, rfl, rfl, rfl, trivial⟩ ?_
  refine G.seq rfl ?_
  refine G.reg Tryd.func13 rfl ?_
  refine RW.pureS rfl rfl rfl rfl (OpP.assign rfl) ?_
  refine RW.done rfl ?_
  refine G.sub (ρ' := [(0, _), (2, _), (3, _), (4, _), (5, _)]) ⟨rfl, rfl, rfl, rfl, rfl, trivial⟩ ?_
  refine G.seq rfl ?_
  refine G.reg Tryd.func13 rfl ?_
  refine RW.pureS rfl rfl rfl rfl (OpP.assign rfl) ?_
  refine RW.pureS rfl rfl rfl rfl (OpP.assign rfl) ?_
  refine RW.done rfl ?_
  refine G.sub (ρ' := [(0, _), (2, _), (3, _), (4, _), (5, _), (6, _), (7, _)]) ⟨rfl, rfl, rfl, rfl, rfl, rfl, rfl, trivial⟩ ?_
  refine G.seq rfl ?_
  refine G.seq rfl ?_
  refine G.reg Tryd.func13 rfl ?_
  refine RW.pureS rfl rfl rfl rfl (OpP.assign rfl) ?_
  refine RW.done rfl ?_
  refine G.sub (ρ' := [(0, _), (2, _), (3, _), (4, _), (5, _), (6, _), (7, _), (8, _)]) ⟨rfl, rfl, rfl, rfl, rfl, rfl, rfl, rfl, trivial⟩ ?_
  refine G.block rfl rfl ?_
  refine G.loop (σ := Nat × Nat × Nat × Value × List Stp) (fun q => [(0, .string s), (5, q.2.2.2.1), (6, .int .i64 ((q.2.2.1 : Int) + 1)), (7, .int .i64 q.2.1), (8, .int .i64 q.1)]) (fun q h' => Ext0 h h' ∧ q.2.1 ≤ q.1 ∧ q.1 ≤ s.size ∧ q.2.2.1 ≤ q.2.1 ∧ q.2.2.2.2.length ≤ q.1 ∧ 10 ∉ (s.data.toList.drop q.2.1).take (q.1 - q.2.1) ∧ OwR 4 encS h' h.size 27 q.2.2.2.1 q.2.2.2.2 ∧ pre q.2.2.2.2 (getL stepS q.2.2.1 (splitS 10 (s.data.toList.drop q.2.1))) = getS s.data.toList) (fun q => s.size - q.1) ((0, 0, 0, .slice none 0 0, [])) rfl ⟨rfl, rfl, rfl, rfl, rfl, trivial⟩ ⟨Ext.refl _ _, Nat.le_refl _, Nat.zero_le _, Nat.le_refl _, Nat.zero_le _, by simp, OwR.nil _ _ _ _ _, by show pre [] (getS (s.data.toList.drop 0)) = _; rw [List.drop_zero]; cases getS s.data.toList <;> rfl⟩ ?_
  rintro ⟨i, fr, k, v, acc⟩ h1 ⟨he1, hfi, hi, hkf, hal, hno, hv, hd⟩ ih
  try dsimp only
  dsimp only at hfi hi hkf hal hno hv hd
  refine G.seq rfl ?_
  refine G.seq rfl ?_
  refine G.reg Tryd.func13 rfl ?_
  refine RW.pureS rfl rfl rfl rfl (OpP.move rfl) ?_
  refine RW.pureS rfl rfl rfl rfl (OpP.move rfl) ?_
  refine RW.pureS rfl rfl rfl rfl (OpP.lenString Tryd.underlying9 rfl) ?_
  refine RW.pureS rfl rfl rfl rfl (OpP.lss rfl rfl) ?_
  refine RW.done rfl ?_
  refine G.sub (ρ' := [(0, _), (5, _), (6, _), (7, _), (8, _), (14, _)]) ⟨rfl, rfl, rfl, rfl, rfl, rfl, trivial⟩ ?_
  refine G.ite rfl rfl (fun hlt => ?_) (fun hlt => ?_)
  · have hlt' : i < s.size := by omega
    obtain ⟨c, hc⟩ := at_of_lt hlt'
    have h10 : (10 : UInt8).toNat = 10 := rfl
    have hdr : s.data.toList.drop fr = (s.data.toList.drop fr).take (i - fr) ++ c :: s.data.toList.drop (i + 1) := by
      conv => lhs; rw [← List.take_append_drop (i - fr) (s.data.toList.drop fr)]
      rw [List.drop_drop, show fr + (i - fr) = i from by omega, drop_next hc]
    refine G.skip rfl ?_
    refine G.seq rfl ?_
    refine G.block rfl rfl ?_
    refine G.seq rfl ?_
    refine G.seq rfl ?_
    refine G.reg Tryd.func13 rfl ?_
    refine RW.pureS rfl rfl rfl rfl (OpP.move rfl) ?_
    refine RW.pureS rfl rfl rfl rfl (OpP.move rfl) ?_
    refine RW.pureS rfl rfl rfl rfl (OpP.indexStr Tryd.underlying9 rfl rfl i rfl hc) ?_
    refine RW.pureS rfl rfl rfl rfl (OpP.neqInt rfl rfl) ?_
    refine RW.done rfl ?_
    refine G.sub (ρ' := [(0, _), (5, _), (6, _), (7, _), (8, _), (14, _), (20, _)]) ⟨rfl, rfl, rfl, rfl, rfl, rfl, rfl, trivial⟩ ?_
    refine G.ite rfl rfl (fun hne => ?_) (fun hne => ?_)
    · have hne : c ≠ 10 := fun e => hne (by rw [e]; rfl)
      have hno2 : 10 ∉ (s.data.toList.drop fr).take (i + 1 - fr) := by
        have e : (s.data.toList.drop fr).take (i + 1 - fr) = (s.data.toList.drop fr).take (i - fr) ++ [c] := by
          rw [show i + 1 - fr = i - fr + 1 from by omega, List.take_add_one, List.getElem?_drop, show fr + (i - fr) = i from by omega]
          congr 1
          simp [hc]
        rw [e]
        simp only [List.mem_append, List.mem_singleton, not_or]
        exact ⟨hno, fun e => hne e.symm⟩
      refine G.exit rfl rfl ?_
      refine G.reg Tryd.func13 rfl ?_
      refine RW.pureS rfl rfl rfl rfl (OpP.move rfl) ?_
      refine RW.pureS rfl rfl rfl rfl (OpP.add64 rfl rfl ⟨by omega, by omega⟩) ?_
      refine RW.pureS rfl rfl rfl rfl (OpP.assign rfl) ?_
      refine RW.done rfl ?_
      refine G.sub (ρ' := [(0, _), (5, _), (6, _), (7, _), (8, _), (14, _), (20, _)]) ⟨rfl, rfl, rfl, rfl, rfl, rfl, rfl, trivial⟩ ?_
      exact ih (i + 1, fr, k, v, acc) _ _ ⟨rfl, rfl, rfl, rfl, rfl, trivial⟩ ⟨he1, by show fr ≤ i + 1; omega, by show i + 1 ≤ s.size; omega, hkf, by show acc.length ≤ i + 1; omega, hno2, hv, hd⟩ (by show s.size - (i + 1) < s.size - i; omega)
    · have hc10 : c = 10 := by have : ((c.toNat : Int)) = 10 := Classical.not_not.1 hne; exact UInt8.toNat_inj.1 (by omega)
      subst hc10
      generalize hseg : (s.data.toList.drop fr).take (i - fr) = seg at hdr hno
      have hsub : (s.extract fr i).data.toList = seg := by rw [Lib.extract_data, hseg]
      have hsz : (s.extract fr i).size ≤ 1000000 := by have := congrArg List.length hsub; simp only [Array.length_toList, ByteArray.size_data] at this; rw [this, ← hseg]; simp; omega
      rw [hdr, getL_hit k hno] at hd
      refine G.skip rfl ?_
      refine G.seq rfl ?_
      refine G.reg Tryd.func13 rfl ?_
      refine RW.pureS rfl rfl rfl rfl (OpP.move rfl) ?_
      refine RW.pureS rfl rfl rfl rfl (OpP.move rfl) ?_
      refine RW.pureS rfl rfl rfl rfl (OpP.move rfl) ?_
      refine RW.pureS rfl rfl rfl rfl (OpP.sliceStr Tryd.underlying9 rfl rfl fr rfl rfl i rfl (by omega) (by omega)) ?_
      refine RW.opS rfl rfl rfl rfl (OpX.call (vs := [_]) Tryd.func22 rfl H.nm22 rfl (CallsH.toX (stepR_calls (s.extract fr i) hsz))) ?_
      rintro _ h2 ⟨⟨x, ok, rfl, hx⟩, he2⟩
      refine RW.pureS rfl rfl rfl rfl (OpP.move rfl) ?_
      refine RW.pureS rfl rfl rfl rfl (OpP.extract rfl rfl) ?_
      refine RW.pureS rfl rfl rfl rfl (OpP.extract rfl rfl) ?_
      refine RW.opS rfl rfl rfl rfl (OpX.allocN H.zr27) ?_
      rintro _ h3 ⟨rfl, hk3, he3, hs3⟩
      refine RW.op0 rfl rfl rfl (OpX.storeBlk H.sz27 rfl rfl hk3 rfl (by first | decide | simp | (simp; omega)) (encS_one x)) ?_
      rintro _ h4 ⟨rfl, hk4, hx4, hs4⟩
      refine RW.pureS rfl rfl rfl rfl (OpP.assign rfl) ?_
      refine RW.done rfl ?_
      refine G.sub (ρ' := [(0, _), (5, _), (6, _), (7, _), (8, _), (9, _), (10, _), (14, _), (20, _)]) ⟨rfl, rfl, rfl, rfl, rfl, rfl, rfl, rfl, rfl, trivial⟩ ?_
      refine G.seq rfl ?_
      refine G.seq rfl ?_
      refine G.reg Tryd.func13 rfl ?_
      refine RW.pureS rfl rfl rfl rfl (OpP.move rfl) ?_
      refine RW.pureS rfl rfl rfl rfl (OpP.notB rfl) ?_
      refine RW.done rfl ?_
      refine G.sub (ρ' := [(0, _), (5, _), (6, _), (7, _), (8, _), (9, _), (10, _), (14, _), (20, _), (30, _)]) ⟨rfl, rfl, rfl, rfl, rfl, rfl, rfl, rfl, rfl, rfl, trivial⟩ ?_
      rw [hsub] at hx
      have he4 : Ext0 h1 h4 := Ext0.only (he2.trans he3) hx4 he2.size
      have hv4 := OwR.ext0 hv he4
      refine G.cond rfl rfl (fun hok => ?_) (fun hok => ?_)
      · have hok : ok = false := by simpa using hok
        rw [stepIs_false hx hok] at hd
        refine G.seq rfl ?_
        refine G.reg Tryd.func13 rfl ?_
        refine RW.pureS rfl rfl rfl rfl (OpP.move rfl) ?_
        refine RW.pureS rfl rfl rfl rfl (OpP.assign rfl) ?_
        refine RW.pureS rfl rfl rfl rfl (OpP.assign rfl) ?_
        refine RW.pureS rfl rfl rfl rfl (OpP.assign rfl) ?_
        refine RW.done rfl ?_
        refine G.sub (ρ' := [(0, _), (2, _), (3, _), (4, _), (5, _), (6, _), (7, _), (8, _), (9, _), (10, _), (14, _), (20, _), (30, _)]) ⟨rfl, rfl, rfl, rfl, rfl, rfl, rfl, rfl, rfl, rfl, rfl, rfl, rfl, trivial⟩ ?_
        refine G.ret Tryd.func13 rfl rfl ?_
        refine ⟨_, rfl, ?_, he1.trans he4⟩
        rw [← hd]
        rfl
      · have hok : ok = true := by simpa using hok
        rw [stepIs_true hx hok] at hd
        refine G.skip rfl ?_
        refine G.seq rfl ?_
        refine G.reg Tryd.func13 rfl ?_
        refine RW.pureS rfl rfl rfl rfl (OpP.move rfl) ?_
        refine RW.pureS rfl rfl rfl rfl (OpP.loadRowN H.ag27 H.sz27 rfl hk4.row (by first | rfl | simp)) ?_
        refine RW.opS rfl rfl rfl rfl (OpX.buildRec (cs := [_, _, _, _]) Tryd.underlying25 H.el27 rfl rfl (by decide)) ?_
        rintro _ _ ⟨rfl, rfl⟩
        refine RW.opS rfl rfl rfl rfl (OpX.appendNew Tryd.underlying25 H.el27 rfl rfl (hv4) rfl rfl (by first | decide | simp [Value.oneCell']) (by omega) (by decide) (he1.trans he4).size) ?_
        rintro v5 h5 ⟨ho5, hx5, -, -⟩
        refine RW.pureS rfl rfl rfl rfl (OpP.assign rfl) ?_
        refine RW.done rfl ?_
        refine G.sub (ρ' := [(0, _), (5, _), (6, _), (7, _), (8, _), (9, _), (10, _), (14, _), (20, _), (30, _)]) ⟨rfl, rfl, rfl, rfl, rfl, rfl, rfl, rfl, rfl, rfl, trivial⟩ ?_
        refine G.reg Tryd.func13 rfl ?_
        refine RW.pureS rfl rfl rfl rfl (OpP.move rfl) ?_
        refine RW.pureS rfl rfl rfl rfl (OpP.add64 rfl rfl ⟨by omega, by omega⟩) ?_
        refine RW.pureS rfl rfl rfl rfl (OpP.move rfl) ?_
        refine RW.pureS rfl rfl rfl rfl (OpP.add64 rfl rfl ⟨by omega, by omega⟩) ?_
        refine RW.pureS rfl rfl rfl rfl (OpP.assign rfl) ?_
        refine RW.pureS rfl rfl rfl rfl (OpP.assign rfl) ?_
        refine RW.done rfl ?_
        refine G.sub (ρ' := [(0, _), (5, _), (6, _), (7, _), (8, _), (9, _), (10, _), (14, _), (20, _), (30, _)]) ⟨rfl, rfl, rfl, rfl, rfl, rfl, rfl, rfl, rfl, rfl, trivial⟩ ?_
        refine G.blkEnd ?_
        refine G.reg Tryd.func13 rfl ?_
        refine RW.pureS rfl rfl rfl rfl (OpP.move rfl) ?_
        refine RW.pureS rfl rfl rfl rfl (OpP.add64 rfl rfl ⟨by omega, by omega⟩) ?_
        refine RW.pureS rfl rfl rfl rfl (OpP.assign rfl) ?_
        refine RW.done rfl ?_
        refine G.sub (ρ' := [(0, _), (5, _), (6, _), (7, _), (8, _), (9, _), (10, _), (14, _), (20, _), (30, _)]) ⟨rfl, rfl, rfl, rfl, rfl, rfl, rfl, rfl, rfl, rfl, trivial⟩ ?_
        exact ih (i + 1, i + 1, k + 1, v5, acc ++ [x]) _ _ ⟨rfl, rfl, rfl, rfl, rfl, trivial⟩ ⟨OwR.grown (he1.trans he4) hv4 (Nat.le_refl _) hx5, Nat.le_refl _, by show i + 1 ≤ s.size; omega, by show k + 1 ≤ i + 1; omega, by show (acc ++ [x]).length ≤ i + 1; simp; omega, by show 10 ∉ List.take (i + 1 - (i + 1)) _; simp, OwR.of (y := x) ho5 rfl rfl, by rw [← hd]; show pre (acc ++ [x]) (getL stepS (k + 1) (splitS 10 (s.data.toList.drop (i + 1)))) = _; simp only; cases getL stepS (k + 1) (splitS 10 (s.data.toList.drop (i + 1))) <;> simp [pre]⟩ (by show s.size - (i + 1) < s.size - i; omega)
  · have his : i = s.size := by omega
    have hall : (s.data.toList.drop fr).take (i - fr) = s.data.toList.drop fr := List.take_of_length_le (by simp; omega)
    rw [hall] at hno
    rw [splitS_none hno, getL] at hd
    refine G.exit rfl rfl ?_
    refine G.seq rfl ?_
    refine G.seq rfl ?_
    refine G.reg Tryd.func13 rfl ?_
    refine RW.pureS rfl rfl rfl rfl (OpP.move rfl) ?_
    refine RW.pureS rfl rfl rfl rfl (OpP.move rfl) ?_
    refine RW.pureS rfl rfl rfl rfl (OpP.lenString Tryd.underlying9 rfl) ?_
    refine RW.pureS rfl rfl rfl rfl (OpP.lss rfl rfl) ?_
    refine RW.done rfl ?_
    refine G.sub (ρ' := [(0, _), (5, _), (6, _), (7, _), (8, _), (14, _), (43, _)]) ⟨rfl, rfl, rfl, rfl, rfl, rfl, rfl, trivial⟩ ?_
    refine G.ite rfl rfl (fun hleft => ?_) (fun hleft => ?_)
    · have hne : s.data.toList.drop fr ≠ [] := by intro e; have := congrArg List.length e; simp at this; omega
      rw [if_neg hne] at hd
      refine G.seq rfl ?_
      refine G.reg Tryd.func13 rfl ?_
      refine RW.pureS rfl rfl rfl rfl (OpP.move rfl) ?_
      refine RW.pureS rfl rfl rfl rfl (OpP.assign rfl) ?_
      refine RW.pureS rfl rfl rfl rfl (OpP.assign rfl) ?_
      refine RW.pureS rfl rfl rfl rfl (OpP.assign rfl) ?_
      refine RW.done rfl ?_
      refine G.sub (ρ' := [(0, _), (2, _), (3, _), (4, _), (5, _), (6, _), (7, _), (8, _), (14, _), (43, _)]) ⟨rfl, rfl, rfl, rfl, rfl, rfl, rfl, rfl, rfl, rfl, trivial⟩ ?_
      refine G.ret Tryd.func13 rfl rfl ?_
      refine ⟨_, rfl, ?_, he1⟩
      rw [← hd]
      rfl
    · have hne : s.data.toList.drop fr = [] := List.drop_of_length_le (by omega)
      rw [if_pos hne] at hd
      refine G.skip rfl ?_
      refine G.seq rfl ?_
      refine G.reg Tryd.func13 rfl ?_
      refine RW.pureS rfl rfl rfl rfl (OpP.move rfl) ?_
      refine RW.pureS rfl rfl rfl rfl (OpP.assign rfl) ?_
      refine RW.pureS rfl rfl rfl rfl (OpP.assign rfl) ?_
      refine RW.pureS rfl rfl rfl rfl (OpP.assign rfl) ?_
      refine RW.done rfl ?_
      refine G.sub (ρ' := [(0, _), (2, _), (3, _), (4, _), (5, _), (6, _), (7, _), (8, _), (14, _), (43, _)]) ⟨rfl, rfl, rfl, rfl, rfl, rfl, rfl, rfl, rfl, rfl, trivial⟩ ?_
      refine G.ret Tryd.func13 rfl rfl ?_
      refine ⟨_, rfl, ?_, he1⟩
      rw [← hd]
      exact ⟨v, rfl, by rw [List.append_nil]; exact OwR.read hv (fun _ _ k => k)⟩

end Go.Proofs.YtmbikkapabljfaaDoor
