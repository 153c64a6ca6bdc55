/- limnerref27.number. -/
import Derived.Test.YtmbikkapabljfaaDoorScr4
namespace Go.Proofs.YtmbikkapabljfaaDoor
open Go Go.Lw
set_option maxRecDepth 20000

theorem drop_next {s : ByteArray} {k : Nat} {c : UInt8} (hc : s.data[k]? = some c) : s.data.toList.drop k = c :: s.data.toList.drop (k + 1) := by
  have hk : k < s.data.toList.length := by have := (Array.getElem?_eq_some_iff.1 hc).1; simpa using this
  rw [List.drop_eq_getElem_cons hk]
  congr 1
  have := (Array.getElem?_eq_some_iff.1 hc).2
  simpa using this

theorem extract_tail (s : ByteArray) (k : Nat) : (s.extract k s.size).data.toList = s.data.toList.drop k := by
  have := Lib.extract_data s k s.size
  rw [this, List.take_of_length_le]
  simp

theorem numberR2_calls {h : Heap} (w : ByteArray) (hw : w.size ≤ 1000000000) :
    CallsH Tryd.prog 46 #[.string w] h (Ret fun r h' => r = .tuple #[.int .i64 (numR w.data.toList).1, .bool (numR w.data.toList).2] ∧ h' = h) := by
  generalize hmi : decide (1 < w.data.toList.length ∧ w.data.toList.head? = some 45) = mi
  have hnr : numR w.data.toList = match numLoop 0 (if mi then w.data.toList.drop 1 else w.data.toList) with
      | none => (0, false)
      | some n => if (if mi then w.data.toList.drop 1 else w.data.toList) = [] ∨ Lib.decDigits n ≠ (if mi then w.data.toList.drop 1 else w.data.toList) ∨ (mi = true ∧ n = 0) ∨ (mi = false ∧ n = 9223372036854775808) then (0, false)
        else if mi then (-(n : Int), true) else ((n : Int), true) := by
    unfold numR
    simp only [hmi]
    cases mi <;> rfl
  have hlw : w.data.toList.length = w.size := by simp
  refine CallsH.of Tryd.func46 rfl rfl ?_
  refine G.seq rfl ?_
  refine G.reg Tryd.func46 rfl ?_
  refine RW.pureS rfl rfl rfl rfl (OpP.assign rfl) ?_
  refine RW.pureS rfl rfl rfl rfl (OpP.assign rfl) ?_
  refine RW.done rfl ?_
  refine G.sub (ρ' := [(0, _), (2, _), (3, _)]) ⟨rfl, rfl, rfl, trivial⟩ ?_
  refine G.seq rfl ?_
  refine G.regTo1 [(4, .bool mi)] [(0, _), (2, _), (3, _)] ⟨rfl, rfl, rfl, trivial⟩ Tryd.func46 rfl ?_ ?_
  · refine RW.pureS rfl rfl rfl rfl (OpP.move rfl) ?_
    refine RW.pureS rfl rfl rfl rfl (OpP.lenString Tryd.underlying9 rfl) ?_
    refine RW.pureS rfl rfl rfl rfl (OpP.gtr rfl rfl) ?_
    refine RW.pureS rfl rfl rfl rfl (OpP.move rfl) ?_
    refine RW.split (d := 10) rfl (fun hg => ?_) (fun hg => ?_)
    · have hg := of_decide_eq_true hg
      obtain ⟨c, hc⟩ := at_of_lt (s := w) (k := 0) (by omega)
      have hd := drop_next hc
      rw [List.drop_zero] at hd
      have hhead : w.data.toList.head? = some c := by rw [hd]; rfl
      have h45 : (45 : UInt8).toNat = 45 := rfl
      have hleaf : decide ((c.toNat : Int) = 45) = mi := by
        rw [← hmi, decide_eq_decide, hhead]
        constructor
        · intro e
          exact ⟨by omega, congrArg some (UInt8.toNat_inj.1 (by omega))⟩
        · rintro ⟨_, e⟩
          cases e; rfl
      refine RW.pureS rfl rfl rfl rfl (OpP.move rfl) ?_
      refine RW.pureS rfl rfl rfl rfl (OpP.indexStr Tryd.underlying9 rfl rfl 0 rfl hc) ?_
      refine RW.pureS rfl rfl rfl rfl (OpP.eqlInt rfl rfl) ?_
      refine RW.pureS rfl rfl rfl rfl (OpP.pickT rfl rfl) ?_
      refine RW.pureS rfl rfl rfl rfl (OpP.assign rfl) ?_
      refine RW.done rfl ?_
      exact ⟨rfl, at_bool rfl (hleaf), rfl, rfl, rfl, trivial⟩
    · have hg := of_decide_eq_false hg
      refine RW.skipS rfl rfl rfl rfl ?_
      refine RW.skipS rfl rfl rfl rfl ?_
      refine RW.skipS rfl rfl rfl rfl ?_
      refine RW.pureS rfl rfl rfl rfl (OpP.pickF rfl rfl) ?_
      refine RW.pureS rfl rfl rfl rfl (OpP.assign rfl) ?_
      refine RW.done rfl ?_
      exact ⟨rfl, at_bool rfl (by rw [← hmi]; symm; rw [decide_eq_false_iff_not]; rintro ⟨e, _⟩; omega), rfl, rfl, rfl, trivial⟩
  · refine G.seq rfl ?_
    refine G.seq rfl ?_
    refine G.reg Tryd.func46 rfl ?_
    refine RW.pureS rfl rfl rfl rfl (OpP.move rfl) ?_
    refine RW.done rfl ?_
    refine G.sub (ρ' := [(0, _), (2, _), (3, _), (4, _), (15, _)]) ⟨rfl, rfl, rfl, rfl, rfl, trivial⟩ ?_
    have fin : ∀ (u : ByteArray) (h' : Heap) (ρ' : Env), Sub [(0, .string u), (4, .bool mi)] ρ' → h = h' → u.data.toList = (if mi then w.data.toList.drop 1 else w.data.toList) ∧ u.size ≤ w.size → G Tryd.prog 46 Tryd.f46 [.code [1, 1, 1]] ρ' h' (Ret fun r h' => r = .tuple #[.int .i64 (numR w.data.toList).1, .bool (numR w.data.toList).2] ∧ h' = h) := by
      rintro u hh ρ' hsub rfl ⟨hu, hus⟩
      rw [← hu] at hnr
      have hlu : u.data.toList.length = u.size := by simp
      refine G.sub (ρ' := [(0, .string u), (4, .bool mi)]) hsub ?_
      refine G.seq rfl ?_
      refine G.reg Tryd.func46 rfl ?_
      refine RW.pureS rfl rfl rfl rfl (OpP.assign rfl) ?_
      refine RW.done rfl ?_
      refine G.sub (ρ' := [(0, _), (4, _), (5, _)]) ⟨rfl, rfl, rfl, trivial⟩ ?_
      refine G.seq rfl ?_
      refine G.seq rfl ?_
      refine G.reg Tryd.func46 rfl ?_
      refine RW.pureS rfl rfl rfl rfl (OpP.assign rfl) ?_
      refine RW.done rfl ?_
      refine G.sub (ρ' := [(0, _), (4, _), (5, _), (6, _)]) ⟨rfl, rfl, rfl, rfl, trivial⟩ ?_
      refine G.block rfl rfl ?_
      refine G.loop (σ := Nat × Nat) (fun q => [(0, .string u), (4, .bool mi), (5, .int .u64 q.2), (6, .int .i64 q.1)]) (fun q h' => h' = h ∧ q.1 ≤ u.size ∧ q.2 ≤ 9223372036854775808 ∧ numLoop q.2 (u.data.toList.drop q.1) = numLoop 0 u.data.toList) (fun q => u.size - q.1) ((0, 0)) rfl ⟨rfl, rfl, rfl, rfl, trivial⟩ ⟨rfl, Nat.zero_le _, Nat.zero_le _, rfl⟩ ?_
      rintro ⟨k, n⟩ h1 ⟨rfl, hk, hn, hv⟩ ih
      try dsimp only
      dsimp only at hk hn hv
      refine G.seq rfl ?_
      refine G.seq rfl ?_
      refine G.reg Tryd.func46 rfl ?_
      refine RW.pureS rfl rfl rfl rfl (OpP.move rfl) ?_
      refine RW.pureS rfl rfl rfl rfl (OpP.move rfl) ?_
      refine RW.pureS rfl rfl rfl rfl (OpP.lenString Tryd.underlying9 rfl) ?_
      refine RW.pureS rfl rfl rfl rfl (OpP.lss rfl rfl) ?_
      refine RW.done rfl ?_
      refine G.sub (ρ' := [(0, _), (4, _), (5, _), (6, _), (21, _)]) ⟨rfl, rfl, rfl, rfl, rfl, trivial⟩ ?_
      refine G.ite rfl rfl (fun hlt => ?_) (fun hlt => ?_)
      · have hlt' : k < u.size := by omega
        obtain ⟨c, hc⟩ := at_of_lt hlt'
        have hcl := c.toNat_lt
        rw [drop_next hc, numLoop] at hv
        refine G.skip rfl ?_
        refine G.seq rfl ?_
        refine G.block rfl rfl ?_
        refine G.seq rfl ?_
        refine G.seq rfl ?_
        refine G.regTo1 [(44, .bool (decide (c.toNat < 48 ∨ 57 < c.toNat ∨ (9223372036854775808 - (c.toNat - 48)) / 10 < n)))] [(0, _), (4, _), (5, _), (6, _), (21, _)] ⟨rfl, rfl, rfl, rfl, rfl, trivial⟩ Tryd.func46 rfl ?_ ?_
        · refine RW.pureS rfl rfl rfl rfl (OpP.move rfl) ?_
          refine RW.pureS rfl rfl rfl rfl (OpP.move rfl) ?_
          refine RW.pureS rfl rfl rfl rfl (OpP.indexStr Tryd.underlying9 rfl rfl k rfl hc) ?_
          refine RW.pureS rfl rfl rfl rfl (OpP.lss rfl rfl) ?_
          refine RW.pureS rfl rfl rfl rfl (OpP.move rfl) ?_
          refine RW.split (d := 28) rfl (fun hg1 => ?_) (fun hg1 => ?_)
          · have hg1 := of_decide_eq_true hg1
            refine RW.skipS rfl rfl rfl rfl ?_
            refine RW.skipS rfl rfl rfl rfl ?_
            refine RW.skipS rfl rfl rfl rfl ?_
            refine RW.skipS rfl rfl rfl rfl ?_
            refine RW.pureS rfl rfl rfl rfl (OpP.pickT rfl rfl) ?_
            refine RW.pureS rfl rfl rfl rfl (OpP.move rfl) ?_
            refine RW.skipS rfl rfl rfl rfl ?_
            refine RW.skipS rfl rfl rfl rfl ?_
            refine RW.skipS rfl rfl rfl rfl ?_
            refine RW.skipS rfl rfl rfl rfl ?_
            refine RW.skipS rfl rfl rfl rfl ?_
            refine RW.skipS rfl rfl rfl rfl ?_
            refine RW.skipS rfl rfl rfl rfl ?_
            refine RW.skipS rfl rfl rfl rfl ?_
            refine RW.skipS rfl rfl rfl rfl ?_
            refine RW.pureS rfl rfl rfl rfl (OpP.pickT rfl rfl) ?_
            refine RW.done rfl ?_
            exact ⟨rfl, at_bool rfl (by symm; rw [decide_eq_true_eq]; omega), rfl, rfl, rfl, rfl, rfl, trivial⟩
          · have hg1 := of_decide_eq_false hg1
            refine RW.pureS rfl rfl rfl rfl (OpP.move rfl) ?_
            refine RW.pureS rfl rfl rfl rfl (OpP.move rfl) ?_
            refine RW.pureS rfl rfl rfl rfl (OpP.indexStr Tryd.underlying9 rfl rfl k rfl hc) ?_
            refine RW.pureS rfl rfl rfl rfl (OpP.gtr rfl rfl) ?_
            refine RW.pureS rfl rfl rfl rfl (OpP.pickF rfl rfl) ?_
            refine RW.pureS rfl rfl rfl rfl (OpP.move rfl) ?_
            refine RW.split (d := 34) rfl (fun hg2 => ?_) (fun hg2 => ?_)
            · have hg2 := of_decide_eq_true hg2
              refine RW.skipS rfl rfl rfl rfl ?_
              refine RW.skipS rfl rfl rfl rfl ?_
              refine RW.skipS rfl rfl rfl rfl ?_
              refine RW.skipS rfl rfl rfl rfl ?_
              refine RW.skipS rfl rfl rfl rfl ?_
              refine RW.skipS rfl rfl rfl rfl ?_
              refine RW.skipS rfl rfl rfl rfl ?_
              refine RW.skipS rfl rfl rfl rfl ?_
              refine RW.skipS rfl rfl rfl rfl ?_
              refine RW.pureS rfl rfl rfl rfl (OpP.pickT rfl rfl) ?_
              refine RW.done rfl ?_
              exact ⟨rfl, at_bool rfl (by symm; rw [decide_eq_true_eq]; omega), rfl, rfl, rfl, rfl, rfl, trivial⟩
            · have hg2 := of_decide_eq_false hg2
              have e1 : IntKind.u8.wrap ((c.toNat : Int) - 48) = ((c.toNat - 48 : Nat) : Int) := by rw [wrap_u8 (by omega)]; omega
              have e2 : IntKind.u64.wrap (IntKind.u8.wrap ((c.toNat : Int) - 48)) = ((c.toNat - 48 : Nat) : Int) := by rw [e1, wrap_u64 (by omega)]
              have e3 : IntKind.u64.wrap (9223372036854775808 - IntKind.u64.wrap (IntKind.u8.wrap ((c.toNat : Int) - 48))) = ((9223372036854775808 - (c.toNat - 48) : Nat) : Int) := by rw [e2, wrap_u64 (by omega)]; omega
              have e4 : IntKind.u64.wrap ((IntKind.u64.wrap (9223372036854775808 - IntKind.u64.wrap (IntKind.u8.wrap ((c.toNat : Int) - 48)))).tdiv 10) = (((9223372036854775808 - (c.toNat - 48)) / 10 : Nat) : Int) := by rw [e3, Int.tdiv_eq_ediv_of_nonneg (by omega), wrap_u64 (by omega)]; omega
              refine RW.pureS rfl rfl rfl rfl (OpP.move rfl) ?_
              refine RW.pureS rfl rfl rfl rfl (OpP.move rfl) ?_
              refine RW.pureS rfl rfl rfl rfl (OpP.move rfl) ?_
              refine RW.pureS rfl rfl rfl rfl (OpP.indexStr Tryd.underlying9 rfl rfl k rfl hc) ?_
              refine RW.pureS rfl rfl rfl rfl (OpP.sub rfl rfl) ?_
              refine RW.pureS rfl rfl rfl rfl (OpP.convInt Tryd.underlying5 Tryd.underlying100 rfl) ?_
              refine RW.pureS rfl rfl rfl rfl (OpP.sub rfl rfl) ?_
              refine RW.pureS rfl rfl rfl rfl (OpP.quo rfl rfl (by decide)) ?_
              refine RW.pureS rfl rfl rfl rfl (OpP.gtr rfl rfl) ?_
              refine RW.pureS rfl rfl rfl rfl (OpP.pickF rfl rfl) ?_
              refine RW.done rfl ?_
              exact ⟨rfl, at_bool rfl (by rw [e4, decide_eq_decide]; omega), rfl, rfl, rfl, rfl, rfl, trivial⟩
        · refine G.ite rfl rfl (fun hbad => ?_) (fun hbad => ?_)
          · rw [if_pos hbad] at hv
            rw [← hv] at hnr
            refine G.seq rfl ?_
            refine G.reg Tryd.func46 rfl ?_
            refine RW.pureS rfl rfl rfl rfl (OpP.assign rfl) ?_
            refine RW.pureS rfl rfl rfl rfl (OpP.assign rfl) ?_
            refine RW.done rfl ?_
            refine G.sub (ρ' := [(0, _), (2, _), (3, _), (4, _), (5, _), (6, _), (21, _), (44, _)]) ⟨rfl, rfl, rfl, rfl, rfl, rfl, rfl, rfl, trivial⟩ ?_
            refine G.ret Tryd.func46 rfl rfl ?_
            exact ⟨_, rfl, by rw [hnr]; rfl, rfl⟩
          · rw [if_neg hbad] at hv
            have e1 : IntKind.u8.wrap ((c.toNat : Int) - 48) = ((c.toNat - 48 : Nat) : Int) := by rw [wrap_u8 (by omega)]; omega
            have e2 : IntKind.u64.wrap (IntKind.u64.wrap ((n : Int) * 10) + IntKind.u64.wrap (IntKind.u8.wrap ((c.toNat : Int) - 48))) = ((n * 10 + (c.toNat - 48) : Nat) : Int) := by
              rw [e1, wrap_u64 (i := ((c.toNat - 48 : Nat) : Int)) (by omega), wrap_u64 (i := (n : Int) * 10) (by omega), wrap_u64 (by omega)]; omega
            refine G.skip rfl ?_
            refine G.reg Tryd.func46 rfl ?_
            refine RW.pureS rfl rfl rfl rfl (OpP.move rfl) ?_
            refine RW.pureS rfl rfl rfl rfl (OpP.mul rfl rfl) ?_
            refine RW.pureS rfl rfl rfl rfl (OpP.move rfl) ?_
            refine RW.pureS rfl rfl rfl rfl (OpP.move rfl) ?_
            refine RW.pureS rfl rfl rfl rfl (OpP.indexStr Tryd.underlying9 rfl rfl k rfl hc) ?_
            refine RW.pureS rfl rfl rfl rfl (OpP.sub rfl rfl) ?_
            refine RW.pureS rfl rfl rfl rfl (OpP.convInt Tryd.underlying5 Tryd.underlying100 rfl) ?_
            refine RW.pureS rfl rfl rfl rfl (OpP.add rfl rfl) ?_
            refine RW.pureS rfl rfl rfl rfl (OpP.assign rfl) ?_
            refine RW.done rfl ?_
            refine G.sub (ρ' := [(0, _), (4, _), (5, _), (6, _), (21, _), (44, _)]) ⟨rfl, rfl, rfl, rfl, rfl, rfl, trivial⟩ ?_
            refine G.blkEnd ?_
            refine G.reg Tryd.func46 rfl ?_
            refine RW.pureS rfl rfl rfl rfl (OpP.move rfl) ?_
            refine RW.pureS rfl rfl rfl rfl (OpP.add64 rfl rfl ⟨by omega, by omega⟩) ?_
            refine RW.pureS rfl rfl rfl rfl (OpP.assign rfl) ?_
            refine RW.done rfl ?_
            refine G.sub (ρ' := [(0, _), (4, _), (5, _), (6, _), (21, _), (44, _)]) ⟨rfl, rfl, rfl, rfl, rfl, rfl, trivial⟩ ?_
            rw [e2]
            exact ih (k + 1, n * 10 + (c.toNat - 48)) _ _ ⟨rfl, rfl, rfl, rfl, trivial⟩ ⟨rfl, by show k + 1 ≤ u.size; omega, by show n * 10 + (c.toNat - 48) ≤ _; omega, hv⟩ (by show u.size - (k + 1) < u.size - k; omega)
      · have hks : u.data.toList.drop k = [] := List.drop_of_length_le (by omega)
        rw [hks, numLoop] at hv
        rw [← hv] at hnr
        simp only at hnr
        have hune : decide (u = (⟨#[]⟩ : ByteArray)) = decide (u.data.toList = []) := by rw [← bs_of u]; show decide (bs _ = bs []) = _; rw [bs_eq, bs_list]
        refine G.exit rfl rfl ?_
        refine G.seq rfl ?_
        refine G.seq rfl ?_
        refine G.regTo1 [(75, .bool (decide (u.data.toList = [] ∨ Lib.decDigits n ≠ u.data.toList ∨ (mi = true ∧ n = 0) ∨ (mi = false ∧ n = 9223372036854775808))))] [(0, _), (4, _), (5, _), (6, _), (21, _)] ⟨rfl, rfl, rfl, rfl, rfl, trivial⟩ Tryd.func46 rfl ?_ ?_
        · refine RW.pureS rfl rfl rfl rfl (OpP.move rfl) ?_
          refine RW.pureS rfl rfl rfl rfl (OpP.eqlStr rfl rfl) ?_
          refine RW.pureS rfl rfl rfl rfl (OpP.move rfl) ?_
          refine RW.split (d := 55) rfl (fun hg1 => ?_) (fun hg1 => ?_)
          · rw [hune] at hg1
            have hg1 := of_decide_eq_true hg1
            refine RW.skipS rfl rfl rfl rfl ?_
            refine RW.skipS rfl rfl rfl rfl ?_
            refine RW.skipS rfl rfl rfl rfl ?_
            refine RW.skipS rfl rfl rfl rfl ?_
            refine RW.pureS rfl rfl rfl rfl (OpP.pickT rfl rfl) ?_
            refine RW.pureS rfl rfl rfl rfl (OpP.move rfl) ?_
            refine RW.skipS rfl rfl rfl rfl ?_
            refine RW.skipS rfl rfl rfl rfl ?_
            refine RW.skipS rfl rfl rfl rfl ?_
            refine RW.skipS rfl rfl rfl rfl ?_
            refine RW.skipS rfl rfl rfl rfl ?_
            refine RW.pureS rfl rfl rfl rfl (OpP.pickT rfl rfl) ?_
            refine RW.pureS rfl rfl rfl rfl (OpP.move rfl) ?_
            refine RW.skipS rfl rfl rfl rfl ?_
            refine RW.skipS rfl rfl rfl rfl ?_
            refine RW.skipS rfl rfl rfl rfl ?_
            refine RW.skipS rfl rfl rfl rfl ?_
            refine RW.skipS rfl rfl rfl rfl ?_
            refine RW.skipS rfl rfl rfl rfl ?_
            refine RW.pureS rfl rfl rfl rfl (OpP.pickT rfl rfl) ?_
            refine RW.done rfl ?_
            exact ⟨rfl, at_bool rfl (by simp [hg1]), rfl, rfl, rfl, rfl, rfl, trivial⟩
          · rw [hune] at hg1
            have hg1 := of_decide_eq_false hg1
            refine RW.pureS rfl rfl rfl rfl (OpP.move rfl) ?_
            refine RW.opS rfl rfl rfl rfl (OpX.call (vs := [_]) Tryd.func50 rfl H.nm50 rfl (CallsH.toX (digitsR_calls n (by omega)))) ?_
            rintro _ _ ⟨rfl, rfl⟩
            refine RW.pureS rfl rfl rfl rfl (OpP.move rfl) ?_
            refine RW.pureS rfl rfl rfl rfl (OpP.neqStr rfl rfl) ?_
            refine RW.pureS rfl rfl rfl rfl (OpP.pickF rfl rfl) ?_
            refine RW.pureS rfl rfl rfl rfl (OpP.move rfl) ?_
            refine RW.split (d := 61) rfl (fun hg2 => ?_) (fun hg2 => ?_)
            · have hg2 : Lib.decDigits n ≠ u.data.toList := by have := of_decide_eq_true hg2; intro e; exact this (by rw [e, bs_of])
              refine RW.skipS rfl rfl rfl rfl ?_
              refine RW.skipS rfl rfl rfl rfl ?_
              refine RW.skipS rfl rfl rfl rfl ?_
              refine RW.skipS rfl rfl rfl rfl ?_
              refine RW.skipS rfl rfl rfl rfl ?_
              refine RW.pureS rfl rfl rfl rfl (OpP.pickT rfl rfl) ?_
              refine RW.pureS rfl rfl rfl rfl (OpP.move rfl) ?_
              refine RW.skipS rfl rfl rfl rfl ?_
              refine RW.skipS rfl rfl rfl rfl ?_
              refine RW.skipS rfl rfl rfl rfl ?_
              refine RW.skipS rfl rfl rfl rfl ?_
              refine RW.skipS rfl rfl rfl rfl ?_
              refine RW.skipS rfl rfl rfl rfl ?_
              refine RW.pureS rfl rfl rfl rfl (OpP.pickT rfl rfl) ?_
              refine RW.done rfl ?_
              exact ⟨rfl, at_bool rfl (by simp [hg2]), rfl, rfl, rfl, rfl, rfl, trivial⟩
            · have hg2 : Lib.decDigits n = u.data.toList := by have := Classical.not_not.1 (of_decide_eq_false hg2); rw [← this, bs_list]
              refine RW.pureS rfl rfl rfl rfl (OpP.move rfl) ?_
              refine RW.pureS rfl rfl rfl rfl (OpP.move rfl) ?_
              refine RW.split (d := 63) rfl (fun hg3 => ?_) (fun hg3 => ?_)
              · subst hg3
                refine RW.pureS rfl rfl rfl rfl (OpP.move rfl) ?_
                refine RW.pureS rfl rfl rfl rfl (OpP.eqlInt rfl rfl) ?_
                refine RW.pureS rfl rfl rfl rfl (OpP.pickT rfl rfl) ?_
                refine RW.pureS rfl rfl rfl rfl (OpP.pickF rfl rfl) ?_
                refine RW.pureS rfl rfl rfl rfl (OpP.move rfl) ?_
                refine RW.split (d := 68) rfl (fun hg4 => ?_) (fun hg4 => ?_)
                · have hg4 := of_decide_eq_true hg4
                  refine RW.skipS rfl rfl rfl rfl ?_
                  refine RW.skipS rfl rfl rfl rfl ?_
                  refine RW.skipS rfl rfl rfl rfl ?_
                  refine RW.skipS rfl rfl rfl rfl ?_
                  refine RW.skipS rfl rfl rfl rfl ?_
                  refine RW.skipS rfl rfl rfl rfl ?_
                  refine RW.pureS rfl rfl rfl rfl (OpP.pickT rfl rfl) ?_
                  refine RW.done rfl ?_
                  exact ⟨rfl, at_bool rfl (by simp; omega), rfl, rfl, rfl, rfl, rfl, trivial⟩
                · have hg4 := of_decide_eq_false hg4
                  refine RW.pureS rfl rfl rfl rfl (OpP.move rfl) ?_
                  refine RW.pureS rfl rfl rfl rfl (OpP.notB rfl) ?_
                  refine RW.pureS rfl rfl rfl rfl (OpP.move rfl) ?_
                  refine RW.know (d := 71) (b' := false) rfl (rfl) ?_
                  refine RW.skipS rfl rfl rfl rfl ?_
                  refine RW.skipS rfl rfl rfl rfl ?_
                  refine RW.pureS rfl rfl rfl rfl (OpP.pickF rfl rfl) ?_
                  refine RW.pureS rfl rfl rfl rfl (OpP.pickF rfl rfl) ?_
                  refine RW.done rfl ?_
                  exact ⟨rfl, at_bool rfl (by simp [hg1, hg2]; omega), rfl, rfl, rfl, rfl, rfl, trivial⟩
              · subst hg3
                refine RW.skipS rfl rfl rfl rfl ?_
                refine RW.skipS rfl rfl rfl rfl ?_
                refine RW.pureS rfl rfl rfl rfl (OpP.pickF rfl rfl) ?_
                refine RW.pureS rfl rfl rfl rfl (OpP.pickF rfl rfl) ?_
                refine RW.pureS rfl rfl rfl rfl (OpP.move rfl) ?_
                refine RW.pureS rfl rfl rfl rfl (OpP.move rfl) ?_
                refine RW.pureS rfl rfl rfl rfl (OpP.notB rfl) ?_
                refine RW.pureS rfl rfl rfl rfl (OpP.move rfl) ?_
                refine RW.know (d := 71) (b' := true) rfl (rfl) ?_
                refine RW.pureS rfl rfl rfl rfl (OpP.move rfl) ?_
                refine RW.pureS rfl rfl rfl rfl (OpP.eqlInt rfl rfl) ?_
                refine RW.pureS rfl rfl rfl rfl (OpP.pickT rfl rfl) ?_
                refine RW.pureS rfl rfl rfl rfl (OpP.pickF rfl rfl) ?_
                refine RW.done rfl ?_
                exact ⟨rfl, at_bool rfl (by simp [hg1, hg2]; omega), rfl, rfl, rfl, rfl, rfl, trivial⟩
        · refine G.ite rfl rfl (fun hbad => ?_) (fun hbad => ?_)
          · rw [if_pos hbad] at hnr
            refine G.seq rfl ?_
            refine G.reg Tryd.func46 rfl ?_
            refine RW.pureS rfl rfl rfl rfl (OpP.assign rfl) ?_
            refine RW.pureS rfl rfl rfl rfl (OpP.assign rfl) ?_
            refine RW.done rfl ?_
            refine G.sub (ρ' := [(0, _), (2, _), (3, _), (4, _), (5, _), (6, _), (21, _), (75, _)]) ⟨rfl, rfl, rfl, rfl, rfl, rfl, rfl, rfl, trivial⟩ ?_
            refine G.ret Tryd.func46 rfl rfl ?_
            exact ⟨_, rfl, by rw [hnr]; rfl, rfl⟩
          · rw [if_neg hbad] at hnr
            refine G.skip rfl ?_
            refine G.seq rfl ?_
            refine G.seq rfl ?_
            refine G.reg Tryd.func46 rfl ?_
            refine RW.pureS rfl rfl rfl rfl (OpP.move rfl) ?_
            refine RW.done rfl ?_
            refine G.sub (ρ' := [(0, _), (4, _), (5, _), (6, _), (21, _), (75, _), (76, _)]) ⟨rfl, rfl, rfl, rfl, rfl, rfl, rfl, trivial⟩ ?_
            refine G.cond rfl rfl (fun hm => ?_) (fun hm => ?_)
            · subst hm
              have hn0 : n ≠ 0 := fun e => hbad (.inr (.inr (.inl ⟨rfl, e⟩)))
              have e1 : IntKind.i64.wrap (0 - IntKind.i64.wrap (IntKind.u64.wrap ((n : Int) - 1))) = 1 - n := by
                rw [wrap_u64 (i := (n : Int) - 1) (by omega), wrap_i64 (i := (n : Int) - 1) ⟨by omega, by omega⟩, wrap_i64 (i := 0 - ((n : Int) - 1)) ⟨by omega, by omega⟩]; omega
              refine G.seq rfl ?_
              refine G.reg Tryd.func46 rfl ?_
              refine RW.pureS rfl rfl rfl rfl (OpP.move rfl) ?_
              refine RW.pureS rfl rfl rfl rfl (OpP.sub rfl rfl) ?_
              refine RW.pureS rfl rfl rfl rfl (OpP.convInt Tryd.underlying100 Tryd.underlying3 rfl) ?_
              refine RW.pureS rfl rfl rfl rfl (OpP.neg rfl) ?_
              refine RW.pureS rfl rfl rfl rfl (OpP.sub64 rfl rfl ⟨by rw [e1]; omega, by rw [e1]; omega⟩) ?_
              refine RW.pureS rfl rfl rfl rfl (OpP.assign rfl) ?_
              refine RW.pureS rfl rfl rfl rfl (OpP.assign rfl) ?_
              refine RW.done rfl ?_
              refine G.sub (ρ' := [(0, _), (2, _), (3, _), (4, _), (5, _), (6, _), (21, _), (75, _), (76, _)]) ⟨rfl, rfl, rfl, rfl, rfl, rfl, rfl, rfl, rfl, trivial⟩ ?_
              refine G.ret Tryd.func46 rfl rfl ?_
              refine ⟨_, rfl, ?_, rfl⟩
              rw [hnr, e1, show 1 - (n : Int) - 1 = -(n : Int) from by omega]
              rfl
            · subst hm
              have hn63 : n ≠ 9223372036854775808 := fun e => hbad (.inr (.inr (.inr ⟨rfl, e⟩)))
              refine G.skip rfl ?_
              refine G.seq rfl ?_
              refine G.reg Tryd.func46 rfl ?_
              refine RW.pureS rfl rfl rfl rfl (OpP.move rfl) ?_
              refine RW.pureS rfl rfl rfl rfl (OpP.convInt Tryd.underlying100 Tryd.underlying3 rfl) ?_
              refine RW.pureS rfl rfl rfl rfl (OpP.assign rfl) ?_
              refine RW.pureS rfl rfl rfl rfl (OpP.assign rfl) ?_
              refine RW.done rfl ?_
              refine G.sub (ρ' := [(0, _), (2, _), (3, _), (4, _), (5, _), (6, _), (21, _), (75, _), (76, _)]) ⟨rfl, rfl, rfl, rfl, rfl, rfl, rfl, rfl, rfl, trivial⟩ ?_
              refine G.ret Tryd.func46 rfl rfl ?_
              refine ⟨_, rfl, ?_, rfl⟩
              rw [hnr, wrap_i64 (i := (n : Int)) ⟨by omega, by omega⟩]
              rfl
    refine G.cond rfl rfl (fun hm => ?_) (fun hm => ?_)
    · have hsz : 1 ≤ w.size := by rw [hm] at hmi; have := (of_decide_eq_true hmi).1; omega
      have ht := extract_tail w 1
      refine G.reg Tryd.func46 rfl ?_
      refine RW.pureS rfl rfl rfl rfl (OpP.move rfl) ?_
      refine RW.pureS rfl rfl rfl rfl (OpP.sliceStrLo Tryd.underlying9 rfl rfl 1 rfl (by omega)) ?_
      refine RW.pureS rfl rfl rfl rfl (OpP.assign rfl) ?_
      refine RW.done rfl ?_
      refine G.sub (ρ' := [(0, _), (2, _), (3, _), (4, _), (15, _)]) ⟨rfl, rfl, rfl, rfl, rfl, trivial⟩ ?_
      exact fin _ _ _ ⟨rfl, rfl, trivial⟩ rfl ⟨by rw [ht, hm]; rfl, by simp [ByteArray.size_extract]⟩
    · refine G.skip rfl ?_
      exact fin _ _ _ ⟨rfl, rfl, trivial⟩ rfl ⟨by rw [hm]; rfl, Nat.le_refl _⟩

end Go.Proofs.YtmbikkapabljfaaDoor
