/- limnerref27.digits, Number; script.number, limnerref27.number. -/
import Derived.Test.YtmbikkapabljfaaDoorScr2
import Derived.Test.YtmbikkapabljfaaDoorTexts2
namespace Go.Proofs.YtmbikkapabljfaaDoor
open Go Go.Lw
set_option maxRecDepth 20000

theorem wrap_u64 {i : Int} (h : 0 ≤ i ∧ i ≤ 18446744073709551615) : IntKind.u64.wrap i = i := by
  simp [IntKind.wrap, IntKind.bits, IntKind.signed]; omega

theorem dec_len (u : Nat) (k : Nat) (h : u < 10 ^ (k + 1)) : (Lib.decDigits u).length ≤ k + 1 := by
  rw [Lib.decDigits_length]
  induction k generalizing u with
  | zero => rw [Lib.nDigits_small (by simpa using h)]; exact Nat.le_refl _
  | succ k ih =>
    by_cases hu : u < 10
    · rw [Lib.nDigits_small hu]; omega
    · rw [Lib.nDigits_big hu]
      have := ih (u / 10) (by rw [Nat.pow_succ] at h; omega)
      omega

theorem dec_len20 {u : Nat} (h : u < 18446744073709551616) : (Lib.decDigits u).length ≤ 20 := dec_len u 19 (by omega)

def decAcc (n : Nat) (out : Bs) : Bs := if n = 0 ∧ out ≠ [] then out else Lib.decDigits n ++ out

theorem decAcc_step {n : Nat} {out : Bs} (h : 0 < n ∨ out = []) : decAcc (n / 10) ([hexd (n % 10)] ++ out) = decAcc n out := by
  have hx : hexd (n % 10) = UInt8.ofNat (48 + n % 10) := by unfold hexd; rw [if_pos (Nat.mod_lt _ (by decide))]
  have hr : decAcc n out = Lib.decDigits n ++ out := by
    unfold decAcc
    rw [if_neg]
    rintro ⟨h1, h2⟩
    rcases h with h | h
    · omega
    · exact h2 h
  rw [hr, hx]
  unfold decAcc
  by_cases h10 : n < 10
  · have hdn : Lib.decDigits n = [UInt8.ofNat (48 + n)] := by rw [Lib.decDigits, dif_pos h10]
    rw [hdn, if_pos ⟨by omega, by simp⟩, Nat.mod_eq_of_lt h10]
  · have hdn : Lib.decDigits n = Lib.decDigits (n / 10) ++ [UInt8.ofNat (48 + n % 10)] := by rw [Lib.decDigits, dif_neg h10]
    rw [hdn, if_neg (by rintro ⟨h1, _⟩; omega)]
    simp

theorem digitsR_calls {h : Heap} (n0 : Nat) (hn0 : n0 < 18446744073709551616) : CallsH Tryd.prog 50 #[.int .u64 n0] h (Ret fun r h' => r = .string (bs (Lib.decDigits n0)) ∧ h' = h) := by
  refine CallsH.of Tryd.func50 rfl rfl ?_
  refine G.seq rfl ?_
  refine G.reg Tryd.func50 rfl ?_
  refine RW.pureS rfl rfl rfl rfl (OpP.assign rfl) ?_
  refine RW.done rfl ?_
  refine G.sub (ρ' := [(0, _), (2, _)]) ⟨rfl, rfl, trivial⟩ ?_
  refine G.seq rfl ?_
  refine G.reg Tryd.func50 rfl ?_
  refine RW.pureS rfl rfl rfl rfl (OpP.assign rfl) ?_
  refine RW.done rfl ?_
  refine G.sub (ρ' := [(0, _), (2, _), (3, _)]) ⟨rfl, rfl, rfl, trivial⟩ ?_
  refine G.seq rfl ?_
  refine G.block rfl rfl ?_
  refine G.loop (σ := Nat × Bs) (fun q => [(0, .int .u64 q.1), (3, .string (bs q.2))]) (fun q h' => h' = h ∧ q.1 < 18446744073709551616 ∧ decAcc q.1 q.2 = Lib.decDigits n0 ∧ q.2.length ≤ 20) (fun q => 2 * q.1 + (if q.2 = [] then 1 else 0)) ((n0, [])) rfl ⟨rfl, rfl, trivial⟩ ⟨rfl, hn0, by simp [decAcc], by simp⟩ ?_
  rintro ⟨n, out⟩ h1 ⟨rfl, hn, hd, hl⟩ ih
  try dsimp only
  dsimp only at hn hd hl
  refine G.seq rfl ?_
  refine G.seq rfl ?_
  refine G.regTo1 [(9, .bool (decide (0 < n ∨ out = [])))] [(0, _), (3, _)] ⟨rfl, rfl, trivial⟩ Tryd.func50 rfl ?_ ?_
  · refine RW.pureS rfl rfl rfl rfl (OpP.move rfl) ?_
    refine RW.pureS rfl rfl rfl rfl (OpP.gtr rfl rfl) ?_
    refine RW.pureS rfl rfl rfl rfl (OpP.move rfl) ?_
    refine RW.split (d := 6) rfl (fun hg => ?_) (fun hg => ?_)
    · refine RW.skipS rfl rfl rfl rfl ?_
      refine RW.skipS rfl rfl rfl rfl ?_
      refine RW.pureS rfl rfl rfl rfl (OpP.pickT rfl rfl) ?_
      refine RW.done rfl ?_
      exact ⟨rfl, at_bool rfl (by have := of_decide_eq_true hg; simp; omega), rfl, rfl, trivial⟩
    · have hn0' : n = 0 := by have := of_decide_eq_false hg; omega
      refine RW.pureS rfl rfl rfl rfl (OpP.move rfl) ?_
      refine RW.pureS rfl rfl rfl rfl (OpP.eqlStr rfl rfl) ?_
      refine RW.pureS rfl rfl rfl rfl (OpP.pickF rfl rfl) ?_
      refine RW.done rfl ?_
      exact ⟨rfl, at_bool rfl (by subst hn0'; show decide (bs out = bs []) = _; rw [bs_eq]; simp), rfl, rfl, trivial⟩
  · refine G.ite rfl rfl (fun hc => ?_) (fun hc => ?_)
    · have hm : n % 10 < 16 := by omega
      have hlen : ([hexd (n % 10)] ++ out).length ≤ 20 := by
        have h1 := decAcc_step hc
        rw [hd] at h1
        have h2 := dec_len20 hn0
        rw [← h1] at h2
        have h3 : ([hexd (n % 10)] ++ out).length ≤ (decAcc (n / 10) ([hexd (n % 10)] ++ out)).length := by
          unfold decAcc
          split
          · exact Nat.le_refl _
          · simp only [List.length_append]; omega
        omega
      refine G.skip rfl ?_
      refine G.block rfl rfl ?_
      refine G.seq rfl ?_
      refine G.reg Tryd.func50 rfl ?_
      refine RW.pureS rfl rfl rfl rfl (OpP.move rfl) ?_
      refine RW.pureS rfl rfl rfl rfl (OpP.rem rfl rfl (by decide)) ?_
      refine RW.pureS rfl rfl rfl rfl (OpP.convIn Tryd.underlying100 Tryd.underlying5 rfl (show IntKind.u8.wrap ((n : Int).tmod 10) = (n : Int).tmod 10 by rw [Int.tmod_eq_emod_of_nonneg (by omega)]; exact wrap_u8 (by omega))) ?_
      refine RW.opS rfl rfl rfl rfl (OpX.call (vs := [_]) Tryd.func49 rfl H.nm49 rfl (CallsH.toX (hex_at (n % 10) hm (by rw [Int.tmod_eq_emod_of_nonneg (by omega)]; omega)))) ?_
      rintro _ _ ⟨rfl, rfl⟩
      refine RW.pureS rfl rfl rfl rfl (OpP.move rfl) ?_
      refine RW.pureS rfl rfl rfl rfl (OpP.addStr rfl rfl (by rw [bs_size, bs_size]; simp at hlen ⊢; omega)) ?_
      refine RW.pureS rfl rfl rfl rfl (OpP.assign rfl) ?_
      refine RW.done rfl ?_
      refine G.sub (ρ' := [(0, _), (3, _), (9, _)]) ⟨rfl, rfl, rfl, trivial⟩ ?_
      refine G.reg Tryd.func50 rfl ?_
      refine RW.pureS rfl rfl rfl rfl (OpP.move rfl) ?_
      refine RW.pureS rfl rfl rfl rfl (OpP.quo rfl rfl (by decide)) ?_
      refine RW.pureS rfl rfl rfl rfl (OpP.assign rfl) ?_
      refine RW.done rfl ?_
      refine G.sub (ρ' := [(0, _), (3, _), (9, _)]) ⟨rfl, rfl, rfl, trivial⟩ ?_
      refine G.blkEnd ?_
      have hq : IntKind.u64.wrap ((n : Int).tdiv 10) = ((n / 10 : Nat) : Int) := by rw [Int.tdiv_eq_ediv_of_nonneg (by omega), wrap_u64 (by omega)]; omega
      rw [hq, bs_append]
      exact ih (n / 10, [hexd (n % 10)] ++ out) _ _ ⟨rfl, rfl, trivial⟩ ⟨rfl, by show n / 10 < _; omega, by rw [← hd]; exact decAcc_step hc, hlen⟩ (by show 2 * (n / 10) + (if [hexd (n % 10)] ++ out = [] then 1 else 0) < 2 * n + (if out = [] then 1 else 0); rw [if_neg (by simp)]; rcases hc with hc | hc; { omega }; { rw [if_pos hc]; omega })
    · refine G.exit rfl rfl ?_
      refine G.seq rfl ?_
      refine G.reg Tryd.func50 rfl ?_
      refine RW.pureS rfl rfl rfl rfl (OpP.move rfl) ?_
      refine RW.pureS rfl rfl rfl rfl (OpP.assign rfl) ?_
      refine RW.done rfl ?_
      refine G.sub (ρ' := [(0, _), (2, _), (3, _), (9, _)]) ⟨rfl, rfl, rfl, rfl, trivial⟩ ?_
      refine G.ret Tryd.func50 rfl rfl ?_
      refine ⟨_, rfl, ?_, rfl⟩
      rw [← hd]
      unfold decAcc
      rw [if_pos ⟨by omega, fun e => hc (.inr e)⟩]
      rfl

theorem digitsR_at {h : Heap} {i : Int} (n : Nat) (hn : n < 18446744073709551616) (hi : i = n) : CallsH Tryd.prog 50 #[.int .u64 i] h (Ret fun r h' => r = .string (bs (Lib.decDigits n)) ∧ h' = h) := by
  subst hi; exact digitsR_calls n hn

theorem numberR_calls {h : Heap} (n : Int) (hn : -9223372036854775808 ≤ n ∧ n ≤ 9223372036854775807) : CallsH Tryd.prog 28 #[.int .i64 n] h (Ret fun r h' => r = .string (bs (Lib.itoa n)) ∧ h' = h) := by
  refine CallsH.of Tryd.func28 rfl rfl ?_
  refine G.seq rfl ?_
  refine G.reg Tryd.func28 rfl ?_
  refine RW.pureS rfl rfl rfl rfl (OpP.assign rfl) ?_
  refine RW.done rfl ?_
  refine G.sub (ρ' := [(0, _), (2, _)]) ⟨rfl, rfl, trivial⟩ ?_
  refine G.seq rfl ?_
  refine G.seq rfl ?_
  refine G.reg Tryd.func28 rfl ?_
  refine RW.pureS rfl rfl rfl rfl (OpP.move rfl) ?_
  refine RW.pureS rfl rfl rfl rfl (OpP.lss rfl rfl) ?_
  refine RW.done rfl ?_
  refine G.sub (ρ' := [(0, _), (2, _), (4, _)]) ⟨rfl, rfl, rfl, trivial⟩ ?_
  refine G.ite rfl rfl (fun hneg => ?_) (fun hneg => ?_)
  · have hlen := dec_len20 (u := n.natAbs) (by omega)
    refine G.seq rfl ?_
    refine G.reg Tryd.func28 rfl ?_
    refine RW.pureS rfl rfl rfl rfl (OpP.move rfl) ?_
    refine RW.pureS rfl rfl rfl rfl (OpP.add64 rfl rfl ⟨by omega, by omega⟩) ?_
    refine RW.pureS rfl rfl rfl rfl (OpP.neg rfl) ?_
    refine RW.pureS rfl rfl rfl rfl (OpP.convInt Tryd.underlying3 Tryd.underlying100 rfl) ?_
    refine RW.pureS rfl rfl rfl rfl (OpP.add rfl rfl) ?_
    refine RW.opS rfl rfl rfl rfl (OpX.call (vs := [_]) Tryd.func50 rfl H.nm50 rfl (CallsH.toX (digitsR_at n.natAbs (by omega) (by rw [wrap_i64 (i := 0 - (n + 1)) ⟨by omega, by omega⟩, wrap_u64 (i := 0 - (n + 1)) (by omega), wrap_u64 (i := 0 - (n + 1) + 1) (by omega)]; omega)))) ?_
    rintro _ _ ⟨rfl, rfl⟩
    refine RW.pureS rfl rfl rfl rfl (OpP.addStr rfl rfl (by rw [bs_size]; show 1 + _ ≤ _; omega)) ?_
    refine RW.pureS rfl rfl rfl rfl (OpP.assign rfl) ?_
    refine RW.done rfl ?_
    refine G.sub (ρ' := [(0, _), (2, _), (4, _)]) ⟨rfl, rfl, rfl, trivial⟩ ?_
    refine G.ret Tryd.func28 rfl rfl ?_
    refine ⟨_, rfl, ?_, rfl⟩
    unfold Lib.itoa
    rw [if_pos hneg]
    show Value.string (bs [45] ++ bs _) = _
    rw [bs_append]; rfl
  · refine G.skip rfl ?_
    refine G.seq rfl ?_
    refine G.reg Tryd.func28 rfl ?_
    refine RW.pureS rfl rfl rfl rfl (OpP.move rfl) ?_
    refine RW.pureS rfl rfl rfl rfl (OpP.convInt Tryd.underlying3 Tryd.underlying100 rfl) ?_
    refine RW.opS rfl rfl rfl rfl (OpX.call (vs := [_]) Tryd.func50 rfl H.nm50 rfl (CallsH.toX (digitsR_at n.toNat (by omega) (by rw [wrap_u64 (by omega)]; omega)))) ?_
    rintro _ _ ⟨rfl, rfl⟩
    refine RW.pureS rfl rfl rfl rfl (OpP.assign rfl) ?_
    refine RW.done rfl ?_
    refine G.sub (ρ' := [(0, _), (2, _), (4, _)]) ⟨rfl, rfl, rfl, trivial⟩ ?_
    refine G.ret Tryd.func28 rfl rfl ?_
    refine ⟨_, rfl, ?_, rfl⟩
    unfold Lib.itoa
    rw [if_neg hneg]
    rfl

end Go.Proofs.YtmbikkapabljfaaDoor
