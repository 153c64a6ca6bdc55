/- Plain words, the logic of walks, and walks that the statement's proof leans on (part 20). -/
import Derived.Test.YtlegopbpofofgaaDoorQa
import Derived.Test.YtlegopbpofofgaaDoorQb
import Derived.Test.YtlegopbpofofgaaDoorQc
import Derived.Test.YtlegopbpofofgaaDoorQd
import Derived.Test.YtlegopbpofofgaaDoorQe
import Derived.Test.YtlegopbpofofgaaDoorQf
import Derived.Test.YtlegopbpofofgaaDoorQg
import Derived.Test.YtlegopbpofofgaaDoorQh
import Derived.Test.YtlegopbpofofgaaDoorQi
import Derived.Test.YtlegopbpofofgaaDoorQj
import Derived.Test.YtlegopbpofofgaaDoorQk
import Derived.Test.YtlegopbpofofgaaDoorQl
import Derived.Test.YtlegopbpofofgaaDoorQm
import Derived.Test.YtlegopbpofofgaaDoorQn
import Derived.Test.YtlegopbpofofgaaDoorQo
import Derived.Test.YtlegopbpofofgaaDoorQp
import Derived.Test.YtlegopbpofofgaaDoorQq
import Derived.Test.YtlegopbpofofgaaDoorQr
import Derived.Test.YtlegopbpofofgaaDoorQs

namespace Go.Proofs.YtlegopbpofofgaaDoor
open Go Go.Lw
set_option maxRecDepth 20000
theorem specR_calls {h : Heap} (x : UInt8) : CallsH Tryd.prog 93 #[.int .u8 (x.toNat : Nat)] h (Ret fun r h' => r = .bool (decide (x ∈ specialB)) ∧ h' = h) := by
  refine CallsH.of Tryd.func93 rfl rfl ?_
  refine xr Tryd.func93 rfl ?_
  refine xq rfl ?_
  refine xd [0, 2] rfl ?_
  refine xr Tryd.func93 rfl ?_
  refine xq rfl ?_
  refine xd [0, 2, 3] rfl ?_
  refine G.seq rfl ?_
  refine xr Tryd.func93 rfl ?_
  refine xq rfl ?_
  refine xd [0, 2, 3, 4] rfl ?_
  refine G.block rfl rfl ?_
  refine G.loop (σ := Nat) (fun i => [(0, .int .u8 (x.toNat : Nat)), (3, .string (bs specialB)), (4, .int .i64 i)]) (fun i h' => h' = h ∧ i ≤ 12 ∧ x ∉ specialB.take i) (fun i => 12 - i) (0) rfl ⟨rfl, rfl, rfl, trivial⟩ ⟨rfl, by decide, by simp⟩ ?_
  rintro i h1 ⟨rfl, hi, hno⟩ ih
  have hz : (bs specialB).size = 12 := rfl
  refine G.seq rfl ?_
  refine xr Tryd.func93 rfl ?_
  iterate 2 refine xq rfl ?_
  refine xp rfl (OpP.lenString Tryd.underlying9 rfl) ?_
  refine xq rfl ?_
  refine xd [0, 3, 4, 8] rfl ?_
  refine G.ite rfl rfl (fun hlt => ?_) (fun hlt => ?_)
  · have hlt' : i < specialB.length := by show i < 12; omega
    have hat : specialB[i]? = some specialB[i] := List.getElem?_eq_getElem hlt'
    refine G.skip rfl ?_
    refine G.seq rfl ?_
    refine G.block rfl rfl ?_
    refine xr Tryd.func93 rfl ?_
    iterate 2 refine xq rfl ?_
    refine xp rfl (OpP.indexStr Tryd.underlying9 rfl rfl i rfl (bs_at hat)) ?_
    iterate 2 refine xq rfl ?_
    refine xd [0, 3, 4, 8, 15] rfl ?_
    refine G.ite rfl rfl (fun he => ?_) (fun he => ?_)
    · have he : specialB[i] = x := (u8_is rfl).1 he
      refine xr Tryd.func93 rfl ?_
      refine xq rfl ?_
      refine xd [0, 2, 3, 4, 8, 15] rfl ?_
      refine G.ret Tryd.func93 rfl rfl ?_
      exact ⟨_, rfl, by rw [show decide (x ∈ specialB) = true by rw [← he]; simp]; rfl, rfl⟩
    · have he : ¬ specialB[i] = x := fun e => he ((u8_is rfl).2 e)
      refine G.skip rfl ?_
      refine G.blkEnd ?_
      refine G.reg Tryd.func93 rfl ?_
      refine xq rfl ?_
      refine xp rfl (OpP.add64 rfl rfl ⟨by omega, by omega⟩) ?_
      refine xq rfl ?_
      refine xd [0, 3, 4, 8, 15] rfl ?_
      exact ih (i + 1) _ _ ⟨rfl, rfl, rfl, trivial⟩ ⟨rfl, by omega, by rw [List.take_add_one, hat]; simp only [List.mem_append, not_or]; exact ⟨hno, by simp; exact fun e => he e.symm⟩⟩ (by omega)
  · obtain rfl : i = 12 := by omega
    have hno : x ∉ specialB := hno
    refine G.exit rfl rfl ?_
    refine xr Tryd.func93 rfl ?_
    refine xq rfl ?_
    refine xd [0, 2, 3, 4, 8] rfl ?_
    refine G.ret Tryd.func93 rfl rfl ?_
    exact ⟨_, rfl, by rw [show decide (x ∈ specialB) = false by simp [hno]]; rfl, rfl⟩
def hexI (x : UInt8) : Int := match hexVal x with | some n => n | none => -1
theorem hexI_some {x : UInt8} : (0 ≤ hexI x) ↔ ∃ n, hexVal x = some n ∧ n < 16 ∧ hexI x = n := by
  unfold hexI
  cases hv : hexVal x with
  | none => simp
  | some n => exact ⟨fun _ => ⟨n, rfl, hexVal_lt hv, rfl⟩, fun _ => Int.natCast_nonneg _⟩
theorem hexI_none {x : UInt8} (h : ¬ 0 ≤ hexI x) : hexVal x = none := by
  unfold hexI at h
  cases hv : hexVal x with
  | none => rfl
  | some n => rw [hv] at h; exact absurd (Int.natCast_nonneg n) h
theorem digR_calls {h : Heap} (x : UInt8) : CallsH Tryd.prog 94 #[.int .u8 (x.toNat : Nat)] h (Ret fun r h' => r = .int .i64 (hexI x) ∧ h' = h) := by
  have hx := x.toNat_lt
  refine CallsH.of Tryd.func94 rfl rfl ?_
  refine xr Tryd.func94 rfl ?_
  refine xq rfl ?_
  refine xd [0, 2] rfl ?_
  refine G.seq rfl ?_
  refine G.seq rfl ?_
  refine G.regTo1 [(8, .bool (decide (48 ≤ x.toNat ∧ x.toNat ≤ 57)))] [(0, _), (2, _)] ⟨rfl, rfl, trivial⟩ Tryd.func94 rfl ?_ ?_
  · iterate 3 refine xq rfl ?_
    refine RW.split (d := 5) rfl (fun hg => ?_) (fun hg => ?_)
    · iterate 3 refine xq rfl ?_
      refine RW.done rfl ?_
      exact ⟨rfl, at_bool rfl (by have := of_decide_eq_true hg; simp only [decide_eq_decide]; omega), rfl, rfl, trivial⟩
    · iterate 2 refine xk rfl ?_
      refine xq rfl ?_
      refine RW.done rfl ?_
      exact ⟨rfl, at_bool rfl (by have := of_decide_eq_false hg; simp; omega), rfl, rfl, trivial⟩
  · refine G.ite rfl rfl (fun h1 => ?_) (fun h1 => ?_)
    · refine xr Tryd.func94 rfl ?_
      refine xq rfl ?_
      refine xp rfl (OpP.sub rfl rfl) ?_
      refine xp rfl (OpP.convIn Tryd.underlying5 Tryd.underlying3 rfl (wrap_i64 ⟨by rw [wrap_u8 (by omega)]; omega, by rw [wrap_u8 (by omega)]; omega⟩)) ?_
      refine xq rfl ?_
      refine xd [0, 2, 8] rfl ?_
      refine G.ret Tryd.func94 rfl rfl ?_
      refine ⟨_, rfl, ?_, rfl⟩
      have : hexVal x = some (x.toNat - 48) := by unfold hexVal; rw [if_pos h1]
      unfold hexI
      rw [this]
      show Value.int _ _ = Value.int _ _
      rw [wrap_u8 (by omega)]; congr 1; simp only; omega
    · refine G.skip rfl ?_
      refine G.seq rfl ?_
      refine G.seq rfl ?_
      refine G.regTo1 [(17, .bool (decide (97 ≤ x.toNat ∧ x.toNat ≤ 102)))] [(0, _), (2, _), (8, _)] ⟨rfl, rfl, rfl, trivial⟩ Tryd.func94 rfl ?_ ?_
      · iterate 3 refine xq rfl ?_
        refine RW.split (d := 14) rfl (fun hg => ?_) (fun hg => ?_)
        · iterate 3 refine xq rfl ?_
          refine RW.done rfl ?_
          exact ⟨rfl, at_bool rfl (by have := of_decide_eq_true hg; simp only [decide_eq_decide]; omega), rfl, rfl, rfl, trivial⟩
        · iterate 2 refine xk rfl ?_
          refine xq rfl ?_
          refine RW.done rfl ?_
          exact ⟨rfl, at_bool rfl (by have := of_decide_eq_false hg; simp; omega), rfl, rfl, rfl, trivial⟩
      · refine G.ite rfl rfl (fun h2 => ?_) (fun h2 => ?_)
        · have hw : IntKind.u8.wrap ((x.toNat : Int) - 97) = (x.toNat : Int) - 97 := wrap_u8 (by omega)
          refine xr Tryd.func94 rfl ?_
          refine xq rfl ?_
          refine xp rfl (OpP.sub rfl rfl) ?_
          refine xp rfl (OpP.convIn Tryd.underlying5 Tryd.underlying3 rfl (wrap_i64 ⟨by rw [hw]; omega, by rw [hw]; omega⟩)) ?_
          refine xp rfl (OpP.add64 rfl rfl ⟨by rw [hw]; omega, by rw [hw]; omega⟩) ?_
          refine xq rfl ?_
          refine xd [0, 2, 8, 17] rfl ?_
          refine G.ret Tryd.func94 rfl rfl ?_
          refine ⟨_, rfl, ?_, rfl⟩
          have : hexVal x = some (x.toNat - 87) := by unfold hexVal; rw [if_neg h1, if_pos h2]
          unfold hexI
          rw [this]
          show Value.int _ _ = Value.int _ _
          rw [hw]; congr 1; simp only; omega
        · refine G.skip rfl ?_
          refine G.seq rfl ?_
          refine G.seq rfl ?_
          refine G.regTo1 [(27, .bool (decide (65 ≤ x.toNat ∧ x.toNat ≤ 70)))] [(0, _), (2, _), (8, _), (17, _)] ⟨rfl, rfl, rfl, rfl, trivial⟩ Tryd.func94 rfl ?_ ?_
          · iterate 3 refine xq rfl ?_
            refine RW.split (d := 24) rfl (fun hg => ?_) (fun hg => ?_)
            · iterate 3 refine xq rfl ?_
              refine RW.done rfl ?_
              exact ⟨rfl, at_bool rfl (by have := of_decide_eq_true hg; simp only [decide_eq_decide]; omega), rfl, rfl, rfl, rfl, trivial⟩
            · iterate 2 refine xk rfl ?_
              refine xq rfl ?_
              refine RW.done rfl ?_
              exact ⟨rfl, at_bool rfl (by have := of_decide_eq_false hg; simp; omega), rfl, rfl, rfl, rfl, trivial⟩
          · refine G.ite rfl rfl (fun h3 => ?_) (fun h3 => ?_)
            · have hw : IntKind.u8.wrap ((x.toNat : Int) - 65) = (x.toNat : Int) - 65 := wrap_u8 (by omega)
              refine xr Tryd.func94 rfl ?_
              refine xq rfl ?_
              refine xp rfl (OpP.sub rfl rfl) ?_
              refine xp rfl (OpP.convIn Tryd.underlying5 Tryd.underlying3 rfl (wrap_i64 ⟨by rw [hw]; omega, by rw [hw]; omega⟩)) ?_
              refine xp rfl (OpP.add64 rfl rfl ⟨by rw [hw]; omega, by rw [hw]; omega⟩) ?_
              refine xq rfl ?_
              refine xd [0, 2, 8, 17, 27] rfl ?_
              refine G.ret Tryd.func94 rfl rfl ?_
              refine ⟨_, rfl, ?_, rfl⟩
              have : hexVal x = some (x.toNat - 55) := by unfold hexVal; rw [if_neg h1, if_neg h2, if_pos h3]
              unfold hexI
              rw [this]
              show Value.int _ _ = Value.int _ _
              rw [hw]; congr 1; simp only; omega
            · refine G.skip rfl ?_
              refine xr Tryd.func94 rfl ?_
              refine xq rfl ?_
              refine xd [0, 2, 8, 17, 27] rfl ?_
              refine G.ret Tryd.func94 rfl rfl ?_
              have : hexVal x = none := by unfold hexVal; rw [if_neg h1, if_neg h2, if_neg h3]
              exact ⟨_, rfl, by unfold hexI; rw [this]; rfl, rfl⟩
def atI (s : By) (i : Nat) : Int := match s[i]? with | some c => c.toNat | none => -1
theorem atI_cases (s : By) (i : Nat) : (s.length ≤ i ∧ s.drop i = [] ∧ atI s i = -1) ∨ ∃ c, s[i]? = some c ∧ i < s.length ∧ s.drop i = c :: s.drop (i + 1) ∧ atI s i = (c.toNat : Nat) := by
  rcases Nat.lt_or_ge i s.length with h | h
  · refine .inr ⟨s[i], List.getElem?_eq_getElem h, h, List.drop_eq_getElem_cons h, ?_⟩
    unfold atI; rw [List.getElem?_eq_getElem h]
  · refine .inl ⟨h, List.drop_of_length_le h, ?_⟩
    unfold atI; rw [List.getElem?_eq_none h]
theorem at_calls {h : Heap} (s : By) (i : Nat) : CallsH Tryd.prog 77 #[.string (bs s), .int .i64 (i : Nat)] h (Ret fun r h' => r = .int .i64 (atI s i) ∧ h' = h) := by
  have hz := bs_size s
  refine CallsH.of Tryd.func77 rfl rfl ?_
  refine xr Tryd.func77 rfl ?_
  refine xq rfl ?_
  refine xd [0, 1, 4] rfl ?_
  refine G.seq rfl ?_
  refine xr Tryd.func77 rfl ?_
  iterate 2 refine xq rfl ?_
  refine xp rfl (OpP.lenString Tryd.underlying9 rfl) ?_
  refine xq rfl ?_
  refine xd [0, 1, 4, 8] rfl ?_
  refine G.ite rfl rfl (fun hge => ?_) (fun hge => ?_)
  · have e : atI s i = -1 := by unfold atI; rw [List.getElem?_eq_none (by omega)]
    refine xr Tryd.func77 rfl ?_
    refine xq rfl ?_
    refine xd [0, 1, 4, 8] rfl ?_
    refine G.ret Tryd.func77 rfl rfl ?_
    exact ⟨_, rfl, by rw [e]; rfl, rfl⟩
  · obtain ⟨c, hc⟩ : ∃ c, s[i]? = some c := ⟨s[i]'(by omega), List.getElem?_eq_getElem (by omega)⟩
    have hcl := c.toNat_lt
    have e : atI s i = (c.toNat : Nat) := by unfold atI; rw [hc]
    refine G.skip rfl ?_
    refine xr Tryd.func77 rfl ?_
    iterate 2 refine xq rfl ?_
    refine xp rfl (OpP.indexStr Tryd.underlying9 rfl rfl i rfl (bs_at hc)) ?_
    refine xp rfl (OpP.convIn Tryd.underlying5 Tryd.underlying3 rfl (wrap_i64 ⟨by omega, by omega⟩)) ?_
    refine xq rfl ?_
    refine xd [0, 1, 4, 8] rfl ?_
    refine G.ret Tryd.func77 rfl rfl ?_
    exact ⟨_, rfl, by rw [e]; rfl, rfl⟩
theorem at_at {h : Heap} (s : By) (i : Nat) {j : Int} (hj : j = i) : CallsH Tryd.prog 77 #[.string (bs s), .int .i64 j] h (Ret fun r h' => r = .int .i64 (atI s i) ∧ h' = h) := by subst hj; exact at_calls s i
def letR (inb : Bool) : By → Option (UInt8 × By)
  | [] => none
  | b :: r => if b = 92 then escP r else if b ∈ specialB ∧ (inb = true ∨ (b ≠ 45 ∧ b ≠ 94)) then none else some (b, r)
theorem letR_true (l : By) : letR true l = letP l := by
  cases l with
  | nil => rfl
  | cons b r => simp [letR, letP]
def LetV (s : By) (p : Option (UInt8 × By)) (r : Value) : Prop :=
  match p with
  | none => ∃ b : Int, r = .tuple #[.int .u8 b, .int .i64 (-1)]
  | some (c, t) => ∃ k : Nat, k ≤ s.length ∧ t = s.drop k ∧ r = .tuple #[.int .u8 (c.toNat : Nat), .int .i64 (k : Nat)]
theorem u8_conv (c : UInt8) : IntKind.u8.wrap (((c.toNat : Nat) : Int)) = ((c.toNat : Nat) : Int) := wrap_u8 (by have := c.toNat_lt; omega)
theorem hexN_fin : ∀ m n : Fin 16, IntKind.u8.wrap ((m.val : Int) * 16 + (n.val : Int)) = ((UInt8.ofNat (m.val * 16 + n.val)).toNat : Nat) := by decide +kernel
theorem hexN {m n : Nat} (hm : m < 16) (hn : n < 16) : IntKind.u8.wrap ((m : Int) * 16 + (n : Int)) = ((UInt8.ofNat (m * 16 + n)).toNat : Nat) := hexN_fin ⟨m, hm⟩ ⟨n, hn⟩
theorem letR_cons (inb : Bool) (b : UInt8) (r : By) : letR inb (b :: r) = if b = 92 then escP r else if b ∈ specialB ∧ (inb = true ∨ (b ≠ 45 ∧ b ≠ 94)) then none else some (b, r) := rfl
theorem letterR_calls {h : Heap} (s : By) (i : Nat) (_hi : i ≤ s.length) (hs : s.length ≤ 1000000) (inb : Bool) : CallsH Tryd.prog 87 #[.string (bs s), .int .i64 (i : Nat), .bool inb] h (Ret fun r h' => LetV s (letR inb (s.drop i)) r ∧ h' = h) := by
  have hz := bs_size s
  refine CallsH.of Tryd.func87 rfl rfl ?_
  refine xr Tryd.func87 rfl ?_
  iterate 2 refine xq rfl ?_
  refine xd [0, 1, 2, 6, 7] rfl ?_
  refine xr Tryd.func87 rfl ?_
  iterate 2 refine xq rfl ?_
  refine xo rfl (OpX.call (vs := [_, _]) Tryd.func77 rfl H.nm77 rfl (CallsH.toX (at_calls s i))) ?_
  rintro _ _ ⟨rfl, rfl⟩
  refine xq rfl ?_
  refine xd [0, 1, 2, 6, 7, 8] rfl ?_
  refine G.seq rfl ?_
  refine xr Tryd.func87 rfl ?_
  iterate 2 refine xq rfl ?_
  refine xd [0, 1, 2, 6, 7, 8, 14] rfl ?_
  refine G.ite rfl rfl (fun hneg => ?_) (fun hneg => ?_)
  · have hd : s.drop i = [] := by
      rcases atI_cases s i with ⟨_, hd, _⟩ | ⟨c, _, _, _, ha⟩
      · exact hd
      · omega
    rw [hd]
    refine xr Tryd.func87 rfl ?_
    iterate 2 refine xq rfl ?_
    refine xd [0, 1, 2, 6, 7, 8, 14] rfl ?_
    refine G.ret Tryd.func87 rfl rfl ?_
    exact ⟨_, rfl, ⟨0, rfl⟩, rfl⟩
  · obtain ⟨c, hc, hlt, hd, ha⟩ : ∃ c, s[i]? = some c ∧ i < s.length ∧ s.drop i = c :: s.drop (i + 1) ∧ atI s i = (c.toNat : Nat) := by
      rcases atI_cases s i with ⟨_, _, ha⟩ | k
      · omega
      · exact k
    have hcl := c.toNat_lt
    rw [hd, ha]
    rw [ha] at hneg
    refine G.skip rfl ?_
    refine G.seq rfl ?_
    refine xr Tryd.func87 rfl ?_
    iterate 2 refine xq rfl ?_
    refine xd [0, 1, 2, 6, 7, 8, 14, 16] rfl ?_
    refine G.ite rfl rfl (fun hne => ?_) (fun hne => ?_)
    · have hne : ¬ c = 92 := fun e => hne (by rw [e]; rfl)
      refine G.seq rfl ?_
      refine G.seq rfl ?_
      refine G.regTo1 [(30, .bool (decide (c ∈ specialB ∧ (inb = true ∨ (c ≠ 45 ∧ c ≠ 94)))))] [(0, _), (1, _), (2, _), (6, _), (7, _), (8, _), (14, _), (16, _)] ⟨rfl, rfl, rfl, rfl, rfl, rfl, rfl, rfl, trivial⟩ Tryd.func87 rfl ?_ ?_
      · refine xq rfl ?_
        refine xp rfl (OpP.convInt Tryd.underlying3 Tryd.underlying5 rfl) ?_
        refine xo rfl (OpX.call (vs := [_]) Tryd.func93 rfl H.nm93 rfl (CallsH.toX (u8_conv c ▸ specR_calls c))) ?_
        rintro _ _ ⟨rfl, rfl⟩
        refine xq rfl ?_
        refine RW.split (d := 20) rfl (fun hsp => ?_) (fun hsp => ?_)
        · have hsp : c ∈ specialB := of_decide_eq_true hsp
          iterate 2 refine xq rfl ?_
          refine RW.split (d := 22) rfl (fun hin => ?_) (fun hin => ?_)
          · iterate 6 refine xk rfl ?_
            iterate 2 refine xq rfl ?_
            refine RW.done rfl ?_
            exact ⟨rfl, at_bool rfl (by simp [hsp, hin]), rfl, rfl, rfl, rfl, rfl, rfl, rfl, rfl, trivial⟩
          · iterate 3 refine xq rfl ?_
            refine RW.split (d := 25) rfl (fun h45 => ?_) (fun h45 => ?_)
            · have h45 : c ≠ 45 := fun e => (of_decide_eq_true h45) ((u8_is rfl).2 e)
              iterate 5 refine xq rfl ?_
              refine RW.done rfl ?_
              exact ⟨rfl, at_bool rfl (by simp only [hin, hsp, true_and]; simp only [Bool.false_eq_true, false_or, ne_eq, h45, not_false_eq_true, true_and]; exact decide_eq_decide.2 (not_congr (u8_is rfl))), rfl, rfl, rfl, rfl, rfl, rfl, rfl, rfl, trivial⟩
            · have h45 : c = 45 := (u8_is rfl).1 (Classical.not_not.1 (of_decide_eq_false h45))
              iterate 2 refine xk rfl ?_
              iterate 3 refine xq rfl ?_
              refine RW.done rfl ?_
              exact ⟨rfl, at_bool rfl (by simp [hin, h45]), rfl, rfl, rfl, rfl, rfl, rfl, rfl, rfl, trivial⟩
        · have hsp : ¬ c ∈ specialB := of_decide_eq_false hsp
          iterate 9 refine xk rfl ?_
          refine xq rfl ?_
          refine RW.done rfl ?_
          exact ⟨rfl, at_bool rfl (by simp [hsp]), rfl, rfl, rfl, rfl, rfl, rfl, rfl, rfl, trivial⟩
      · refine G.ite rfl rfl (fun hno => ?_) (fun hno => ?_)
        · have hl : letR inb (c :: s.drop (i + 1)) = none := by rw [letR_cons, if_neg hne, if_pos hno]
          refine xr Tryd.func87 rfl ?_
          iterate 2 refine xq rfl ?_
          refine xd [0, 1, 2, 6, 7, 8, 14, 16, 30] rfl ?_
          refine G.ret Tryd.func87 rfl rfl ?_
          exact ⟨_, rfl, by rw [hl]; exact ⟨0, rfl⟩, rfl⟩
        · have hl : letR inb (c :: s.drop (i + 1)) = some (c, s.drop (i + 1)) := by rw [letR_cons, if_neg hne, if_neg hno]
          refine G.skip rfl ?_
          refine xr Tryd.func87 rfl ?_
          refine xq rfl ?_
          refine xp rfl (OpP.convInt Tryd.underlying3 Tryd.underlying5 rfl) ?_
          refine xq rfl ?_
          refine xp rfl (OpP.add64 rfl rfl ⟨by omega, by omega⟩) ?_
          iterate 2 refine xq rfl ?_
          refine xd [0, 1, 2, 6, 7, 8, 14, 16, 30] rfl ?_
          refine G.ret Tryd.func87 rfl rfl ?_
          exact ⟨_, rfl, by rw [hl]; exact ⟨i + 1, by omega, rfl, by rw [u8_conv]; rfl⟩, rfl⟩
    · have he92 : c = 92 := (u8_is rfl).1 (Classical.not_not.1 hne)
      have hl : letR inb (c :: s.drop (i + 1)) = escP (s.drop (i + 1)) := by rw [letR_cons, if_pos he92]
      rw [hl]
      refine G.skip rfl ?_
      refine xr Tryd.func87 rfl ?_
      iterate 2 refine xq rfl ?_
      refine xp rfl (OpP.add64 rfl rfl ⟨by omega, by omega⟩) ?_
      refine xo rfl (OpX.call (vs := [_, _]) Tryd.func77 rfl H.nm77 rfl (CallsH.toX (at_at s (i + 1) rfl))) ?_
      rintro _ _ ⟨rfl, rfl⟩
      refine xq rfl ?_
      refine xd [0, 1, 2, 6, 7, 8, 9, 14, 16] rfl ?_
      refine G.seq rfl ?_
      refine xr Tryd.func87 rfl ?_
      iterate 2 refine xq rfl ?_
      refine xd [0, 1, 2, 6, 7, 8, 9, 14, 16, 40] rfl ?_
      rcases atI_cases s (i + 1) with ⟨hlen, hd1, ha1⟩ | ⟨d, hdc, hlt1, hd1, ha1⟩
      · rw [hd1, ha1]
        refine G.cond rfl rfl (fun hc => absurd hc (by decide)) (fun _ => ?_)
        refine G.skip rfl ?_
        refine G.seq rfl ?_
        refine xr Tryd.func87 rfl ?_
        iterate 2 refine xq rfl ?_
        refine xd [0, 1, 2, 6, 7, 8, 9, 14, 16, 40, 44] rfl ?_
        refine G.cond rfl rfl (fun hc => absurd hc (by decide)) (fun _ => ?_)
        refine G.skip rfl ?_
        refine G.seq rfl ?_
        refine xr Tryd.func87 rfl ?_
        iterate 2 refine xq rfl ?_
        refine xd [0, 1, 2, 6, 7, 8, 9, 14, 16, 40, 44, 48] rfl ?_
        refine G.cond rfl rfl (fun hc => absurd hc (by decide)) (fun _ => ?_)
        refine G.skip rfl ?_
        refine G.seq rfl ?_
        refine G.seq rfl ?_
        refine G.regTo1 [(75, .bool false)] [(0, _), (1, _), (2, _), (6, _), (7, _), (8, _), (9, _), (14, _), (16, _), (40, _), (44, _), (48, _)] ⟨rfl, rfl, rfl, rfl, rfl, rfl, rfl, rfl, rfl, rfl, rfl, rfl, trivial⟩ Tryd.func87 rfl ?_ ?_
        · iterate 3 refine xq rfl ?_
          refine RW.know (d := 53) (b' := false) rfl (decide_eq_false (by decide)) ?_
          iterate 5 refine xk rfl ?_
          iterate 2 refine xq rfl ?_
          iterate 6 refine xk rfl ?_
          iterate 2 refine xq rfl ?_
          iterate 6 refine xk rfl ?_
          refine xq rfl ?_
          refine RW.done rfl ?_
          exact ⟨rfl, at_bool rfl (rfl), rfl, rfl, rfl, rfl, rfl, rfl, rfl, rfl, rfl, rfl, rfl, rfl, trivial⟩
        · refine G.cond rfl rfl (fun hc => absurd hc (by decide)) (fun _ => ?_)
          refine G.skip rfl ?_
          refine G.seq rfl ?_
          refine G.seq rfl ?_
          refine G.regTo1 [(97, .bool false)] [(0, _), (1, _), (2, _), (6, _), (7, _), (8, _), (9, _), (14, _), (16, _), (40, _), (44, _), (48, _), (75, _)] ⟨rfl, rfl, rfl, rfl, rfl, rfl, rfl, rfl, rfl, rfl, rfl, rfl, rfl, trivial⟩ Tryd.func87 rfl ?_ ?_
          · iterate 3 refine xq rfl ?_
            refine RW.know (d := 93) (b' := false) rfl (decide_eq_false (by decide)) ?_
            iterate 3 refine xk rfl ?_
            refine xq rfl ?_
            refine RW.done rfl ?_
            exact ⟨rfl, at_bool rfl (rfl), rfl, rfl, rfl, rfl, rfl, rfl, rfl, rfl, rfl, rfl, rfl, rfl, rfl, trivial⟩
          · refine G.cond rfl rfl (fun hc => absurd hc (by decide)) (fun _ => ?_)
            refine G.skip rfl ?_
            refine xr Tryd.func87 rfl ?_
            iterate 2 refine xq rfl ?_
            refine xd [0, 1, 2, 6, 7, 8, 9, 14, 16, 40, 44, 48, 75, 97] rfl ?_
            refine G.ret Tryd.func87 rfl rfl ?_
            exact ⟨_, rfl, ⟨0, rfl⟩, rfl⟩
      · have hdl := d.toNat_lt
        rw [hd1, ha1, show i + 1 + 1 = i + 2 from rfl]
        refine G.ite rfl rfl (fun e1 => ?_) (fun e1 => ?_)
        · have e1 : d = 110 := (u8_is rfl).1 e1
          refine xr Tryd.func87 rfl ?_
          refine xq rfl ?_
          refine xp rfl (OpP.add64 rfl rfl ⟨by omega, by omega⟩) ?_
          iterate 2 refine xq rfl ?_
          refine xd [0, 1, 2, 6, 7, 8, 9, 14, 16, 40] rfl ?_
          refine G.ret Tryd.func87 rfl rfl ?_
          exact ⟨_, rfl, by rw [show escP (d :: s.drop (i + 2)) = some (10, s.drop (i + 2)) by unfold escP; simp [e1]]; exact ⟨i + 2, by omega, rfl, rfl⟩, rfl⟩
        · have e1 : ¬ d = 110 := fun e => e1 ((u8_is rfl).2 e)
          refine G.skip rfl ?_
          refine G.seq rfl ?_
          refine xr Tryd.func87 rfl ?_
          iterate 2 refine xq rfl ?_
          refine xd [0, 1, 2, 6, 7, 8, 9, 14, 16, 40, 44] rfl ?_
          refine G.ite rfl rfl (fun e2 => ?_) (fun e2 => ?_)
          · have e2 : d = 116 := (u8_is rfl).1 e2
            refine xr Tryd.func87 rfl ?_
            refine xq rfl ?_
            refine xp rfl (OpP.add64 rfl rfl ⟨by omega, by omega⟩) ?_
            iterate 2 refine xq rfl ?_
            refine xd [0, 1, 2, 6, 7, 8, 9, 14, 16, 40, 44] rfl ?_
            refine G.ret Tryd.func87 rfl rfl ?_
            exact ⟨_, rfl, by rw [show escP (d :: s.drop (i + 2)) = some (9, s.drop (i + 2)) by unfold escP; simp [e2]]; exact ⟨i + 2, by omega, rfl, rfl⟩, rfl⟩
          · have e2 : ¬ d = 116 := fun e => e2 ((u8_is rfl).2 e)
            refine G.skip rfl ?_
            refine G.seq rfl ?_
            refine xr Tryd.func87 rfl ?_
            iterate 2 refine xq rfl ?_
            refine xd [0, 1, 2, 6, 7, 8, 9, 14, 16, 40, 44, 48] rfl ?_
            refine G.ite rfl rfl (fun e3 => ?_) (fun e3 => ?_)
            · have e3 : d = 114 := (u8_is rfl).1 e3
              refine xr Tryd.func87 rfl ?_
              refine xq rfl ?_
              refine xp rfl (OpP.add64 rfl rfl ⟨by omega, by omega⟩) ?_
              iterate 2 refine xq rfl ?_
              refine xd [0, 1, 2, 6, 7, 8, 9, 14, 16, 40, 44, 48] rfl ?_
              refine G.ret Tryd.func87 rfl rfl ?_
              exact ⟨_, rfl, by rw [show escP (d :: s.drop (i + 2)) = some (13, s.drop (i + 2)) by unfold escP; simp [e3]]; exact ⟨i + 2, by omega, rfl, rfl⟩, rfl⟩
            · have e3 : ¬ d = 114 := fun e => e3 ((u8_is rfl).2 e)
              refine G.skip rfl ?_
              refine G.seq rfl ?_
              refine G.seq rfl ?_
              refine G.regTo1 [(75, .bool (decide (d = 120 ∧ ((s[i + 2]?).bind hexVal).isSome = true ∧ ((s[i + 3]?).bind hexVal).isSome = true)))] [(0, _), (1, _), (2, _), (6, _), (7, _), (8, _), (9, _), (14, _), (16, _), (40, _), (44, _), (48, _)] ⟨rfl, rfl, rfl, rfl, rfl, rfl, rfl, rfl, rfl, rfl, rfl, rfl, trivial⟩ Tryd.func87 rfl ?_ ?_
              · iterate 3 refine xq rfl ?_
                refine RW.split (d := 53) rfl (fun h120 => ?_) (fun h120 => ?_)
                · have h120 : d = 120 := (u8_is rfl).1 (of_decide_eq_true h120)
                  refine xq rfl ?_
                  refine xp rfl (OpP.add64 rfl rfl ⟨by omega, by omega⟩) ?_
                  refine xq rfl ?_
                  refine xp rfl (OpP.lenString Tryd.underlying9 rfl) ?_
                  iterate 3 refine xq rfl ?_
                  refine RW.split (d := 60) rfl (fun hlen3 => ?_) (fun hlen3 => ?_)
                  · have hlen3 : i + 3 < s.length := by have := of_decide_eq_true hlen3; omega
                    have hx : s[i + 2]? = some s[i + 2] := List.getElem?_eq_getElem (by omega)
                    have hy : s[i + 3]? = some s[i + 3] := List.getElem?_eq_getElem hlen3
                    generalize s[i + 2] = x at hx
                    generalize s[i + 3] = y at hy
                    iterate 2 refine xq rfl ?_
                    refine xp rfl (OpP.add64 rfl rfl ⟨by omega, by omega⟩) ?_
                    refine xp rfl (OpP.indexStr Tryd.underlying9 rfl rfl (i + 2) rfl (bs_at hx)) ?_
                    refine xo rfl (OpX.call (vs := [_]) Tryd.func94 rfl H.nm94 rfl (CallsH.toX (digR_calls x))) ?_
                    rintro _ _ ⟨rfl, rfl⟩
                    iterate 3 refine xq rfl ?_
                    refine RW.split (d := 68) rfl (fun hdx => ?_) (fun hdx => ?_)
                    · obtain ⟨m, hm, _, _⟩ := hexI_some.1 (of_decide_eq_true hdx)
                      iterate 2 refine xq rfl ?_
                      refine xp rfl (OpP.add64 rfl rfl ⟨by omega, by omega⟩) ?_
                      refine xp rfl (OpP.indexStr Tryd.underlying9 rfl rfl (i + 3) rfl (bs_at hy)) ?_
                      refine xo rfl (OpX.call (vs := [_]) Tryd.func94 rfl H.nm94 rfl (CallsH.toX (digR_calls y))) ?_
                      rintro _ _ ⟨rfl, rfl⟩
                      iterate 2 refine xq rfl ?_
                      refine RW.done rfl ?_
                      exact ⟨rfl, at_bool rfl (by rw [decide_eq_decide]; rw [hx, hy]; exact ⟨fun k => by obtain ⟨n, hn, _, _⟩ := hexI_some.1 k; exact ⟨h120, by simp [hm], by simp [hn]⟩, fun ⟨_, _, a3⟩ => by obtain ⟨n', a4⟩ := Option.isSome_iff_exists.1 a3; exact hexI_some.2 ⟨n', a4, hexVal_lt a4, by unfold hexI; rw [show hexVal y = some n' from a4]⟩⟩), rfl, rfl, rfl, rfl, rfl, rfl, rfl, rfl, rfl, rfl, rfl, rfl, trivial⟩
                    · have hdx := hexI_none (of_decide_eq_false hdx)
                      iterate 6 refine xk rfl ?_
                      refine xq rfl ?_
                      refine RW.done rfl ?_
                      exact ⟨rfl, at_bool rfl (by rw [eq_comm, decide_eq_false_iff_not, hx]; rintro ⟨_, a2, _⟩; simp [hdx] at a2), rfl, rfl, rfl, rfl, rfl, rfl, rfl, rfl, rfl, rfl, rfl, rfl, trivial⟩
                  · have hlen3 : ¬ i + 3 < s.length := by have := of_decide_eq_false hlen3; omega
                    iterate 6 refine xk rfl ?_
                    iterate 2 refine xq rfl ?_
                    iterate 6 refine xk rfl ?_
                    refine xq rfl ?_
                    refine RW.done rfl ?_
                    exact ⟨rfl, at_bool rfl (by rw [eq_comm, decide_eq_false_iff_not]; rintro ⟨_, _, a3⟩; rw [List.getElem?_eq_none (by omega)] at a3; cases a3), rfl, rfl, rfl, rfl, rfl, rfl, rfl, rfl, rfl, rfl, rfl, rfl, trivial⟩
                · have h120 : ¬ d = 120 := fun e => (of_decide_eq_false h120) ((u8_is rfl).2 e)
                  iterate 5 refine xk rfl ?_
                  iterate 2 refine xq rfl ?_
                  iterate 6 refine xk rfl ?_
                  iterate 2 refine xq rfl ?_
                  iterate 6 refine xk rfl ?_
                  refine xq rfl ?_
                  refine RW.done rfl ?_
                  exact ⟨rfl, at_bool rfl (by simp [h120]), rfl, rfl, rfl, rfl, rfl, rfl, rfl, rfl, rfl, rfl, rfl, rfl, trivial⟩
              · refine G.ite rfl rfl (fun hx => ?_) (fun hx => ?_)
                · obtain ⟨h120, x, y, m, n, hx, hy, hm, hn⟩ : d = 120 ∧ ∃ x y m n, s[i + 2]? = some x ∧ s[i + 3]? = some y ∧ hexVal x = some m ∧ hexVal y = some n := by
                    obtain ⟨a1, a2, a3⟩ := hx
                    cases hx2 : s[i + 2]? with
                    | none => rw [hx2] at a2; cases a2
                    | some x =>
                      cases hx3 : s[i + 3]? with
                      | none => rw [hx3] at a3; cases a3
                      | some y =>
                        rw [hx2] at a2; rw [hx3] at a3
                        obtain ⟨m, hm⟩ := Option.isSome_iff_exists.1 a2
                        obtain ⟨n, hn⟩ := Option.isSome_iff_exists.1 a3
                        exact ⟨a1, x, y, m, n, rfl, rfl, hm, hn⟩
                  have hm16 := hexVal_lt hm
                  have hn16 := hexVal_lt hn
                  have hix : hexI x = m := by unfold hexI; rw [hm]
                  have hiy : hexI y = n := by unfold hexI; rw [hn]
                  have hlx := (List.getElem?_eq_some_iff.1 hx)
                  have hly := (List.getElem?_eq_some_iff.1 hy)
                  have hdx : s.drop (i + 2) = x :: s.drop (i + 3) := by rw [List.drop_eq_getElem_cons hlx.1, hlx.2]
                  have hdy : s.drop (i + 3) = y :: s.drop (i + 4) := by rw [List.drop_eq_getElem_cons hly.1, hly.2]
                  have hl2 := hly.1
                  refine G.seq rfl ?_
                  refine G.drawQ Tryd.func87 H.mixed rfl (by kernel_rfl) ?_
                  refine RQ.pureS rfl rfl rfl rfl (OpP.move rfl) ?_
                  refine RQ.pureS rfl rfl rfl rfl (OpP.move rfl) ?_
                  refine RQ.pureS rfl rfl rfl rfl (OpP.add64 rfl rfl ⟨by omega, by omega⟩) ?_
                  refine RQ.pureS rfl rfl rfl rfl (OpP.indexStr Tryd.underlying9 rfl rfl (i + 2) rfl (bs_at hx)) ?_
                  refine RQ.callS (vs := [_]) rfl rfl rfl rfl rfl Tryd.func94 rfl H.nm94 rfl (digR_calls x) ?_
                  refine RQ.pureS rfl rfl rfl rfl (OpP.mul64 rfl rfl ⟨by rw [hix]; omega, by rw [hix]; omega⟩) ?_
                  refine RQ.pureS rfl rfl rfl rfl (OpP.move rfl) ?_
                  refine RQ.pureS rfl rfl rfl rfl (OpP.move rfl) ?_
                  refine RQ.pureS rfl rfl rfl rfl (OpP.add64 rfl rfl ⟨by omega, by omega⟩) ?_
                  refine RQ.pureS rfl rfl rfl rfl (OpP.indexStr Tryd.underlying9 rfl rfl (i + 3) rfl (bs_at hy)) ?_
                  refine RQ.callS (vs := [_]) rfl rfl rfl rfl rfl Tryd.func94 rfl H.nm94 rfl (digR_calls y) ?_
                  refine RQ.pureS rfl rfl rfl rfl (OpP.add64 rfl rfl ⟨by rw [hix, hiy]; omega, by rw [hix, hiy]; omega⟩) ?_
                  refine RQ.pureS rfl rfl rfl rfl (OpP.convInt Tryd.underlying3 Tryd.underlying5 rfl) ?_
                  refine RQ.pureS rfl rfl rfl rfl (OpP.move rfl) ?_
                  refine RQ.pureS rfl rfl rfl rfl (OpP.add64 rfl rfl ⟨by omega, by omega⟩) ?_
                  refine RQ.pureS rfl rfl rfl rfl (OpP.assign rfl) ?_
                  refine RQ.pureS rfl rfl rfl rfl (OpP.assign rfl) ?_
                  refine RQ.done rfl ?_
                  refine xu [0, 1, 2, 6, 7, 8, 9, 14, 16, 40, 44, 48, 75] rfl ?_
                  refine G.ret Tryd.func87 rfl rfl ?_
                  exact ⟨_, rfl, by rw [show escP (d :: s.drop (i + 2)) = some (UInt8.ofNat (m * 16 + n), s.drop (i + 4)) by rw [hdx, hdy]; unfold escP; simp [h120, hm, hn]]; exact ⟨i + 4, by omega, rfl, by rw [hix, hiy, hexN hm16 hn16]; rfl⟩, rfl⟩
                · refine G.skip rfl ?_
                  refine G.seq rfl ?_
                  refine G.seq rfl ?_
                  refine G.regTo1 [(97, .bool (decide (d ∈ specialB)))] [(0, _), (1, _), (2, _), (6, _), (7, _), (8, _), (9, _), (14, _), (16, _), (40, _), (44, _), (48, _), (75, _)] ⟨rfl, rfl, rfl, rfl, rfl, rfl, rfl, rfl, rfl, rfl, rfl, rfl, rfl, trivial⟩ Tryd.func87 rfl ?_ ?_
                  · iterate 3 refine xq rfl ?_
                    refine RW.know (d := 93) (b' := true) rfl (decide_eq_true (by omega)) ?_
                    refine xq rfl ?_
                    refine xp rfl (OpP.convInt Tryd.underlying3 Tryd.underlying5 rfl) ?_
                    refine xo rfl (OpX.call (vs := [_]) Tryd.func93 rfl H.nm93 rfl (CallsH.toX (u8_conv d ▸ specR_calls d))) ?_
                    rintro _ _ ⟨rfl, rfl⟩
                    refine xq rfl ?_
                    refine RW.done rfl ?_
                    exact ⟨rfl, at_bool rfl (rfl), rfl, rfl, rfl, rfl, rfl, rfl, rfl, rfl, rfl, rfl, rfl, rfl, rfl, trivial⟩
                  · have hno : d = 120 → escP (d :: s.drop (i + 2)) = none := fun h120 => by
                      subst h120
                      unfold escP
                      simp only [show ¬ ((120 : UInt8) = 110) by decide, show ¬ ((120 : UInt8) = 116) by decide, show ¬ ((120 : UInt8) = 114) by decide, if_false, if_true]
                      split
                      · rename_i x y t ht
                        have h2 : s[i + 2]? = some x := by have := congrArg (·[0]?) ht; simpa using this
                        have h3 : s[i + 3]? = some y := by have := congrArg (·[1]?) ht; simpa using this
                        split
                        · rename_i m n hm hn
                          exact absurd ⟨rfl, by rw [h2]; simp [hm], by rw [h3]; simp [hn]⟩ hx
                        · rfl
                      · rfl
                    refine G.ite rfl rfl (fun hsp => ?_) (fun hsp => ?_)
                    · refine xr Tryd.func87 rfl ?_
                      refine xq rfl ?_
                      refine xp rfl (OpP.convInt Tryd.underlying3 Tryd.underlying5 rfl) ?_
                      refine xq rfl ?_
                      refine xp rfl (OpP.add64 rfl rfl ⟨by omega, by omega⟩) ?_
                      iterate 2 refine xq rfl ?_
                      refine xd [0, 1, 2, 6, 7, 8, 9, 14, 16, 40, 44, 48, 75, 97] rfl ?_
                      refine G.ret Tryd.func87 rfl rfl ?_
                      have h120 : ¬ d = 120 := fun e => by rw [e] at hsp; revert hsp; decide
                      exact ⟨_, rfl, by rw [show escP (d :: s.drop (i + 2)) = some (d, s.drop (i + 2)) by unfold escP; simp [e1, e2, e3, h120, hsp]]; exact ⟨i + 2, by omega, rfl, by rw [u8_conv]; rfl⟩, rfl⟩
                    · have hfin : escP (d :: s.drop (i + 2)) = none := by
                        by_cases h120 : d = 120
                        · exact hno h120
                        · unfold escP; simp [e1, e2, e3, h120, hsp]
                      refine G.skip rfl ?_
                      refine xr Tryd.func87 rfl ?_
                      iterate 2 refine xq rfl ?_
                      refine xd [0, 1, 2, 6, 7, 8, 9, 14, 16, 40, 44, 48, 75, 97] rfl ?_
                      refine G.ret Tryd.func87 rfl rfl ?_
                      exact ⟨_, rfl, by rw [hfin]; exact ⟨0, rfl⟩, rfl⟩
theorem tmod2 (x : Nat) : ((x : Nat) : Int).tmod 2 = ((x % 2 : Nat) : Int) := by rw [Int.tmod_eq_emod_of_nonneg (Int.natCast_nonneg _)]; omega
theorem encSet_one (s : Nat) : ∀ v ∈ encSet s, v.oneCell' = true := by
  intro v hv
  simp [encSet, encW] at hv
  rcases hv with rfl | rfl | rfl | rfl <;> rfl
theorem encSet_word (s q : Nat) (hq : q < 4) : (encSet s)[0 + q * 1]? = some (encW s q) := by
  match q, hq with
  | 0, _ => rfl
  | 1, _ => rfl
  | 2, _ => rfl
  | 3, _ => rfl
theorem encSet_with (s : Nat) (i : Nat) (hi : i < 256) : (encSet s).set (0 + i / 64 * 1) (.int .u64 ((wrd s (i / 64) ||| 2 ^ (i % 64) : Nat) : Int)) = encSet (s ||| (1 <<< i)) := by
  have h := ndC_with 0 s (.bool true) i hi
  have h2 := congrArg (fun l => (l.drop 1).take 4) h
  have h4 : i / 64 < 4 := by omega
  generalize i / 64 = q at *
  match q, h4 with
  | 0, _ => exact h2
  | 1, _ => exact h2
  | 2, _ => exact h2
  | 3, _ => exact h2
theorem hasR_calls {h : Heap} (s : Nat) (b : UInt8) : CallsH Tryd.prog 65 #[.agg (encSet s).toArray, .int .u8 (b.toNat : Nat)] h (Ret fun r h' => r = .bool (s.testBit b.toNat) ∧ Ext0 h h') := by
  have hb := b.toNat_lt
  have hq : b.toNat / 64 < 4 := by omega
  have hcv : IntKind.i64.wrap ((b.toNat : Nat) : Int) = ((b.toNat : Nat) : Int) := wrap_i64 ⟨by omega, by omega⟩
  have hdiv : IntKind.i64.wrap (((b.toNat : Int)).tdiv 64) = ((b.toNat / 64 : Nat) : Int) := by
    rw [Int.tdiv_eq_ediv_of_nonneg (by omega), wrap_i64 ⟨by omega, by omega⟩]; omega
  have hmod : ((b.toNat : Int)).tmod 64 = ((b.toNat % 64 : Nat) : Int) := by rw [Int.tmod_eq_emod_of_nonneg (by omega)]; omega
  have hm64 : b.toNat % 64 < 64 := Nat.mod_lt _ (by decide)
  refine CallsH.of Tryd.func65 rfl rfl ?_
  refine xr Tryd.func65 rfl ?_
  refine xo rfl (OpX.boxN rfl) ?_
  rintro _ h1 ⟨rfl, hk, he, hz⟩
  have hk : Blk h1 h.size 60 (encSet s) := hk
  refine xq rfl ?_
  refine xd [0, 1, 2, 4] rfl ?_
  refine xr Tryd.func65 rfl ?_
  refine xq rfl ?_
  refine xp rfl (OpP.convIn Tryd.underlying5 Tryd.underlying3 rfl hcv) ?_
  refine xp rfl (OpP.quo rfl rfl (by decide)) ?_
  refine xp rfl (OpP.indexArr Tryd.underlying60 H.sz59 rfl rfl (b.toNat / 64) hdiv hq) ?_
  refine xp rfl (OpP.load H.ag59 rfl (hk.cell (encSet_word s _ hq))) ?_
  refine xq rfl ?_
  refine xp rfl (OpP.convIn Tryd.underlying5 Tryd.underlying3 rfl hcv) ?_
  refine xp rfl (OpP.rem rfl rfl (by decide)) ?_
  refine xp rfl (OpP.shr rfl rfl (by rw [hmod]; omega)) ?_
  refine xp rfl (OpP.rem rfl rfl (by decide)) ?_
  iterate 2 refine xq rfl ?_
  refine xd [0, 1, 2, 4] rfl ?_
  refine G.ret Tryd.func65 rfl rfl ?_
  refine ⟨_, rfl, ?_, he⟩
  show Value.bool _ = _
  rw [hmod, shr64 _ _ hm64, tmod2, wrd_has]
  cases s.testBit b.toNat <;> rfl
theorem add_or {x k : Nat} (hx : x < 2 ^ 64) (hk : k < 64) (hb : x.testBit k = false) : x + 2 ^ k = x ||| 2 ^ k := by
  have h2 : 2 ^ k < 2 ^ 64 := Nat.pow_lt_pow_right (by decide) hk
  have hand : (BitVec.ofNat 65 x) &&& (BitVec.ofNat 65 (2 ^ k)) = 0#65 := by
    apply BitVec.eq_of_toNat_eq
    rw [BitVec.toNat_and, BitVec.toNat_ofNat, BitVec.toNat_ofNat, Nat.mod_eq_of_lt (by omega), Nat.mod_eq_of_lt (by omega)]
    apply Nat.eq_of_testBit_eq
    intro i
    rw [Nat.testBit_and, Nat.testBit_two_pow]
    by_cases e : k = i
    · subst e; simp [hb]
    · simp [e]
  have h := congrArg BitVec.toNat (BitVec.add_eq_or_of_and_eq_zero _ _ hand)
  rw [BitVec.toNat_add, BitVec.toNat_or, BitVec.toNat_ofNat, BitVec.toNat_ofNat, Nat.mod_eq_of_lt (show x < 2 ^ 65 by omega), Nat.mod_eq_of_lt (show 2 ^ k < 2 ^ 65 by omega), Nat.mod_eq_of_lt (by omega)] at h
  exact h
theorem or_same {s i : Nat} (h : s.testBit i = true) : s ||| (1 <<< i) = s := by
  apply Nat.eq_of_testBit_eq
  intro j
  rw [Nat.testBit_or, Nat.one_shiftLeft, Nat.testBit_two_pow]
  by_cases e : i = j
  · subst e; simp [h]
  · simp [e]
theorem with_calls {h : Heap} (s a b : Nat) (hb : b ≤ 255) (ha : a ≤ 256) : CallsH Tryd.prog 86 #[.agg (encSet s).toArray, .int .i64 (a : Nat), .int .i64 (b : Nat)] h (Ret fun r h' => r = .agg (encSet (spanN s a (b + 1 - a))).toArray ∧ Ext0 h h') := by
  refine CallsH.of Tryd.func86 rfl rfl ?_
  refine xr Tryd.func86 rfl ?_
  refine xo rfl (OpX.boxN rfl) ?_
  rintro _ h1 ⟨rfl, hk, he, hz⟩
  refine xo rfl (OpX.allocN H.zr60) ?_
  rintro _ h2 ⟨rfl, hk2, he2, hz2⟩
  have hk : Blk h1 h.size 60 (encSet s) := hk
  have hk1 := hk.ext0 he2
  have hk2 : Blk h2 h1.size 60 (encSet 0) := hk2
  refine xd [0, 1, 2, 3, 6] rfl ?_
  refine G.seq rfl ?_
  refine xr Tryd.func86 rfl ?_
  iterate 2 refine xq rfl ?_
  refine xd [0, 1, 2, 3, 6, 7] rfl ?_
  refine G.block rfl rfl ?_
  refine G.loop (σ := Nat × Nat) (fun q => [(2, .int .i64 (b : Nat)), (3, .pointer (some ⟨h.size, 0, none⟩)), (6, .pointer (some ⟨h1.size, 0, none⟩)), (7, .int .i64 (q.1 : Nat))]) (fun q h' => Blk h' h.size 60 (encSet q.2) ∧ Blk h' h1.size 60 (encSet 0) ∧ Ext0 h h' ∧ q.1 ≤ 256 ∧ spanN q.2 q.1 (b + 1 - q.1) = spanN s a (b + 1 - a)) (fun q => b + 1 - q.1) ((a, s)) rfl ⟨rfl, rfl, rfl, rfl, trivial⟩ ⟨hk1, hk2, he.trans he2, ha, rfl⟩ ?_
  rintro ⟨i, s'⟩ h3 ⟨hk3, hk33, he3, hi, hsp⟩ ih
  try dsimp only
  dsimp only at hk3 hi hsp
  refine G.seq rfl ?_
  refine xr Tryd.func86 rfl ?_
  iterate 3 refine xq rfl ?_
  refine xd [2, 3, 6, 7, 11] rfl ?_
  refine G.ite rfl rfl (fun hle => ?_) (fun hle => ?_)
  · rw [spanN_step _ _ _ (by omega)] at hsp
    have hi8 : i < 256 := by omega
    have hub : (UInt8.ofNat i).toNat = i := by simp; omega
    have hcv : IntKind.u8.wrap ((i : Nat) : Int) = (((UInt8.ofNat i).toNat : Nat) : Int) := by rw [hub]; exact wrap_u8 (by omega)
    have hq : i / 64 < 4 := by omega
    have hdiv : IntKind.i64.wrap (((i : Int)).tdiv 64) = ((i / 64 : Nat) : Int) := by
      rw [Int.tdiv_eq_ediv_of_nonneg (by omega), wrap_i64 ⟨by omega, by omega⟩]; omega
    have hmod : ((i : Int)).tmod 64 = ((i % 64 : Nat) : Int) := by rw [Int.tmod_eq_emod_of_nonneg (by omega)]; omega
    refine G.skip rfl ?_
    refine G.seq rfl ?_
    refine G.block rfl rfl ?_
    refine xr Tryd.func86 rfl ?_
    refine xp rfl (OpP.loadRowN H.ag60 H.sz60 rfl hk3.row (by first | rfl | simp)) ?_
    refine xq rfl ?_
    refine xp rfl (OpP.convInt Tryd.underlying3 Tryd.underlying5 rfl) ?_
    refine xo rfl (OpX.call (vs := [_, _]) Tryd.func65 rfl H.nm65 rfl (CallsH.toX (hcv ▸ hasR_calls s' (UInt8.ofNat i)))) ?_
    rintro _ h4 ⟨rfl, he4⟩
    refine xq rfl ?_
    refine xd [2, 3, 6, 7, 11, 18] rfl ?_
    have hk4 := hk3.ext0 he4
    have hk44 := hk33.ext0 he4
    rw [hub]
    refine G.cond rfl rfl (fun hnot => ?_) (fun hnot => ?_)
    · have hbit : s'.testBit i = false := by simpa using hnot
      have hw := wrd_lt s' (i / 64)
      have hk4' : Blk h4 h.size 60 [encW s' 0, encW s' 1, encW s' 2, encW s' 3] := hk4
      refine G.draw (fun b => Array.size h4 ≤ b) (fun i => Nat.blt i 11) (sz := 12) (listed := #[false, false, false, false, false, false, false, false, false, false, false, false]) Tryd.func86 H.mixed rfl rfl rfl ?_
      refine RD.takeS 0 (listed' := #[true, false, false, false, false, false, false, false, false, false, false, false]) rfl (by kernel_rfl) (by kernel_rfl) (by kernel_rfl) rfl rfl rfl (fun h' e => OpP.move rfl) rfl ?_
      refine RD.takeS 1 (listed' := #[true, true, false, false, false, false, false, false, false, false, false, false]) rfl (by kernel_rfl) (by kernel_rfl) (by kernel_rfl) rfl rfl rfl (fun h' e => OpP.quo rfl rfl (by decide)) rfl ?_
      refine RD.takeS 2 (listed' := #[true, true, true, false, false, false, false, false, false, false, false, false]) rfl (by kernel_rfl) (by kernel_rfl) (by kernel_rfl) rfl rfl rfl (fun h' e => OpP.move rfl) rfl ?_
      refine RD.takeS 3 (listed' := #[true, true, true, true, false, false, false, false, false, false, false, false]) rfl (by kernel_rfl) (by kernel_rfl) (by kernel_rfl) rfl rfl rfl (fun h' e => OpP.quo rfl rfl (by decide)) rfl ?_
      refine RD.takeS 4 (listed' := #[true, true, true, true, true, false, false, false, false, false, false, false]) rfl (by kernel_rfl) (by kernel_rfl) (by kernel_rfl) rfl rfl rfl (fun h' e => OpP.indexArr Tryd.underlying60 H.sz59 rfl rfl (i / 64) hdiv hq) rfl ?_
      refine RD.takeS 5 (listed' := #[true, true, true, true, true, true, false, false, false, false, false, false]) rfl (by kernel_rfl) (by kernel_rfl) (by kernel_rfl) rfl rfl rfl (fun h' e => OpP.load H.ag59 rfl (e.old (hk4.cell (encSet_word s' _ hq)))) rfl ?_
      refine RD.takeS 6 (listed' := #[true, true, true, true, true, true, true, false, false, false, false, false]) rfl (by kernel_rfl) (by kernel_rfl) (by kernel_rfl) rfl rfl rfl (fun h' e => OpP.move rfl) rfl ?_
      refine RD.takeS 7 (listed' := #[true, true, true, true, true, true, true, true, false, false, false, false]) rfl (by kernel_rfl) (by kernel_rfl) (by kernel_rfl) rfl rfl rfl (fun h' e => OpP.rem rfl rfl (by decide)) rfl ?_
      refine RD.takeS 8 (listed' := #[true, true, true, true, true, true, true, true, true, false, false, false]) rfl (by kernel_rfl) (by kernel_rfl) (by kernel_rfl) rfl rfl rfl (fun h' e => OpP.shl rfl rfl (by rw [hmod]; omega)) rfl ?_
      refine RD.takeS 9 (listed' := #[true, true, true, true, true, true, true, true, true, true, false, false]) rfl (by kernel_rfl) (by kernel_rfl) (by kernel_rfl) rfl rfl rfl (fun h' e => OpP.add rfl rfl) rfl ?_
      refine RD.takeS 10 (listed' := #[true, true, true, true, true, true, true, true, true, true, true, false]) rfl (by kernel_rfl) (by kernel_rfl) (by kernel_rfl) rfl rfl rfl (fun h' e => OpP.indexArr Tryd.underlying60 H.sz59 rfl rfl (i / 64) hdiv hq) rfl ?_
      refine RD.one0 11 (listed' := #[true, true, true, true, true, true, true, true, true, true, true, true]) rfl (by kernel_rfl) rfl rfl (OpX.storeOne H.sz59 rfl rfl hk4' (by first | decide | exact of_decide_eq_true rfl | (simp; done) | (simp; omega)) rfl) rfl ?_
      rintro _ h5 ⟨rfl, hk5, hx5, hz5⟩
      refine ⟨fun hk => (nomatch hk), ?_⟩
      refine RD.done (by kernel_rfl) ?_
      refine xu [2, 3, 6, 7, 11, 18] rfl ?_
      refine G.blkEnd ?_
      refine G.reg Tryd.func86 rfl ?_
      refine xq rfl ?_
      refine xp rfl (OpP.add64 rfl rfl ⟨by omega, by omega⟩) ?_
      refine xq rfl ?_
      refine xd [2, 3, 6, 7, 11, 18] rfl ?_
      have hval : IntKind.u64.wrap (((wrd s' (i / 64) : Nat) : Int) + IntKind.u64.wrap (1 * 2 ^ min (((i : Int)).tmod 64).toNat IntKind.u64.bits)) = ((wrd s' (i / 64) ||| 2 ^ (i % 64) : Nat) : Int) := by
        have hm64 : i % 64 < 64 := Nat.mod_lt _ (by decide)
        have hbw : (wrd s' (i / 64)).testBit (i % 64) = false := by
          rw [wrd_bit, show 64 * (i / 64) + i % 64 = i from Nat.div_add_mod i 64, hbit]; simp
        rw [hmod, shl64, ← add_or hw hm64 hbw]
        have h2 : 2 ^ (i % 64) < 2 ^ 64 := Nat.pow_lt_pow_right (by decide) hm64
        have h3 : wrd s' (i / 64) ||| 2 ^ (i % 64) < 2 ^ 64 := Nat.or_lt_two_pow hw h2
        rw [← add_or hw hm64 hbw] at h3
        generalize 2 ^ (i % 64) = p at *
        rw [wrap_u64' ⟨by omega, by omega⟩]; omega
      have hk5 : Blk h5 h.size 60 (encSet (s' ||| (1 <<< i))) := by rw [← encSet_with s' i hi8, ← hval]; exact hk5
      exact ih (i + 1, s' ||| (1 <<< i)) _ _ ⟨rfl, rfl, rfl, rfl, trivial⟩ ⟨hk5, hk44.ext hx5 (by show ¬ _ = _; omega), Ext0.only (he3.trans he4) hx5 (Nat.le_refl _), by show i + 1 ≤ 256; omega, by show spanN _ (i + 1) (b + 1 - (i + 1)) = _; rw [← hsp]; rfl⟩ (by show b + 1 - (i + 1) < b + 1 - i; omega)
    · have hbit : s'.testBit i = true := by simpa using hnot
      rw [or_same hbit] at hsp
      refine G.skip rfl ?_
      refine G.blkEnd ?_
      refine G.reg Tryd.func86 rfl ?_
      refine xq rfl ?_
      refine xp rfl (OpP.add64 rfl rfl ⟨by omega, by omega⟩) ?_
      refine xq rfl ?_
      refine xd [2, 3, 6, 7, 11, 18] rfl ?_
      exact ih (i + 1, s') _ _ ⟨rfl, rfl, rfl, rfl, trivial⟩ ⟨hk4, hk44, he3.trans he4, by show i + 1 ≤ 256; omega, by show spanN _ (i + 1) (b + 1 - (i + 1)) = _; rw [← hsp]; rfl⟩ (by show b + 1 - (i + 1) < b + 1 - i; omega)
  · have h0 : b + 1 - i = 0 := by omega
    rw [h0] at hsp
    have hsp : s' = spanN s a (b + 1 - a) := hsp
    subst hsp
    refine G.exit rfl rfl ?_
    refine xr Tryd.func86 rfl ?_
    refine xp rfl (OpP.loadRowN H.ag60 H.sz60 rfl hk3.row (by first | rfl | simp)) ?_
    refine RW.op0 rfl rfl rfl (OpX.storeBlk H.sz60 rfl rfl hk33 (by first | rfl | simp) (by first | decide | exact of_decide_eq_true rfl | (simp; done) | (simp; omega)) (encSet_one _)) ?_
    rintro _ h4 ⟨rfl, hk4, hx4, hz4⟩
    refine xd [2, 3, 6, 7, 11] rfl ?_
    have hk4 : Blk h4 h1.size 60 (encSet (spanN s a (b + 1 - a))) := hk4
    refine G.retC Tryd.func86 rfl (.cons (ResOk.rowN H.ag60 H.sz60 rfl (hk4.row) (by first | rfl | simp)) (.nil)) ?_
    exact ⟨_, rfl, rfl, Ext0.only he3 hx4 (by omega)⟩
theorem spanN_lt : ∀ (n s a : Nat), s < 2 ^ 256 → a + n ≤ 256 → spanN s a n < 2 ^ 256
  | 0, s, a, h, _ => h
  | n + 1, s, a, h, hn => spanN_lt n _ _ (Nat.or_lt_two_pow h (by rw [Nat.one_shiftLeft]; exact Nat.pow_lt_pow_right (by decide) (by omega))) (by omega)
def NodV (n0 : Nat) (h' : Heap) (s : By) (p : Option (Nd × By)) (r : Value) : Prop :=
  match p with
  | none => ∃ (k st : Nat) (w : Value), w.oneCell' = true ∧ r = .tuple #[.agg (ndC k st w).toArray, .int .i64 (-1)]
  | some (x, t) => ∃ (w : Value) (k : Nat), k ≤ s.length ∧ t = s.drop k ∧ r = .tuple #[.agg (ndC x.kind x.set w).toArray, .int .i64 (k : Nat)] ∧ NdAt h' (blw n0) (ndC x.kind x.set w) x
theorem spanB_lt {acc : Nat} (a b : UInt8) (h : acc < 2 ^ 256) (hab : a.toNat ≤ b.toNat + 1) : spanB acc a b < 2 ^ 256 := spanN_lt _ _ _ h (by have := a.toNat_lt; have := b.toNat_lt; omega)
theorem notSet_eq {acc o : Nat} (ha : acc < 2 ^ 256) (ho : ∀ i, o.testBit i = (decide (i < 256) && !acc.testBit i)) : o = notSet acc := by
  apply Nat.eq_of_testBit_eq
  intro i
  unfold notSet
  rw [ho, Nat.testBit_xor, show allSet = 2 ^ 256 - 1 from rfl, Nat.testBit_two_pow_sub_one]
  by_cases hi : i < 256
  · simp [hi]
  · have : acc.testBit i = false := Nat.testBit_lt_two_pow (Nat.lt_of_lt_of_le ha (Nat.pow_le_pow_right (by decide) (by omega)))
    simp [hi, this]
theorem head_at (s : By) (j : Nat) (c : UInt8) : (atI s j = (c.toNat : Nat)) ↔ (s.drop j).head? = some c := by
  rcases atI_cases s j with ⟨_, hd, ha⟩ | ⟨d, _, _, hd, ha⟩
  · rw [hd, ha]; constructor
    · intro e; omega
    · intro e; cases e
  · rw [hd, ha]
    simp only [List.head?_cons, Option.some.injEq]
    exact ⟨fun e => UInt8.toNat_inj.1 (by omega), fun e => by rw [e]⟩
theorem tail_drop (s : By) (j : Nat) : (s.drop j).tail = s.drop (j + 1) := by rw [List.tail_drop]
theorem ndC_part (k s : Nat) (w : Value) : ∀ (j : Nat) (v : Value), (encSet s)[j]? = some v → (ndC k s w)[1 + j]? = some v
  | 0, _, h => h
  | 1, _, h => h
  | 2, _, h => h
  | 3, _, h => h
  | _ + 4, _, h => by simp [encSet] at h
theorem bits_with {o acc b : Nat} (h : ∀ i, o.testBit i = (decide (i < b) && !acc.testBit i)) (hb : acc.testBit b = false) (i : Nat) : (o ||| (1 <<< b)).testBit i = (decide (i < b + 1) && !acc.testBit i) := by
  rw [Nat.testBit_or, h, Nat.one_shiftLeft, Nat.testBit_two_pow]
  by_cases e : b = i
  · subst e; simp [hb]
  · by_cases e2 : i < b
    · simp [e, e2, show i < b + 1 by omega]
    · simp [e, e2, show ¬ i < b + 1 by omega]
theorem bits_keep {o acc b : Nat} (h : ∀ i, o.testBit i = (decide (i < b) && !acc.testBit i)) (hb : acc.testBit b = true) (i : Nat) : o.testBit i = (decide (i < b + 1) && !acc.testBit i) := by
  rw [h]
  by_cases e : b = i
  · subst e; simp [hb]
  · by_cases e2 : i < b
    · simp [e2, show i < b + 1 by omega]
    · simp [e2, show ¬ i < b + 1 by omega]
theorem bracketR_calls {h : Heap} (s : By) (i : Nat) (hi : i ≤ s.length) (hs : s.length ≤ 1000000) : CallsH Tryd.prog 85 #[.string (bs s), .int .i64 (i : Nat)] h (Ret fun r h' => NodV h.size h' s (bracketP (s.drop i)) r ∧ Ext0 h h') := by
  have hbr := bracketP_cont (s.drop i)
  refine CallsH.of Tryd.func85 rfl rfl ?_
  refine xr Tryd.func85 rfl ?_
  refine xo rfl (OpX.allocN H.zr94) ?_
  rintro _ h1 ⟨rfl, hkr, he1, hz1⟩
  refine xq rfl ?_
  refine xd [0, 1, 4, 5] rfl ?_
  refine xr Tryd.func85 rfl ?_
  refine xp rfl (OpP.build (H.bd94_0 _) rfl) ?_
  refine xo rfl (OpX.allocN H.zr94) ?_
  rintro _ h2 ⟨rfl, hk2, he2, hz2⟩
  refine RW.op0 rfl rfl rfl (OpX.storeBlk H.sz94 rfl rfl hk2 (by first | rfl | simp) (by first | decide | exact of_decide_eq_true rfl | (simp; done) | (simp; omega)) (by first | decide | simp [Value.oneCell'])) ?_
  rintro _ h3 ⟨rfl, hk3, hx3, hz3⟩
  have hk3 : Blk h3 h1.size 94 (ndC 1 0 (.slice none 0 0)) := hk3
  have hkr : Blk h1 h.size 94 (ndC 0 0 (.slice none 0 0)) := hkr
  have e3 : Ext0 h h3 := Ext0.only (he1.trans he2) hx3 (by omega)
  have hkr3 : Blk h3 h.size 94 (ndC 0 0 (.slice none 0 0)) := (hkr.ext0 he2).ext hx3 (by show ¬ _ = _; omega)
  refine xd [0, 1, 4, 5, 6] rfl ?_
  refine xr Tryd.func85 rfl ?_
  iterate 2 refine xq rfl ?_
  refine xo rfl (OpX.call (vs := [_, _]) Tryd.func77 rfl H.nm77 rfl (CallsH.toX (at_calls s i))) ?_
  rintro _ h3 ⟨rfl, rfl⟩
  iterate 2 refine xq rfl ?_
  refine xd [0, 1, 4, 5, 6, 7] rfl ?_
  refine G.seq rfl ?_
  refine xr Tryd.func85 rfl ?_
  refine xq rfl ?_
  refine xd [0, 1, 4, 5, 6, 7, 19] rfl ?_
  have go : ∀ (nt : Bool) (i1 : Nat) (h' : Heap) (ρ' : Env), Sub [(0, .string (bs s)), (1, .int .i64 (i1 : Nat)), (4, .pointer (some ⟨h.size, 0, none⟩)), (6, .pointer (some ⟨h1.size, 0, none⟩)), (7, .bool nt)] ρ' → h' = h3 → nt = decide ((s.drop i).head? = some 94) → i1 ≤ s.length → s.drop i1 = (if (s.drop i).head? = some 94 then (s.drop i).tail else s.drop i) → G Tryd.prog 85 Tryd.f85 [.code [1, 1, 1, 1]] ρ' h' (Ret fun r h' => NodV h.size h' s (bracketP (s.drop i)) r ∧ Ext0 h h') := by
    rintro nt i1 h3 ρ' hsub rfl hnt hi1 hd1
    rw [← hd1] at hbr
    generalize htg : contP true 0 (s.drop i1) = tgt at hbr
    refine G.sub (ρ' := [(0, .string (bs s)), (1, .int .i64 (i1 : Nat)), (4, .pointer (some ⟨h.size, 0, none⟩)), (6, .pointer (some ⟨h1.size, 0, none⟩)), (7, .bool nt)]) hsub ?_
    refine G.seq rfl ?_
    refine xr Tryd.func85 rfl ?_
    refine xq rfl ?_
    refine xd [0, 1, 4, 6, 7, 8] rfl ?_
    refine G.block rfl rfl ?_
    refine G.loop (σ := Nat × Nat × Nat) (fun q => [(0, .string (bs s)), (1, .int .i64 (q.2.2 : Nat)), (4, .pointer (some ⟨h.size, 0, none⟩)), (6, .pointer (some ⟨h1.size, 0, none⟩)), (7, .bool nt), (8, .int .i64 (q.1 : Nat))]) (fun q h' => Blk h' h1.size 94 (ndC 1 q.2.1 (.slice none 0 0)) ∧ Blk h' h.size 94 (ndC 0 0 (.slice none 0 0)) ∧ Ext0 h h' ∧ (q.2.2 ≤ s.length ∧ q.1 ≤ q.2.2 ∧ q.2.1 < 2 ^ 256) ∧ contP (q.1 == 0) q.2.1 (s.drop q.2.2) = tgt) (fun q => s.length - q.2.2) ((0, 0, i1)) rfl ⟨rfl, rfl, rfl, rfl, rfl, rfl, trivial⟩ ⟨hk3, hkr3, e3, ⟨hi1, Nat.zero_le _, by show (0 : Nat) < 2 ^ 256; decide⟩, htg⟩ ?_
    rintro ⟨many, acc, j⟩ h5 ⟨hk5, hkr5, e5, ⟨hj, hmj, hacc⟩, hcon⟩ ih
    try dsimp only
    dsimp only at hk5 hj hmj hacc hcon
    have hlt5 := hk5.lt
    refine G.seq rfl ?_
    refine G.seq rfl ?_
    refine G.regTo1 [(29, .bool (decide (¬((many == 0) = false ∧ (s.drop j).head? = some 93))))] [(0, _), (1, _), (4, _), (6, _), (7, _), (8, _)] ⟨rfl, rfl, rfl, rfl, rfl, rfl, trivial⟩ Tryd.func85 rfl ?_ ?_
    · iterate 3 refine xq rfl ?_
      refine RW.split (d := 24) rfl (fun hm => ?_) (fun hm => ?_)
      · have hm : many = 0 := by have := of_decide_eq_true hm; omega
        iterate 4 refine xk rfl ?_
        refine xq rfl ?_
        refine RW.done rfl ?_
        exact ⟨rfl, at_bool rfl (by simp [hm]), rfl, rfl, rfl, rfl, rfl, rfl, trivial⟩
      · have hm : ¬ many = 0 := by have := of_decide_eq_false hm; omega
        iterate 2 refine xq rfl ?_
        refine xo rfl (OpX.call (vs := [_, _]) Tryd.func77 rfl H.nm77 rfl (CallsH.toX (at_calls s j))) ?_
        rintro _ h5 ⟨rfl, rfl⟩
        iterate 2 refine xq rfl ?_
        refine RW.done rfl ?_
        exact ⟨rfl, at_bool rfl (by simp only [show (many == 0) = false by simpa using hm, true_and]; exact decide_eq_decide.2 (not_congr (head_at s j 93))), rfl, rfl, rfl, rfl, rfl, rfl, trivial⟩
    · refine G.ite rfl rfl (fun hgo => ?_) (fun hgo => ?_)
      · refine G.skip rfl ?_
        refine G.seq rfl ?_
        refine G.block rfl rfl ?_
        refine xr Tryd.func85 rfl ?_
        iterate 2 refine xq rfl ?_
        refine xo rfl (OpX.call (vs := [_, _, _]) Tryd.func87 rfl H.nm87 rfl (CallsH.toX (letterR_calls s j hj hs true))) ?_
        rintro _ h5 ⟨hl, rfl⟩
        rw [letR_true] at hl
        rcases hp : letP (s.drop j) with _ | ⟨a, r⟩ <;> rw [hp] at hl
        · obtain ⟨b0, rfl⟩ := hl
          have hnone : bracketP (s.drop i) = none := by rw [hbr, ← hcon, contP_none hgo (from1 hp)]; rfl
          iterate 5 refine xq rfl ?_
          refine xd [0, 1, 4, 6, 7, 8, 9, 10, 29] rfl ?_
          refine G.seq rfl ?_
          refine xr Tryd.func85 rfl ?_
          iterate 2 refine xq rfl ?_
          refine xd [0, 1, 4, 6, 7, 8, 9, 10, 29, 39] rfl ?_
          refine G.cond rfl rfl (fun _ => ?_) (fun hc => absurd hc (by decide))
          refine xr Tryd.func85 rfl ?_
          refine xp rfl (OpP.loadRowN H.ag94 H.sz94 rfl hk5.row (by first | rfl | simp)) ?_
          refine RW.op0 rfl rfl rfl (OpX.storeBlk H.sz94 rfl rfl hkr5 (by first | rfl | simp) (by first | decide | exact of_decide_eq_true rfl | (simp; done) | (simp; omega)) (NdAt.one (NdAt.leaf h5 (fun _ => False) 1 acc))) ?_
          rintro _ h6 ⟨rfl, hk6, hx6, hz6⟩
          refine xq rfl ?_
          refine xd [0, 1, 4, 5, 6, 7, 8, 9, 10, 29, 39] rfl ?_
          have hk6 : Blk h6 h.size 94 (ndC 1 acc (.slice none 0 0)) := hk6
          refine G.retC Tryd.func85 rfl (.cons (ResOk.rowN H.ag94 H.sz94 rfl (hk6.row) (by first | rfl | simp)) (.cons (ResOk.tmp rfl) (.nil))) ?_
          exact ⟨_, rfl, by rw [hnone]; exact ⟨1, acc, _, rfl, rfl⟩, Ext0.only e5 hx6 (Nat.le_refl _)⟩
        · obtain ⟨k, hk, rfl, rfl⟩ := hl
          have hrl := letP_len hp
          simp only [List.length_drop] at hrl
          iterate 5 refine xq rfl ?_
          refine xd [0, 1, 4, 6, 7, 8, 9, 10, 29] rfl ?_
          refine G.seq rfl ?_
          refine xr Tryd.func85 rfl ?_
          iterate 2 refine xq rfl ?_
          refine xd [0, 1, 4, 6, 7, 8, 9, 10, 29, 39] rfl ?_
          refine G.cond rfl rfl (fun hc => absurd hc (by simp)) (fun _ => ?_)
          refine G.skip rfl ?_
          refine xr Tryd.func85 rfl ?_
          iterate 2 refine xq rfl ?_
          refine xd [0, 1, 4, 6, 7, 8, 9, 10, 11, 29, 39] rfl ?_
          refine G.seq rfl ?_
          refine xr Tryd.func85 rfl ?_
          iterate 2 refine xq rfl ?_
          refine xo rfl (OpX.call (vs := [_, _]) Tryd.func77 rfl H.nm77 rfl (CallsH.toX (at_calls s k))) ?_
          rintro _ h5 ⟨rfl, rfl⟩
          refine xq rfl ?_
          refine xd [0, 1, 4, 6, 7, 8, 9, 10, 11, 29, 39, 45] rfl ?_
          refine G.ite rfl rfl (fun h45 => ?_) (fun h45 => ?_)
          · have a1 := (head_at s k 45).1 h45
            have hk1 : k + 1 ≤ s.length := by
              rcases atI_cases s k with ⟨_, hd, _⟩ | ⟨_, _, hlt, _, _⟩
              · rw [hd] at a1; cases a1
              · exact hlt
            refine xr Tryd.func85 rfl ?_
            iterate 2 refine xq rfl ?_
            refine xp rfl (OpP.add64 rfl rfl ⟨by omega, by omega⟩) ?_
            refine xo rfl (OpX.call (vs := [_, _, _]) Tryd.func87 rfl H.nm87 rfl (CallsH.toX (letterR_calls s (k + 1) hk1 hs true))) ?_
            rintro _ h5 ⟨hl2, rfl⟩
            rw [letR_true] at hl2
            rcases hp2 : letP (s.drop (k + 1)) with _ | ⟨b, r2⟩ <;> rw [hp2] at hl2
            · obtain ⟨b0, rfl⟩ := hl2
              have hnone : bracketP (s.drop i) = none := by rw [hbr, ← hcon, contP_none hgo (from3 hp a1 (by rw [tail_drop]; exact hp2))]; rfl
              iterate 5 refine xq rfl ?_
              refine xd [0, 1, 4, 6, 7, 8, 9, 10, 11, 29, 39, 45] rfl ?_
              refine G.seq rfl ?_
              refine G.regTo1 [(59, .bool true)] [(0, _), (1, _), (4, _), (6, _), (7, _), (8, _), (9, _), (10, _), (11, _), (29, _), (39, _), (45, _)] ⟨rfl, rfl, rfl, rfl, rfl, rfl, rfl, rfl, rfl, rfl, rfl, rfl, trivial⟩ Tryd.func85 rfl ?_ ?_
              · iterate 3 refine xq rfl ?_
                refine RW.know (d := 55) (b' := true) rfl (decide_eq_true (by decide)) ?_
                iterate 3 refine xk rfl ?_
                refine xq rfl ?_
                refine RW.done rfl ?_
                exact ⟨rfl, at_bool rfl (rfl), rfl, rfl, rfl, rfl, rfl, rfl, rfl, rfl, rfl, rfl, rfl, rfl, trivial⟩
              · refine G.cond rfl rfl (fun _ => ?_) (fun hc => absurd hc (by decide))
                refine xr Tryd.func85 rfl ?_
                refine xp rfl (OpP.loadRowN H.ag94 H.sz94 rfl hk5.row (by first | rfl | simp)) ?_
                refine RW.op0 rfl rfl rfl (OpX.storeBlk H.sz94 rfl rfl hkr5 (by first | rfl | simp) (by first | decide | exact of_decide_eq_true rfl | (simp; done) | (simp; omega)) (NdAt.one (NdAt.leaf h5 (fun _ => False) 1 acc))) ?_
                rintro _ h6 ⟨rfl, hk6, hx6, hz6⟩
                refine xq rfl ?_
                refine xd [0, 1, 4, 5, 6, 7, 8, 9, 10, 11, 29, 39, 45, 59] rfl ?_
                have hk6 : Blk h6 h.size 94 (ndC 1 acc (.slice none 0 0)) := hk6
                refine G.retC Tryd.func85 rfl (.cons (ResOk.rowN H.ag94 H.sz94 rfl (hk6.row) (by first | rfl | simp)) (.cons (ResOk.tmp rfl) (.nil))) ?_
                exact ⟨_, rfl, by rw [hnone]; exact ⟨1, acc, _, rfl, rfl⟩, Ext0.only e5 hx6 (Nat.le_refl _)⟩
            · obtain ⟨k2, hk2', rfl, rfl⟩ := hl2
              have hbl := letP_len hp2
              simp only [List.length_drop] at hbl
              have hf4 := from4 hp a1 (by rw [tail_drop]; exact hp2)
              have hbt := b.toNat_lt
              have hat := a.toNat_lt
              iterate 5 refine xq rfl ?_
              refine xd [0, 1, 4, 6, 7, 8, 9, 10, 11, 29, 39, 45] rfl ?_
              refine G.seq rfl ?_
              refine G.regTo1 [(59, .bool (decide (b.toNat < a.toNat)))] [(0, _), (1, _), (4, _), (6, _), (7, _), (8, _), (9, _), (10, _), (11, _), (29, _), (39, _), (45, _)] ⟨rfl, rfl, rfl, rfl, rfl, rfl, rfl, rfl, rfl, rfl, rfl, rfl, trivial⟩ Tryd.func85 rfl ?_ ?_
              · iterate 3 refine xq rfl ?_
                refine RW.know (d := 55) (b' := false) rfl (decide_eq_false (by simp)) ?_
                iterate 4 refine xq rfl ?_
                refine RW.done rfl ?_
                exact ⟨rfl, at_bool rfl (by simp), rfl, rfl, rfl, rfl, rfl, rfl, rfl, rfl, rfl, rfl, rfl, rfl, trivial⟩
              · refine G.ite rfl rfl (fun hlow => ?_) (fun hlow => ?_)
                · rw [if_pos hlow] at hf4
                  have hnone : bracketP (s.drop i) = none := by rw [hbr, ← hcon, contP_none hgo hf4]; rfl
                  refine xr Tryd.func85 rfl ?_
                  refine xp rfl (OpP.loadRowN H.ag94 H.sz94 rfl hk5.row (by first | rfl | simp)) ?_
                  refine RW.op0 rfl rfl rfl (OpX.storeBlk H.sz94 rfl rfl hkr5 (by first | rfl | simp) (by first | decide | exact of_decide_eq_true rfl | (simp; done) | (simp; omega)) (NdAt.one (NdAt.leaf h5 (fun _ => False) 1 acc))) ?_
                  rintro _ h6 ⟨rfl, hk6, hx6, hz6⟩
                  refine xq rfl ?_
                  refine xd [0, 1, 4, 5, 6, 7, 8, 9, 10, 11, 29, 39, 45, 59] rfl ?_
                  have hk6 : Blk h6 h.size 94 (ndC 1 acc (.slice none 0 0)) := hk6
                  refine G.retC Tryd.func85 rfl (.cons (ResOk.rowN H.ag94 H.sz94 rfl (hk6.row) (by first | rfl | simp)) (.cons (ResOk.tmp rfl) (.nil))) ?_
                  exact ⟨_, rfl, by rw [hnone]; exact ⟨1, acc, _, rfl, rfl⟩, Ext0.only e5 hx6 (Nat.le_refl _)⟩
                · rw [if_neg hlow] at hf4
                  have hsp := contP_some (acc := acc) hgo hf4
                  refine G.skip rfl ?_
                  refine xr Tryd.func85 rfl ?_
                  refine xp rfl (OpP.fieldAddr (off := 1) Tryd.underlying94 rfl rfl H.sz60 rfl) ?_
                  refine xp rfl (OpP.loadRowN H.ag60 H.sz60 rfl (show Lw.rowAt h5 h1.size 1 (encSet acc) from hk5.part 1 (ndC_part _ _ _)) (by first | rfl | simp)) ?_
                  refine xq rfl ?_
                  refine xp rfl (OpP.convIn Tryd.underlying5 Tryd.underlying3 rfl (wrap_i64 ⟨by omega, by omega⟩)) ?_
                  refine xq rfl ?_
                  refine xp rfl (OpP.convIn Tryd.underlying5 Tryd.underlying3 rfl (wrap_i64 ⟨by omega, by omega⟩)) ?_
                  refine xo rfl (OpX.call (vs := [_, _, _]) Tryd.func86 rfl H.nm86 rfl (CallsH.toX (with_calls acc a.toNat b.toNat (by omega) (by omega)))) ?_
                  rintro _ h6 ⟨rfl, he6⟩
                  refine xp rfl (OpP.fieldAddr (off := 1) Tryd.underlying94 rfl rfl H.sz60 rfl) ?_
                  refine RW.op0 rfl rfl rfl (OpX.storeBlk H.sz60 rfl rfl (hk5.ext0 he6) (by first | rfl | simp) (by first | decide | exact of_decide_eq_true rfl | (simp; done) | (simp; omega)) (encSet_one _)) ?_
                  rintro _ h7 ⟨rfl, hk7, hx7, hz7⟩
                  refine xd [0, 1, 4, 6, 7, 8, 9, 10, 11, 29, 39, 45, 59] rfl ?_
                  refine G.reg Tryd.func85 rfl ?_
                  iterate 2 refine xq rfl ?_
                  refine xd [0, 1, 4, 6, 7, 8, 9, 10, 11, 29, 39, 45, 59] rfl ?_
                  refine G.blkEnd ?_
                  refine G.reg Tryd.func85 rfl ?_
                  refine xq rfl ?_
                  refine xp rfl (OpP.add64 rfl rfl ⟨by omega, by omega⟩) ?_
                  refine xq rfl ?_
                  refine xd [0, 1, 4, 6, 7, 8, 9, 10, 11, 29, 39, 45, 59] rfl ?_
                  have hk7 : Blk h7 h1.size 94 (ndC 1 (spanB acc a b) (.slice none 0 0)) := hk7
                  exact ih (many + 1, spanB acc a b, k2) _ _ ⟨rfl, rfl, rfl, rfl, rfl, rfl, trivial⟩ ⟨hk7, (hkr5.ext0 he6).ext hx7 (by show ¬ _ = _; omega), Ext0.only (e5.trans he6) hx7 (by omega), ⟨hk2', by show many + 1 ≤ k2; omega, spanB_lt a b hacc (by omega)⟩, by rw [← hcon, hsp]; rfl⟩ (by show s.length - k2 < s.length - j; omega)
          · have a1 : (s.drop k).head? ≠ some 45 := fun e => h45 ((head_at s k 45).2 e)
            have hf2 := from2 hp a1
            have hat := a.toNat_lt
            have hsp := contP_some (acc := acc) hgo hf2
            refine G.skip rfl ?_
            refine xr Tryd.func85 rfl ?_
            refine xp rfl (OpP.fieldAddr (off := 1) Tryd.underlying94 rfl rfl H.sz60 rfl) ?_
            refine xp rfl (OpP.loadRowN H.ag60 H.sz60 rfl (show Lw.rowAt h5 h1.size 1 (encSet acc) from hk5.part 1 (ndC_part _ _ _)) (by first | rfl | simp)) ?_
            refine xq rfl ?_
            refine xp rfl (OpP.convIn Tryd.underlying5 Tryd.underlying3 rfl (wrap_i64 ⟨by omega, by omega⟩)) ?_
            refine xq rfl ?_
            refine xp rfl (OpP.convIn Tryd.underlying5 Tryd.underlying3 rfl (wrap_i64 ⟨by omega, by omega⟩)) ?_
            refine xo rfl (OpX.call (vs := [_, _, _]) Tryd.func86 rfl H.nm86 rfl (CallsH.toX (with_calls acc a.toNat a.toNat (by omega) (by omega)))) ?_
            rintro _ h6 ⟨rfl, he6⟩
            refine xp rfl (OpP.fieldAddr (off := 1) Tryd.underlying94 rfl rfl H.sz60 rfl) ?_
            refine RW.op0 rfl rfl rfl (OpX.storeBlk H.sz60 rfl rfl (hk5.ext0 he6) (by first | rfl | simp) (by first | decide | exact of_decide_eq_true rfl | (simp; done) | (simp; omega)) (encSet_one _)) ?_
            rintro _ h7 ⟨rfl, hk7, hx7, hz7⟩
            refine xd [0, 1, 4, 6, 7, 8, 9, 10, 11, 29, 39, 45] rfl ?_
            refine G.reg Tryd.func85 rfl ?_
            iterate 2 refine xq rfl ?_
            refine xd [0, 1, 4, 6, 7, 8, 9, 10, 11, 29, 39, 45] rfl ?_
            refine G.blkEnd ?_
            refine G.reg Tryd.func85 rfl ?_
            refine xq rfl ?_
            refine xp rfl (OpP.add64 rfl rfl ⟨by omega, by omega⟩) ?_
            refine xq rfl ?_
            refine xd [0, 1, 4, 6, 7, 8, 9, 10, 11, 29, 39, 45] rfl ?_
            have hk7 : Blk h7 h1.size 94 (ndC 1 (spanB acc a a) (.slice none 0 0)) := hk7
            exact ih (many + 1, spanB acc a a, k) _ _ ⟨rfl, rfl, rfl, rfl, rfl, rfl, trivial⟩ ⟨hk7, (hkr5.ext0 he6).ext hx7 (by show ¬ _ = _; omega), Ext0.only (e5.trans he6) hx7 (by omega), ⟨hk, by show many + 1 ≤ k; omega, spanB_lt a a hacc (by omega)⟩, by rw [← hcon, hsp]; rfl⟩ (by show s.length - k < s.length - j; omega)
      · have hgo := Classical.not_not.1 hgo
        have htgt : tgt = some (acc, s.drop (j + 1)) := by rw [← hcon]; unfold contP; rw [if_pos hgo, tail_drop]
        have hj1 : j + 1 ≤ s.length := by
          have a1 := hgo.2
          rcases atI_cases s j with ⟨_, hd, _⟩ | ⟨_, _, hlt, _, _⟩
          · rw [hd] at a1; cases a1
          · exact hlt
        rw [htgt] at hbr
        refine G.exit rfl rfl ?_
        refine G.seq rfl ?_
        refine xr Tryd.func85 rfl ?_
        refine xq rfl ?_
        refine xd [0, 1, 4, 6, 7, 8, 29, 70] rfl ?_
        have fin : ∀ (fs : Nat) (h' : Heap) (ρ' : Env), Sub [(1, .int .i64 (j : Nat)), (4, .pointer (some ⟨h.size, 0, none⟩)), (6, .pointer (some ⟨h1.size, 0, none⟩))] ρ' → Blk h' h1.size 94 (ndC 1 fs (.slice none 0 0)) → Blk h' h.size 94 (ndC 0 0 (.slice none 0 0)) → Ext0 h h' → bracketP (s.drop i) = some (.mk 1 fs [], s.drop (j + 1)) → G Tryd.prog 85 Tryd.f85 [.code [1, 1, 1, 1, 1, 1]] ρ' h' (Ret fun r h' => NodV h.size h' s (bracketP (s.drop i)) r ∧ Ext0 h h') := by
          rintro fs h8 ρ' hsub hk8 hkr8 e8 hb8
          refine G.sub (ρ' := [(1, .int .i64 (j : Nat)), (4, .pointer (some ⟨h.size, 0, none⟩)), (6, .pointer (some ⟨h1.size, 0, none⟩))]) hsub ?_
          refine xr Tryd.func85 rfl ?_
          refine xp rfl (OpP.loadRowN H.ag94 H.sz94 rfl hk8.row (by first | rfl | simp)) ?_
          refine xq rfl ?_
          refine xp rfl (OpP.add64 rfl rfl ⟨by omega, by omega⟩) ?_
          refine RW.op0 rfl rfl rfl (OpX.storeBlk H.sz94 rfl rfl hkr8 (by first | rfl | simp) (by first | decide | exact of_decide_eq_true rfl | (simp; done) | (simp; omega)) (NdAt.one (NdAt.leaf h8 (fun _ => False) 1 fs))) ?_
          rintro _ h9 ⟨rfl, hk9, hx9, hz9⟩
          refine xq rfl ?_
          refine xd [1, 4, 5, 6] rfl ?_
          have hk9 : Blk h9 h.size 94 (ndC 1 fs (.slice none 0 0)) := hk9
          refine G.retC Tryd.func85 rfl (.cons (ResOk.rowN H.ag94 H.sz94 rfl (hk9.row) (by first | rfl | simp)) (.cons (ResOk.tmp rfl) (.nil))) ?_
          exact ⟨_, rfl, by rw [hb8]; exact ⟨_, j + 1, hj1, rfl, rfl, NdAt.leaf _ _ _ _⟩, Ext0.only e8 hx9 (Nat.le_refl _)⟩
        refine G.cond rfl rfl (fun hb => ?_) (fun hb => ?_)
        · have hnt' : (s.drop i).head? = some 94 := by rw [hnt] at hb; exact of_decide_eq_true hb
          simp only [hnt', if_true] at hbr
          refine xr Tryd.func85 rfl ?_
          refine xo rfl (OpX.allocN H.zr60) ?_
          rintro _ h6 ⟨rfl, hk6, he6, hz6⟩
          refine xd [0, 1, 4, 6, 7, 8, 12, 29, 70] rfl ?_
          refine G.seq rfl ?_
          refine xr Tryd.func85 rfl ?_
          refine xq rfl ?_
          refine xd [0, 1, 4, 6, 7, 8, 12, 13, 29, 70] rfl ?_
          refine G.block rfl rfl ?_
          have hk6 : Blk h6 h5.size 60 (encSet 0) := hk6
          refine G.loop (σ := Nat × Nat) (fun q => [(1, .int .i64 (j : Nat)), (4, .pointer (some ⟨h.size, 0, none⟩)), (6, .pointer (some ⟨h1.size, 0, none⟩)), (12, .pointer (some ⟨h5.size, 0, none⟩)), (13, .int .i64 (q.1 : Nat))]) (fun q h' => Blk h' h1.size 94 (ndC 1 acc (.slice none 0 0)) ∧ Blk h' h.size 94 (ndC 0 0 (.slice none 0 0)) ∧ Blk h' h5.size 60 (encSet q.2) ∧ Ext0 h h' ∧ q.1 ≤ 256 ∧ ∀ i, q.2.testBit i = (decide (i < q.1) && !acc.testBit i)) (fun q => 256 - q.1) ((0, 0)) rfl ⟨rfl, rfl, rfl, rfl, rfl, trivial⟩ ⟨hk5.ext0 he6, hkr5.ext0 he6, hk6, e5.trans he6, by decide, by simp⟩ ?_
          rintro ⟨b, o⟩ h7 ⟨hk7, hkr7, ho7, e7, hb256, hbits⟩ ih2
          try dsimp only
          dsimp only at ho7 hb256 hbits
          refine G.seq rfl ?_
          refine xr Tryd.func85 rfl ?_
          iterate 2 refine xq rfl ?_
          refine xd [1, 4, 6, 12, 13, 72] rfl ?_
          refine G.ite rfl rfl (fun hlt => ?_) (fun hlt => ?_)
          · have hlt' : b < 256 := by omega
            have hub : (UInt8.ofNat b).toNat = b := by simp; omega
            have hcv : IntKind.u8.wrap ((b : Nat) : Int) = (((UInt8.ofNat b).toNat : Nat) : Int) := by rw [hub]; exact wrap_u8 (by omega)
            refine G.skip rfl ?_
            refine G.seq rfl ?_
            refine G.block rfl rfl ?_
            refine xr Tryd.func85 rfl ?_
            refine xp rfl (OpP.fieldAddr (off := 1) Tryd.underlying94 rfl rfl H.sz60 rfl) ?_
            refine xp rfl (OpP.loadRowN H.ag60 H.sz60 rfl (show Lw.rowAt h7 h1.size 1 (encSet acc) from hk7.part 1 (ndC_part _ _ _)) (by first | rfl | simp)) ?_
            refine xq rfl ?_
            refine xp rfl (OpP.convInt Tryd.underlying3 Tryd.underlying5 rfl) ?_
            refine xo rfl (OpX.call (vs := [_, _]) Tryd.func65 rfl H.nm65 rfl (CallsH.toX (hcv ▸ hasR_calls acc (UInt8.ofNat b)))) ?_
            rintro _ h8 ⟨rfl, he8⟩
            refine xq rfl ?_
            refine xd [1, 4, 6, 12, 13, 72, 80] rfl ?_
            rw [hub]
            refine G.cond rfl rfl (fun hnot => ?_) (fun hnot => ?_)
            · have hbit : acc.testBit b = false := by simpa using hnot
              refine G.reg Tryd.func85 rfl ?_
              refine xp rfl (OpP.loadRowN H.ag60 H.sz60 rfl (ho7.ext0 he8).row (by first | rfl | simp)) ?_
              iterate 2 refine xq rfl ?_
              refine xo rfl (OpX.call (vs := [_, _, _]) Tryd.func86 rfl H.nm86 rfl (CallsH.toX (with_calls o b b (by omega) (by omega)))) ?_
              rintro _ h9 ⟨rfl, he9⟩
              refine RW.op0 rfl rfl rfl (OpX.storeBlk H.sz60 rfl rfl ((ho7.ext0 he8).ext0 he9) (by first | rfl | simp) (by first | decide | exact of_decide_eq_true rfl | (simp; done) | (simp; omega)) (encSet_one _)) ?_
              rintro _ h10 ⟨rfl, hk10, hx10, hz10⟩
              refine xd [1, 4, 6, 12, 13, 72, 80] rfl ?_
              refine G.blkEnd ?_
              refine G.reg Tryd.func85 rfl ?_
              refine xq rfl ?_
              refine xp rfl (OpP.add64 rfl rfl ⟨by omega, by omega⟩) ?_
              refine xq rfl ?_
              refine xd [1, 4, 6, 12, 13, 72, 80] rfl ?_
              have hsp : spanN o b (b + 1 - b) = o ||| (1 <<< b) := by rw [show b + 1 - b = 1 by omega]; rfl
              have hk10 : Blk h10 h5.size 60 (encSet (o ||| (1 <<< b))) := by rw [← hsp]; exact hk10
              exact ih2 (b + 1, o ||| (1 <<< b)) _ _ ⟨rfl, rfl, rfl, rfl, rfl, trivial⟩ ⟨((hk7.ext0 he8).ext0 he9).ext hx10 (by show ¬ _ = _; omega), ((hkr7.ext0 he8).ext0 he9).ext hx10 (by show ¬ _ = _; omega), hk10, Ext0.only ((e7.trans he8).trans he9) hx10 (by omega), by show b + 1 ≤ 256; omega, bits_with hbits hbit⟩ (by show 256 - (b + 1) < 256 - b; omega)
            · have hbit : acc.testBit b = true := by simpa using hnot
              refine G.skip rfl ?_
              refine G.blkEnd ?_
              refine G.reg Tryd.func85 rfl ?_
              refine xq rfl ?_
              refine xp rfl (OpP.add64 rfl rfl ⟨by omega, by omega⟩) ?_
              refine xq rfl ?_
              refine xd [1, 4, 6, 12, 13, 72, 80] rfl ?_
              exact ih2 (b + 1, o) _ _ ⟨rfl, rfl, rfl, rfl, rfl, trivial⟩ ⟨hk7.ext0 he8, hkr7.ext0 he8, ho7.ext0 he8, e7.trans he8, by show b + 1 ≤ 256; omega, bits_keep hbits hbit⟩ (by show 256 - (b + 1) < 256 - b; omega)
          · obtain rfl : b = 256 := by omega
            have hno := notSet_eq hacc hbits
            refine G.exit rfl rfl ?_
            refine G.reg Tryd.func85 rfl ?_
            refine xp rfl (OpP.loadRowN H.ag60 H.sz60 rfl ho7.row (by first | rfl | simp)) ?_
            refine xp rfl (OpP.fieldAddr (off := 1) Tryd.underlying94 rfl rfl H.sz60 rfl) ?_
            refine RW.op0 rfl rfl rfl (OpX.storeBlk H.sz60 rfl rfl hk7 (by first | rfl | simp) (by first | decide | exact of_decide_eq_true rfl | (simp; done) | (simp; omega)) (encSet_one _)) ?_
            rintro _ h8 ⟨rfl, hk8, hx8, hz8⟩
            refine xd [1, 4, 6, 12, 13, 72] rfl ?_
            have hk8 : Blk h8 h1.size 94 (ndC 1 (notSet acc) (.slice none 0 0)) := by rw [← hno]; exact hk8
            exact fin (notSet acc) _ _ ⟨rfl, rfl, rfl, trivial⟩ hk8 (hkr7.ext hx8 (by show ¬ _ = _; omega)) (Ext0.only e7 hx8 (by omega)) hbr
        · have hnt' : ¬ (s.drop i).head? = some 94 := by rw [hnt] at hb; exact of_decide_eq_false hb
          simp only [hnt', if_false] at hbr
          refine G.skip rfl ?_
          exact fin acc _ _ ⟨rfl, rfl, rfl, trivial⟩ hk5 hkr5 e5 hbr
  refine G.cond rfl rfl (fun hb => ?_) (fun hb => ?_)
  · have hb : atI s i = 94 := of_decide_eq_true hb
    have a1 := (head_at s i 94).1 hb
    have hi1 : i + 1 ≤ s.length := by
      rcases atI_cases s i with ⟨_, hd, _⟩ | ⟨_, _, hlt, _, _⟩
      · rw [hd] at a1; cases a1
      · exact hlt
    refine G.reg Tryd.func85 rfl ?_
    refine xq rfl ?_
    refine xp rfl (OpP.add64 rfl rfl ⟨by omega, by omega⟩) ?_
    refine xq rfl ?_
    refine xd [0, 1, 4, 5, 6, 7, 19] rfl ?_
    exact go _ (i + 1) _ _ ⟨rfl, rfl, rfl, rfl, rfl, trivial⟩ rfl (by rw [hb]; simp [a1]) hi1 (by rw [if_pos a1, tail_drop])
  · have hb : ¬ atI s i = 94 := of_decide_eq_false hb
    have a1 : ¬ (s.drop i).head? = some 94 := fun e => hb ((head_at s i 94).2 e)
    refine G.skip rfl ?_
    exact go _ i _ _ ⟨rfl, rfl, rfl, rfl, rfl, trivial⟩ rfl (by rw [decide_eq_false hb]; exact (decide_eq_false a1).symm) hi (by rw [if_neg a1])
theorem join_calls {h : Heap} {O : Nat → Prop} {v : Value} {xs : List Nd} (kind : Nat) (hv : SlR eNd h O v xs) : CallsH Tryd.prog 78 #[.int .i64 (kind : Nat), v] h (Ret fun r h' => (∃ w, r = .agg (ndC (joinNd kind xs).kind (joinNd kind xs).set w).toArray ∧ NdAt h' O (ndC (joinNd kind xs).kind (joinNd kind xs).set w) (joinNd kind xs)) ∧ Ext0 h h') := by
  obtain ⟨oa, n, c, rfl, hsl⟩ := hv.open
  have hn := hsl.len
  refine CallsH.of Tryd.func78 rfl rfl ?_
  refine xr Tryd.func78 rfl ?_
  refine xo rfl (OpX.allocN H.zr94) ?_
  rintro _ h1 ⟨rfl, hk, he, hz⟩
  refine xd [0, 1, 4] rfl ?_
  refine G.seq rfl ?_
  refine xr Tryd.func78 rfl ?_
  refine xq rfl ?_
  refine xp rfl (OpP.lenSlice Tryd.underlying92 rfl) ?_
  refine xq rfl ?_
  refine xd [0, 1, 4, 7] rfl ?_
  have hk : Blk h1 h.size 94 (ndC 0 0 (.slice none 0 0)) := hk
  have hsl1 := hsl.mv (Mv.ext0 he)
  have hv1 := hv.ext0 he
  refine G.ite rfl rfl (fun e0 => ?_) (fun e0 => ?_)
  · obtain rfl : n = 0 := by omega
    have hx : xs = [] := List.eq_nil_of_length_eq_zero hn
    subst hx
    refine xr Tryd.func78 rfl ?_
    refine xp rfl (OpP.build (H.bd94_ ) rfl) ?_
    refine RW.op0 rfl rfl rfl (OpX.storeBlk H.sz94 rfl rfl hk (by first | rfl | simp) (by first | decide | exact of_decide_eq_true rfl | (simp; done) | (simp; omega)) (by first | decide | simp [Value.oneCell'])) ?_
    rintro _ h2 ⟨rfl, hk2, hx2, hz2⟩
    refine xd [0, 1, 4, 7] rfl ?_
    have hk2 : Blk h2 h.size 94 (ndC 0 0 (.slice none 0 0)) := hk2
    refine G.retC Tryd.func78 rfl (.cons (ResOk.rowN H.ag94 H.sz94 rfl (hk2.row) (by first | rfl | simp)) (.nil)) ?_
    exact ⟨_, rfl, ⟨_, rfl, NdAt.leaf _ _ 0 0⟩, Ext0.only he hx2 (Nat.le_refl _)⟩
  · refine G.skip rfl ?_
    refine G.seq rfl ?_
    refine xr Tryd.func78 rfl ?_
    refine xq rfl ?_
    refine xp rfl (OpP.lenSlice Tryd.underlying92 rfl) ?_
    refine xq rfl ?_
    refine xd [0, 1, 4, 7, 11] rfl ?_
    refine G.ite rfl rfl (fun e1 => ?_) (fun e1 => ?_)
    · obtain rfl : n = 1 := by omega
      obtain ⟨x, rfl⟩ := List.length_eq_one_iff.1 hn
      obtain ⟨b, o, cs, ha, ho, hr, hR⟩ := hsl.get 0 x rfl
      have hr := he.rowAt (fun k => k) hr
      obtain ⟨w, rfl, hw⟩ := NdAt.open hR
      refine xr Tryd.func78 rfl ?_
      refine xq rfl ?_
      refine xp rfl (OpP.indexSlice Tryd.underlying92 H.sz94 rfl rfl 0 rfl ha (by decide)) ?_
      refine xp rfl (OpP.loadRowN H.ag94 H.sz94 rfl hr (by first | rfl | simp)) ?_
      refine RW.op0 rfl rfl rfl (OpX.storeBlk H.sz94 rfl rfl hk (by first | rfl | simp) (by first | decide | exact of_decide_eq_true rfl | (simp; done) | (simp; omega)) (eNd.one hR)) ?_
      rintro _ h2 ⟨rfl, hk2, hx2, hz2⟩
      refine xd [0, 1, 4, 7, 11] rfl ?_
      have hk2 : Blk h2 h.size 94 (ndC x.kind x.set w) := hk2
      refine G.retC Tryd.func78 rfl (.cons (ResOk.rowN H.ag94 H.sz94 rfl (hk2.row) (by first | rfl | simp)) (.nil)) ?_
      exact ⟨_, rfl, ⟨w, rfl, NdAt.ext0 hR (Ext0.only he hx2 (Nat.le_refl _))⟩, Ext0.only he hx2 (Nat.le_refl _)⟩
    · refine G.skip rfl ?_
      refine xr Tryd.func78 rfl ?_
      iterate 2 refine xq rfl ?_
      refine xp rfl (OpP.build (H.bd94_0_2 _ _ _ _) rfl) ?_
      refine RW.op0 rfl rfl rfl (OpX.storeBlk H.sz94 rfl rfl hk (by first | rfl | simp) (by first | decide | exact of_decide_eq_true rfl | (simp; done) | (simp; omega)) (by first | decide | simp [Value.oneCell'])) ?_
      rintro _ h2 ⟨rfl, hk2, hx2, hz2⟩
      refine xd [0, 1, 4, 7, 11] rfl ?_
      have hk2 : Blk h2 h.size 94 (ndC kind 0 (.slice oa n c)) := hk2
      refine G.retC Tryd.func78 rfl (.cons (ResOk.rowN H.ag94 H.sz94 rfl (hk2.row) (by first | rfl | simp)) (.nil)) ?_
      have hj : joinNd kind xs = .mk kind 0 xs := by
        unfold joinNd
        split
        · simp at hn; omega
        · simp at hn; omega
        · rfl
      rw [hj]
      exact ⟨_, rfl, ⟨.slice oa n c, rfl, NdAt.of kind 0 (hv.ext0 (Ext0.only he hx2 (Nat.le_refl _)))⟩, Ext0.only he hx2 (Nat.le_refl _)⟩
def signI (c : Int) : Nat := if c = 42 then 4 else if c = 43 then 5 else if c = 63 then 6 else 0
theorem signR_calls {h : Heap} (c : Int) : CallsH Tryd.prog 80 #[.int .i64 c] h (Ret fun r h' => r = .int .i64 (signI c : Nat) ∧ h' = h) := by
  refine CallsH.of Tryd.func80 rfl rfl ?_
  refine xr Tryd.func80 rfl ?_
  refine xq rfl ?_
  refine xd [0, 2] rfl ?_
  refine G.seq rfl ?_
  refine xr Tryd.func80 rfl ?_
  iterate 2 refine xq rfl ?_
  refine xd [0, 2, 4] rfl ?_
  refine G.ite rfl rfl (fun e1 => ?_) (fun e1 => ?_)
  · refine xr Tryd.func80 rfl ?_
    refine xq rfl ?_
    refine xd [0, 2, 4] rfl ?_
    refine G.ret Tryd.func80 rfl rfl ?_
    exact ⟨_, rfl, by unfold signI; rw [if_pos e1]; rfl, rfl⟩
  · refine G.skip rfl ?_
    refine G.seq rfl ?_
    refine xr Tryd.func80 rfl ?_
    iterate 2 refine xq rfl ?_
    refine xd [0, 2, 4, 6] rfl ?_
    refine G.ite rfl rfl (fun e2 => ?_) (fun e2 => ?_)
    · refine xr Tryd.func80 rfl ?_
      refine xq rfl ?_
      refine xd [0, 2, 4, 6] rfl ?_
      refine G.ret Tryd.func80 rfl rfl ?_
      exact ⟨_, rfl, by unfold signI; rw [if_neg e1, if_pos e2]; rfl, rfl⟩
    · refine G.skip rfl ?_
      refine G.seq rfl ?_
      refine xr Tryd.func80 rfl ?_
      iterate 2 refine xq rfl ?_
      refine xd [0, 2, 4, 6, 8] rfl ?_
      refine G.ite rfl rfl (fun e3 => ?_) (fun e3 => ?_)
      · refine xr Tryd.func80 rfl ?_
        refine xq rfl ?_
        refine xd [0, 2, 4, 6, 8] rfl ?_
        refine G.ret Tryd.func80 rfl rfl ?_
        exact ⟨_, rfl, by unfold signI; rw [if_neg e1, if_neg e2, if_pos e3]; rfl, rfl⟩
      · refine G.skip rfl ?_
        refine xr Tryd.func80 rfl ?_
        refine xq rfl ?_
        refine xd [0, 2, 4, 6, 8] rfl ?_
        refine G.ret Tryd.func80 rfl rfl ?_
        exact ⟨_, rfl, by unfold signI; rw [if_neg e1, if_neg e2, if_neg e3]; rfl, rfl⟩
theorem signI_at (s : By) (j : Nat) : signI (atI s j) = signOf ((s.drop j).head?.getD 0) := by
  rcases atI_cases s j with ⟨_, hd, ha⟩ | ⟨c, _, _, hd, ha⟩
  · rw [hd, ha]; rfl
  · rw [hd, ha]
    simp only [List.head?_cons, Option.getD_some]
    unfold signI signOf
    have e1 : (((c.toNat : Nat) : Int) = 42) ↔ c = 42 := u8_is rfl
    have e2 : (((c.toNat : Nat) : Int) = 43) ↔ c = 43 := u8_is rfl
    have e3 : (((c.toNat : Nat) : Int) = 63) ↔ c = 63 := u8_is rfl
    simp only [e1, e2, e3]
def RowsOkR (d : Nat) : Prop := ∀ (h : Heap) (s : By) (i : Nat), i ≤ s.length → (s.drop i).length < d → s.length ≤ 1000000 →
  CallsH Tryd.prog 61 #[.string (bs s), .int .i64 (i : Nat)] h (Ret fun r h' => NodV h.size h' s (rowsP d (s.drop i)) r ∧ Ext0 h h')
theorem ndC_oneW {k st : Nat} {w : Value} (hw : w.oneCell' = true) : ∀ v ∈ ndC k st w, v.oneCell' = true := by
  intro v hv
  simp [ndC, encW] at hv
  rcases hv with rfl | rfl | rfl | rfl | rfl | rfl <;> first | rfl | exact hw
theorem atomR_calls {d : Nat} (ih : RowsOkR d) {h : Heap} (s : By) (i : Nat) (hi : i ≤ s.length) (hd : (s.drop i).length ≤ d) (hs : s.length ≤ 1000000) : CallsH Tryd.prog 79 #[.string (bs s), .int .i64 (i : Nat)] h (Ret fun r h' => NodV h.size h' s (atomP (rowsP d) (s.drop i)) r ∧ Ext0 h h') := by
  refine CallsH.of Tryd.func79 rfl rfl ?_
  refine xr Tryd.func79 rfl ?_
  refine xo rfl (OpX.allocN H.zr94) ?_
  rintro _ h1 ⟨rfl, hkr, he1, hz1⟩
  refine xq rfl ?_
  refine xd [0, 1, 4, 5] rfl ?_
  refine G.seq rfl ?_
  refine xr Tryd.func79 rfl ?_
  iterate 2 refine xq rfl ?_
  refine xo rfl (OpX.call (vs := [_, _]) Tryd.func77 rfl H.nm77 rfl (CallsH.toX (at_calls s i))) ?_
  rintro _ h1 ⟨rfl, rfl⟩
  refine xd [0, 1, 4, 5, 12] rfl ?_
  refine G.block rfl rfl ?_
  refine xr Tryd.func79 rfl ?_
  iterate 2 refine xq rfl ?_
  refine xd [0, 1, 4, 5, 12, 13] rfl ?_
  have hkr : Blk h1 h.size 94 (ndC 0 0 (.slice none 0 0)) := hkr
  refine G.ite rfl rfl (fun c1 => ?_) (fun c1 => ?_)
  · have a1 := (head_at s i 40).1 c1
    obtain ⟨hlt, hdr⟩ : i < s.length ∧ s.drop i = 40 :: s.drop (i + 1) := by
      rcases atI_cases s i with ⟨_, hd, _⟩ | ⟨c, _, hlt, hd, _⟩
      · rw [hd] at a1; cases a1
      · rw [hd] at a1; simp at a1; subst a1; exact ⟨hlt, hd⟩
    rw [hdr]
    rw [hdr] at hd
    simp only [List.length_cons] at hd
    refine xr Tryd.func79 rfl ?_
    iterate 2 refine xq rfl ?_
    refine xp rfl (OpP.add64 rfl rfl ⟨by omega, by omega⟩) ?_
    refine xo rfl (OpX.call (vs := [_, _]) Tryd.func61 rfl H.nm61 rfl (CallsH.toX (ih h1 s (i + 1) (by omega) (by omega) hs))) ?_
    rintro _ h2 ⟨hv, he2⟩
    have hz2 := he2.size
    have hkr2 := hkr.ext0 he2
    rcases hp : rowsP d (s.drop (i + 1)) with _ | ⟨x, t⟩ <;> rw [hp] at hv
    · obtain ⟨k, st, w, hw, rfl⟩ := hv
      have hat : atomP (rowsP d) (40 :: s.drop (i + 1)) = none := by unfold atomP; simp [hp]
      iterate 3 refine xq rfl ?_
      refine xo rfl (OpX.allocN H.zr94) ?_
      rintro _ h3 ⟨rfl, hk3, he3, hz3⟩
      refine RW.op0 rfl rfl rfl (OpX.storeBlk H.sz94 rfl rfl hk3 (by first | rfl | simp) (by first | decide | exact of_decide_eq_true rfl | (simp; done) | (simp; omega)) (ndC_oneW hw)) ?_
      rintro _ h4 ⟨rfl, hk4, hx4, hz4⟩
      refine xq rfl ?_
      refine xd [0, 1, 4, 5, 6, 7, 12, 13] rfl ?_
      refine G.seq rfl ?_
      refine G.seq rfl ?_
      have hk4 : Blk h4 h2.size 94 (ndC k st w) := hk4
      refine G.regTo1 [(29, .bool true)] [(0, _), (1, _), (4, _), (5, _), (6, _), (7, _), (12, _), (13, _)] ⟨rfl, rfl, rfl, rfl, rfl, rfl, rfl, rfl, trivial⟩ Tryd.func79 rfl ?_ ?_
      · iterate 3 refine xq rfl ?_
        refine RW.know (d := 24) (b' := true) rfl (decide_eq_true (by decide)) ?_
        iterate 4 refine xk rfl ?_
        refine xq rfl ?_
        refine RW.done rfl ?_
        exact ⟨rfl, at_bool rfl (rfl), rfl, rfl, rfl, rfl, rfl, rfl, rfl, rfl, trivial⟩
      · refine G.cond rfl rfl (fun _ => ?_) (fun hc => absurd hc (by decide))
        refine xr Tryd.func79 rfl ?_
        refine xp rfl (OpP.loadRowN H.ag94 H.sz94 rfl hk4.row (by first | rfl | simp)) ?_
        refine RW.op0 rfl rfl rfl (OpX.storeBlk H.sz94 rfl rfl ((hkr2.ext0 he3).ext hx4 (by show ¬ _ = _; omega)) (by first | rfl | simp) (by first | decide | exact of_decide_eq_true rfl | (simp; done) | (simp; omega)) (ndC_oneW hw)) ?_
        rintro _ h5 ⟨rfl, hk5, hx5, hz5⟩
        refine xq rfl ?_
        refine xd [0, 1, 4, 5, 6, 7, 12, 13, 29] rfl ?_
        have hk5 : Blk h5 h.size 94 (ndC k st w) := hk5
        refine G.retC Tryd.func79 rfl (.cons (ResOk.rowN H.ag94 H.sz94 rfl (hk5.row) (by first | rfl | simp)) (.cons (ResOk.tmp rfl) (.nil))) ?_
        exact ⟨_, rfl, by rw [hat]; exact ⟨k, st, w, hw, rfl⟩, Ext0.only (Ext0.only ((he1.trans he2).trans he3) hx4 (by omega)) hx5 (Nat.le_refl _)⟩
    · obtain ⟨w, k, hk, rfl, rfl, hnd⟩ := hv
      iterate 3 refine xq rfl ?_
      refine xo rfl (OpX.allocN H.zr94) ?_
      rintro _ h3 ⟨rfl, hk3, he3, hz3⟩
      refine RW.op0 rfl rfl rfl (OpX.storeBlk H.sz94 rfl rfl hk3 (by first | rfl | simp) (by first | decide | exact of_decide_eq_true rfl | (simp; done) | (simp; omega)) (NdAt.one hnd)) ?_
      rintro _ h4 ⟨rfl, hk4, hx4, hz4⟩
      refine xq rfl ?_
      refine xd [0, 1, 4, 5, 6, 7, 12, 13] rfl ?_
      refine G.seq rfl ?_
      refine G.seq rfl ?_
      have hk4 : Blk h4 h2.size 94 (ndC x.kind x.set w) := hk4
      have hkr4 := (hkr2.ext0 he3).ext hx4 (by show ¬ _ = _; omega)
      have e24 : Ext0 h2 h4 := Ext0.only he3 hx4 (Nat.le_refl _)
      have hnd4 := hnd.ext0 e24
      have e4 := (he1.trans he2).trans e24
      refine G.regTo1 [(29, .bool (decide (¬ (s.drop k).head? = some 41)))] [(0, _), (1, _), (4, _), (5, _), (6, _), (7, _), (12, _), (13, _)] ⟨rfl, rfl, rfl, rfl, rfl, rfl, rfl, rfl, trivial⟩ Tryd.func79 rfl ?_ ?_
      · iterate 3 refine xq rfl ?_
        refine RW.know (d := 24) (b' := false) rfl (decide_eq_false (by simp)) ?_
        iterate 2 refine xq rfl ?_
        refine xo rfl (OpX.call (vs := [_, _]) Tryd.func77 rfl H.nm77 rfl (CallsH.toX (at_calls s k))) ?_
        rintro _ h4 ⟨rfl, rfl⟩
        iterate 2 refine xq rfl ?_
        refine RW.done rfl ?_
        exact ⟨rfl, at_bool rfl (by exact decide_eq_decide.2 (not_congr (head_at s k 41))), rfl, rfl, rfl, rfl, rfl, rfl, rfl, rfl, trivial⟩
      · refine G.ite rfl rfl (fun hno => ?_) (fun hno => ?_)
        · have hat : atomP (rowsP d) (40 :: s.drop (i + 1)) = none := by
            unfold atomP
            simp only [if_true, hp]
            split
            · rename_i heq; rw [heq] at hno; exact absurd rfl hno
            · rfl
          refine xr Tryd.func79 rfl ?_
          refine xp rfl (OpP.loadRowN H.ag94 H.sz94 rfl hk4.row (by first | rfl | simp)) ?_
          refine RW.op0 rfl rfl rfl (OpX.storeBlk H.sz94 rfl rfl hkr4 (by first | rfl | simp) (by first | decide | exact of_decide_eq_true rfl | (simp; done) | (simp; omega)) (NdAt.one hnd4)) ?_
          rintro _ h5 ⟨rfl, hk5, hx5, hz5⟩
          refine xq rfl ?_
          refine xd [0, 1, 4, 5, 6, 7, 12, 13, 29] rfl ?_
          have hk5 : Blk h5 h.size 94 (ndC x.kind x.set w) := hk5
          refine G.retC Tryd.func79 rfl (.cons (ResOk.rowN H.ag94 H.sz94 rfl (hk5.row) (by first | rfl | simp)) (.cons (ResOk.tmp rfl) (.nil))) ?_
          exact ⟨_, rfl, by rw [hat]; exact ⟨x.kind, x.set, w, by obtain ⟨w', hw', oa, n, c, rfl, _⟩ := NdAt.open hnd4; simp [ndC] at hw'; rw [hw']; rfl, rfl⟩, Ext0.only e4 hx5 (Nat.le_refl _)⟩
        · have hno := Classical.not_not.1 hno
          obtain ⟨hk1, hdk⟩ : k < s.length ∧ s.drop k = 41 :: s.drop (k + 1) := by
            rcases atI_cases s k with ⟨_, hd, _⟩ | ⟨c, _, hlt, hd, _⟩
            · rw [hd] at hno; cases hno
            · rw [hd] at hno; simp at hno; subst hno; exact ⟨hlt, hd⟩
          have hat : atomP (rowsP d) (40 :: s.drop (i + 1)) = some (x, s.drop (k + 1)) := by unfold atomP; simp only [if_true, hp, hdk]
          refine G.skip rfl ?_
          refine xr Tryd.func79 rfl ?_
          refine xp rfl (OpP.loadRowN H.ag94 H.sz94 rfl hk4.row (by first | rfl | simp)) ?_
          refine xq rfl ?_
          refine xp rfl (OpP.add64 rfl rfl ⟨by omega, by omega⟩) ?_
          refine RW.op0 rfl rfl rfl (OpX.storeBlk H.sz94 rfl rfl hkr4 (by first | rfl | simp) (by first | decide | exact of_decide_eq_true rfl | (simp; done) | (simp; omega)) (NdAt.one hnd4)) ?_
          rintro _ h5 ⟨rfl, hk5, hx5, hz5⟩
          refine xq rfl ?_
          refine xd [0, 1, 4, 5, 6, 7, 12, 13, 29] rfl ?_
          have hk5 : Blk h5 h.size 94 (ndC x.kind x.set w) := hk5
          refine G.retC Tryd.func79 rfl (.cons (ResOk.rowN H.ag94 H.sz94 rfl (hk5.row) (by first | rfl | simp)) (.cons (ResOk.tmp rfl) (.nil))) ?_
          exact ⟨_, rfl, by rw [hat]; exact ⟨w, k + 1, by omega, rfl, rfl, NdAt.low hnd4 (by omega) hx5 (fun b _ (hb : b = h.size) => by omega)⟩, Ext0.only e4 hx5 (Nat.le_refl _)⟩
  · have a1 : ¬ (s.drop i).head? = some 40 := fun e => c1 ((head_at s i 40).2 e)
    refine xr Tryd.func79 rfl ?_
    iterate 2 refine xq rfl ?_
    refine xd [0, 1, 4, 5, 12, 13, 34] rfl ?_
    refine G.ite rfl rfl (fun c2 => ?_) (fun c2 => ?_)
    · have a2 := (head_at s i 91).1 c2
      obtain ⟨hlt, hdr⟩ : i < s.length ∧ s.drop i = 91 :: s.drop (i + 1) := by
        rcases atI_cases s i with ⟨_, hd, _⟩ | ⟨c, _, hlt, hd, _⟩
        · rw [hd] at a2; cases a2
        · rw [hd] at a2; simp at a2; subst a2; exact ⟨hlt, hd⟩
      have hat : atomP (rowsP d) (s.drop i) = bracketP (s.drop (i + 1)) := by rw [hdr]; unfold atomP; simp
      rw [hat]
      refine xr Tryd.func79 rfl ?_
      iterate 2 refine xq rfl ?_
      refine xp rfl (OpP.add64 rfl rfl ⟨by omega, by omega⟩) ?_
      refine xo rfl (OpX.call (vs := [_, _]) Tryd.func85 rfl H.nm85 rfl (CallsH.toX (bracketR_calls s (i + 1) (by omega) hs))) ?_
      rintro _ h2 ⟨hv, he2⟩
      have hz2 := he2.size
      have hkr2 := hkr.ext0 he2
      rcases hp : bracketP (s.drop (i + 1)) with _ | ⟨x, t⟩ <;> rw [hp] at hv
      · obtain ⟨k, st, w, hw, rfl⟩ := hv
        iterate 2 refine xq rfl ?_
        refine RW.op0 rfl rfl rfl (OpX.storeBlk H.sz94 rfl rfl hkr2 (by first | rfl | simp) (by first | decide | exact of_decide_eq_true rfl | (simp; done) | (simp; omega)) (ndC_oneW hw)) ?_
        rintro _ h3 ⟨rfl, hk3, hx3, hz3⟩
        refine xq rfl ?_
        refine xd [0, 1, 4, 5, 12, 13, 34] rfl ?_
        have hk3 : Blk h3 h.size 94 (ndC k st w) := hk3
        refine G.retC Tryd.func79 rfl (.cons (ResOk.rowN H.ag94 H.sz94 rfl (hk3.row) (by first | rfl | simp)) (.cons (ResOk.tmp rfl) (.nil))) ?_
        exact ⟨_, rfl, ⟨k, st, w, hw, rfl⟩, Ext0.only (he1.trans he2) hx3 (Nat.le_refl _)⟩
      · obtain ⟨w, k, hk, rfl, rfl, hnd⟩ := hv
        iterate 2 refine xq rfl ?_
        refine RW.op0 rfl rfl rfl (OpX.storeBlk H.sz94 rfl rfl hkr2 (by first | rfl | simp) (by first | decide | exact of_decide_eq_true rfl | (simp; done) | (simp; omega)) (NdAt.one hnd)) ?_
        rintro _ h3 ⟨rfl, hk3, hx3, hz3⟩
        refine xq rfl ?_
        refine xd [0, 1, 4, 5, 12, 13, 34] rfl ?_
        have hk3 : Blk h3 h.size 94 (ndC x.kind x.set w) := hk3
        refine G.retC Tryd.func79 rfl (.cons (ResOk.rowN H.ag94 H.sz94 rfl (hk3.row) (by first | rfl | simp)) (.cons (ResOk.tmp rfl) (.nil))) ?_
        exact ⟨_, rfl, ⟨w, k, hk, rfl, rfl, NdAt.low hnd (by omega) hx3 (fun b _ (hb : b = h.size) => by omega)⟩, Ext0.only (he1.trans he2) hx3 (Nat.le_refl _)⟩
    · have a2 : ¬ (s.drop i).head? = some 91 := fun e => c2 ((head_at s i 91).2 e)
      refine xr Tryd.func79 rfl ?_
      iterate 2 refine xq rfl ?_
      refine xd [0, 1, 4, 5, 12, 13, 34, 42] rfl ?_
      refine G.ite rfl rfl (fun c3 => ?_) (fun c3 => ?_)
      · have a3 := (head_at s i 46).1 c3
        obtain ⟨hlt, hdr⟩ : i < s.length ∧ s.drop i = 46 :: s.drop (i + 1) := by
          rcases atI_cases s i with ⟨_, hd, _⟩ | ⟨c, _, hlt, hd, _⟩
          · rw [hd] at a3; cases a3
          · rw [hd] at a3; simp at a3; subst a3; exact ⟨hlt, hd⟩
        have hat : atomP (rowsP d) (s.drop i) = some (dotNd, s.drop (i + 1)) := by rw [hdr]; unfold atomP; simp
        rw [hat]
        refine xr Tryd.func79 rfl ?_
        refine xp rfl (OpP.build (H.bd60_ ) rfl) ?_
        refine xo rfl (OpX.call (vs := [_, _, _]) Tryd.func86 rfl H.nm86 rfl (CallsH.toX (with_calls 0 0 9 (by decide) (by decide)))) ?_
        rintro _ h2 ⟨rfl, he2⟩
        refine xo rfl (OpX.call (vs := [_, _, _]) Tryd.func86 rfl H.nm86 rfl (CallsH.toX (with_calls (spanN 0 0 10) 11 255 (by decide) (by decide)))) ?_
        rintro _ h3 ⟨rfl, he3⟩
        refine xp rfl (OpP.build (H.bd94_0_1 _ _ _ _ _) rfl) ?_
        refine xq rfl ?_
        refine xp rfl (OpP.add64 rfl rfl ⟨by omega, by omega⟩) ?_
        refine RW.op0 rfl rfl rfl (OpX.storeBlk H.sz94 rfl rfl ((hkr.ext0 he2).ext0 he3) (by first | rfl | simp) (by first | decide | exact of_decide_eq_true rfl | (simp; done) | (simp; omega)) (NdAt.one (NdAt.leaf h3 (fun _ => False) 1 dotNd.set))) ?_
        rintro _ h4 ⟨rfl, hk4, hx4, hz4⟩
        refine xq rfl ?_
        refine xd [0, 1, 4, 5, 12, 13, 34, 42] rfl ?_
        have hk4 : Blk h4 h.size 94 (ndC 1 dotNd.set (.slice none 0 0)) := hk4
        refine G.retC Tryd.func79 rfl (.cons (ResOk.rowN H.ag94 H.sz94 rfl (hk4.row) (by first | rfl | simp)) (.cons (ResOk.tmp rfl) (.nil))) ?_
        exact ⟨_, rfl, ⟨.slice none 0 0, i + 1, by omega, rfl, rfl, NdAt.leaf _ _ _ _⟩, Ext0.only ((he1.trans he2).trans he3) hx4 (Nat.le_refl _)⟩
      · have a3 : ¬ (s.drop i).head? = some 46 := fun e => c3 ((head_at s i 46).2 e)
        have hat : atomP (rowsP d) (s.drop i) = (letR false (s.drop i)).map fun p => (byteNd p.1, p.2) := by
          rcases atI_cases s i with ⟨_, hd, _⟩ | ⟨c, _, hlt, hd, _⟩
          · rw [hd]; rfl
          · rw [hd] at a1 a2 a3 ⊢
            simp only [List.head?_cons, Option.some.injEq] at a1 a2 a3
            rw [letR_cons]
            unfold atomP
            simp only [a1, a2, a3, if_false]
            by_cases h92 : c = 92
            · simp [h92]
            · simp only [h92, if_false]
              have hiff : (c ∈ [(41 : UInt8), 93, 124, 42, 43, 63]) ↔ (c ∈ specialB ∧ (false = true ∨ (c ≠ 45 ∧ c ≠ 94))) := by
                have key : ∀ n : Fin 256, (UInt8.ofNat n.val ≠ 40 → UInt8.ofNat n.val ≠ 91 → UInt8.ofNat n.val ≠ 46 → UInt8.ofNat n.val ≠ 92 → ((UInt8.ofNat n.val ∈ [(41 : UInt8), 93, 124, 42, 43, 63]) ↔ (UInt8.ofNat n.val ∈ specialB ∧ (false = true ∨ (UInt8.ofNat n.val ≠ 45 ∧ UInt8.ofNat n.val ≠ 94))))) := by decide +kernel
                have := key ⟨c.toNat, c.toNat_lt⟩
                simp only [UInt8.ofNat_toNat] at this
                exact this a1 a2 a3 h92
              by_cases hm : c ∈ [(41 : UInt8), 93, 124, 42, 43, 63]
              · rw [if_pos hm, if_pos (hiff.1 hm)]; rfl
              · rw [if_neg hm, if_neg (fun k => hm (hiff.2 k))]; rfl
        rw [hat]
        refine G.skip rfl ?_
        refine G.blkEnd ?_
        refine xr Tryd.func79 rfl ?_
        iterate 2 refine xq rfl ?_
        refine xo rfl (OpX.call (vs := [_, _, _]) Tryd.func87 rfl H.nm87 rfl (CallsH.toX (letterR_calls s i hi hs false))) ?_
        rintro _ h1 ⟨hl, rfl⟩
        rcases hp : letR false (s.drop i) with _ | ⟨b, t⟩ <;> rw [hp] at hl
        · obtain ⟨b0, rfl⟩ := hl
          iterate 5 refine xq rfl ?_
          refine xd [0, 1, 4, 5, 8, 9, 12, 13, 34, 42] rfl ?_
          refine G.seq rfl ?_
          refine xr Tryd.func79 rfl ?_
          iterate 2 refine xq rfl ?_
          refine xd [0, 1, 4, 5, 8, 9, 12, 13, 34, 42, 57] rfl ?_
          refine G.cond rfl rfl (fun _ => ?_) (fun hc => absurd hc (by decide))
          refine xr Tryd.func79 rfl ?_
          refine xp rfl (OpP.build (H.bd94_ ) rfl) ?_
          refine RW.op0 rfl rfl rfl (OpX.storeBlk H.sz94 rfl rfl hkr (by first | rfl | simp) (by first | decide | exact of_decide_eq_true rfl | (simp; done) | (simp; omega)) (by first | decide | simp [Value.oneCell'])) ?_
          rintro _ h2 ⟨rfl, hk2, hx2, hz2⟩
          refine xq rfl ?_
          refine xd [0, 1, 4, 5, 8, 9, 12, 13, 34, 42, 57] rfl ?_
          have hk2 : Blk h2 h.size 94 (ndC 0 0 (.slice none 0 0)) := hk2
          refine G.retC Tryd.func79 rfl (.cons (ResOk.rowN H.ag94 H.sz94 rfl (hk2.row) (by first | rfl | simp)) (.cons (ResOk.tmp rfl) (.nil))) ?_
          exact ⟨_, rfl, ⟨0, 0, _, rfl, rfl⟩, Ext0.only he1 hx2 (Nat.le_refl _)⟩
        · obtain ⟨k, hk, rfl, rfl⟩ := hl
          have hbl := b.toNat_lt
          iterate 5 refine xq rfl ?_
          refine xd [0, 1, 4, 5, 8, 9, 12, 13, 34, 42] rfl ?_
          refine G.seq rfl ?_
          refine xr Tryd.func79 rfl ?_
          iterate 2 refine xq rfl ?_
          refine xd [0, 1, 4, 5, 8, 9, 12, 13, 34, 42, 57] rfl ?_
          refine G.cond rfl rfl (fun hc => absurd hc (by simp)) (fun _ => ?_)
          refine G.skip rfl ?_
          refine xr Tryd.func79 rfl ?_
          refine xp rfl (OpP.build (H.bd60_ ) rfl) ?_
          refine xq rfl ?_
          refine xp rfl (OpP.convIn Tryd.underlying5 Tryd.underlying3 rfl (wrap_i64 ⟨by omega, by omega⟩)) ?_
          refine xq rfl ?_
          refine xp rfl (OpP.convIn Tryd.underlying5 Tryd.underlying3 rfl (wrap_i64 ⟨by omega, by omega⟩)) ?_
          refine xo rfl (OpX.call (vs := [_, _, _]) Tryd.func86 rfl H.nm86 rfl (CallsH.toX (with_calls 0 b.toNat b.toNat (by omega) (by omega)))) ?_
          rintro _ h2 ⟨rfl, he2⟩
          refine xp rfl (OpP.build (H.bd94_0_1 _ _ _ _ _) rfl) ?_
          refine xq rfl ?_
          refine RW.op0 rfl rfl rfl (OpX.storeBlk H.sz94 rfl rfl (hkr.ext0 he2) (by first | rfl | simp) (by first | decide | exact of_decide_eq_true rfl | (simp; done) | (simp; omega)) (NdAt.one (NdAt.leaf h2 (fun _ => False) 1 (byteNd b).set))) ?_
          rintro _ h3 ⟨rfl, hk3, hx3, hz3⟩
          refine xq rfl ?_
          refine xd [0, 1, 4, 5, 8, 9, 12, 13, 34, 42, 57] rfl ?_
          have hk3 : Blk h3 h.size 94 (ndC 1 (byteNd b).set (.slice none 0 0)) := hk3
          refine G.retC Tryd.func79 rfl (.cons (ResOk.rowN H.ag94 H.sz94 rfl (hk3.row) (by first | rfl | simp)) (.cons (ResOk.tmp rfl) (.nil))) ?_
          exact ⟨_, rfl, ⟨.slice none 0 0, k, hk, rfl, rfl, NdAt.leaf _ _ _ _⟩, Ext0.only (he1.trans he2) hx3 (Nat.le_refl _)⟩
theorem SlR.weak {α : Type} {e : Elt α} {h : Heap} {O O' : Nat → Prop} {v : Value} {xs : List α} (k : SlR e h O v xs) (hO : ∀ b, b < h.size → O' b → O b) : SlR e h O' v xs := k.mv ⟨Nat.le_refl _, fun b hb hn => ⟨rfl, fun k => hn (hO b hb k)⟩⟩
theorem NdAt.weak {h : Heap} {O O' : Nat → Prop} {cs : List Value} {x : Nd} (k : NdAt h O cs x) (hO : ∀ b, b < h.size → O' b → O b) : NdAt h O' cs x := k.mv ⟨Nat.le_refl _, fun b hb hn => ⟨rfl, fun k => hn (hO b hb k)⟩⟩
theorem rowEnd_at (s : By) (j : Nat) : rowEnd (s.drop j) = decide (atI s j < 0 ∨ atI s j = 41 ∨ atI s j = 124) := by
  rcases atI_cases s j with ⟨_, hd, ha⟩ | ⟨c, _, _, hd, ha⟩
  · rw [hd, ha]; rfl
  · rw [hd, ha]
    have e1 : (((c.toNat : Nat) : Int) = 41) ↔ c = 41 := u8_is rfl
    have e2 : (((c.toNat : Nat) : Int) = 124) ↔ c = 124 := u8_is rfl
    have h0 : ¬ (((c.toNat : Nat) : Int) < 0) := by omega
    rw [Bool.eq_iff_iff]
    simp only [rowEnd, Bool.or_eq_true, beq_iff_eq, decide_eq_true_eq, e1, e2, h0, false_or]
    exact Or.comm
theorem rowsR_step {d : Nat} (ih : RowsOkR d) {h : Heap} (s : By) (i : Nat) (hi : i ≤ s.length) (hd : (s.drop i).length ≤ d) (hs : s.length ≤ 1000000) : CallsH Tryd.prog 61 #[.string (bs s), .int .i64 (i : Nat)] h (Ret fun r h' => NodV h.size h' s (rowsP (d + 1) (s.drop i)) r ∧ Ext0 h h') := by
  have hrl : ∀ {s x r}, rowsP d s = some (x, r) → r.length ≤ s.length := fun h => rowsP_len d h
  have hrows : rowsP (d + 1) (s.drop i) = rowsG (rowsP d) ((s.drop i).length + 1) [] [] (s.drop i) := rfl
  generalize htg : rowsG (rowsP d) ((s.drop i).length + 1) [] [] (s.drop i) = tgt at hrows
  rw [hrows]
  refine CallsH.of Tryd.func61 rfl rfl ?_
  refine xr Tryd.func61 rfl ?_
  refine xo rfl (OpX.allocN H.zr94) ?_
  rintro _ h1 ⟨rfl, hkr, he1, hz1⟩
  refine xq rfl ?_
  refine xd [0, 1, 4, 5] rfl ?_
  refine xr Tryd.func61 rfl ?_
  iterate 2 refine xq rfl ?_
  refine xd [0, 1, 4, 5, 6, 7] rfl ?_
  refine G.block rfl rfl ?_
  have hkr : Blk h1 h.size 94 (ndC 0 0 (.slice none 0 0)) := hkr
  refine G.loop (σ := List Nd × List Nd × Value × Value × Nat) (fun q => [(0, .string (bs s)), (1, .int .i64 (q.2.2.2.2 : Nat)), (4, .pointer (some ⟨h.size, 0, none⟩)), (6, q.2.2.1), (7, q.2.2.2.1)]) (fun q h' => OwX eNd (fun b => b < h1.size ∨ but q.2.2.2.1.ownBlock b) h' h1.size 94 q.2.2.1 q.1 ∧ OwX eNd (fun b => b < h1.size ∨ but q.2.2.1.ownBlock b) h' h1.size 94 q.2.2.2.1 q.2.1 ∧ (∀ b, q.2.2.1.ownBlock = some b → q.2.2.2.1.ownBlock = some b → False) ∧ Blk h' h.size 94 (ndC 0 0 (.slice none 0 0)) ∧ Ext0 h h' ∧ (q.2.2.2.2 ≤ s.length ∧ i ≤ q.2.2.2.2 ∧ q.1.length + q.2.1.length ≤ q.2.2.2.2) ∧ rowsG (rowsP d) ((s.drop q.2.2.2.2).length + 1) q.1 q.2.1 (s.drop q.2.2.2.2) = tgt) (fun q => s.length - q.2.2.2.2) (([], [], .slice none 0 0, .slice none 0 0, i)) rfl ⟨rfl, rfl, rfl, rfl, rfl, trivial⟩ ⟨OwX.nil _ _ _ _ _, OwX.nil _ _ _ _ _, fun b hb => by simp [Value.ownBlock] at hb, hkr, he1, ⟨hi, Nat.le_refl _, Nat.zero_le _⟩, htg⟩ ?_
  rintro ⟨all, row, va, vr, j⟩ h5 ⟨hva, hvr, hdis, hkr5, e5, ⟨hj, hij, hlens⟩, hcon⟩ ih'
  try dsimp only
  dsimp only at hva hvr hdis hj hij hlens hcon
  have hz5 := hkr5.lt
  have hze5 := e5.size
  obtain ⟨ca, ha1, ha2, ha3⟩ := id hva
  obtain ⟨cr, hr1, hr2, hr3⟩ := id hvr
  have hoa : ∀ b, va.ownBlock = some b → h1.size ≤ b ∧ b < h5.size := fun b hb => ha2.lt hb
  have hor : ∀ b, vr.ownBlock = some b → h1.size ≤ b ∧ b < h5.size := fun b hb => hr2.lt hb
  have hdl : (s.drop j).length = s.length - j := by simp
  have hdl0 : (s.drop i).length = s.length - i := by simp
  refine G.block rfl rfl ?_
  refine xr Tryd.func61 rfl ?_
  iterate 2 refine xq rfl ?_
  refine xo rfl (OpX.call (vs := [_, _]) Tryd.func77 rfl H.nm77 rfl (CallsH.toX (at_calls s j))) ?_
  rintro _ h5 ⟨rfl, rfl⟩
  refine xq rfl ?_
  refine xd [0, 1, 4, 6, 7, 8] rfl ?_
  refine G.seq rfl ?_
  refine G.seq rfl ?_
  have hre := rowEnd_at s j
  rw [rowsG] at hcon
  refine G.regTo1 [(23, .bool (rowEnd (s.drop j)))] [(0, _), (1, _), (4, _), (6, _), (7, _), (8, _)] ⟨rfl, rfl, rfl, rfl, rfl, rfl, trivial⟩ Tryd.func61 rfl ?_ ?_
  · iterate 3 refine xq rfl ?_
    refine RW.split (d := 16) rfl (fun g1 => ?_) (fun g1 => ?_)
    · iterate 2 refine xk rfl ?_
      iterate 2 refine xq rfl ?_
      iterate 2 refine xk rfl ?_
      refine xq rfl ?_
      refine RW.done rfl ?_
      exact ⟨rfl, at_bool rfl (by rw [hre, eq_comm, decide_eq_true_eq]; exact .inl (of_decide_eq_true g1)), rfl, rfl, rfl, rfl, rfl, rfl, trivial⟩
    · iterate 4 refine xq rfl ?_
      refine RW.split (d := 20) rfl (fun g2 => ?_) (fun g2 => ?_)
      · iterate 2 refine xk rfl ?_
        refine xq rfl ?_
        refine RW.done rfl ?_
        exact ⟨rfl, at_bool rfl (by rw [hre, eq_comm, decide_eq_true_eq]; exact .inr (.inl (of_decide_eq_true g2))), rfl, rfl, rfl, rfl, rfl, rfl, trivial⟩
      · iterate 3 refine xq rfl ?_
        refine RW.done rfl ?_
        exact ⟨rfl, at_bool rfl (by rw [hre, decide_eq_decide]; have g1 := of_decide_eq_false g1; have g2 := of_decide_eq_false g2; exact ⟨fun k => .inr (.inr k), fun k => by rcases k with k | k | k; exact absurd k g1; exact absurd k g2; exact k⟩), rfl, rfl, rfl, rfl, rfl, rfl, trivial⟩
  · refine G.cond rfl rfl (fun hend => ?_) (fun hend => ?_)
    · rw [if_pos hend] at hcon
      have hslr : SlR eNd h5 (fun b => b < h1.size ∨ but va.ownBlock b) vr row := hvr.read2 (fun b hb k => by rcases k with k | k; have := hor b hb; omega; exact hdis b k.symm hb) (fun b _ k => k)
      refine xr Tryd.func61 rfl ?_
      iterate 2 refine xq rfl ?_
      refine xo rfl (OpX.call (vs := [_, _]) Tryd.func78 rfl H.nm78 rfl (CallsH.toX (join_calls 2 hslr))) ?_
      rintro _ h6 ⟨⟨w, rfl, hnd6⟩, he6⟩
      have hz6 := he6.size
      have ha36 : ∀ (i : Nat) (cs : List Value) (x : Nd), ca[i]? = some cs → all[i]? = some x → eNd.R h6 (fun b => but va.ownBlock b ∨ b < h1.size) cs x := fun i cs x h1' h2' => NdAt.ext0 (NdAt.weak (ha3 i cs x h1' h2') (fun b _ k => k.imp id .inl)) he6
      have hnd6' : eNd.R h6 (fun b => but va.ownBlock b ∨ b < h1.size) (ndC (joinNd 2 row).kind (joinNd 2 row).set w) (joinNd 2 row) := NdAt.weak hnd6 (fun b _ k => k.symm)
      refine xo rfl (OpX.buildRec (cs := [_, _, _, _, _, _]) Tryd.underlying92 H.el94 rfl rfl (by decide)) ?_
      rintro _ _ ⟨rfl, rfl⟩
      refine xo rfl (OpX.appendNew Tryd.underlying92 H.el94 rfl rfl ((ha2.ext0' he6)) rfl rfl (NdAt.one hnd6) (by omega) (by decide) (by omega)) ?_
      rintro v7 h7 ⟨ho7, hx7, -, hv7⟩
      refine xq rfl ?_
      refine xd [0, 1, 4, 6, 7, 8, 23] rfl ?_
      refine xr Tryd.func61 rfl ?_
      refine xq rfl ?_
      refine xd [0, 1, 4, 6, 7, 8, 23] rfl ?_
      refine G.seq rfl ?_
      refine xr Tryd.func61 rfl ?_
      iterate 2 refine xq rfl ?_
      refine xd [0, 1, 4, 6, 7, 8, 23, 30] rfl ?_
      have hva7 : OwX eNd (blw h1.size) h7 h1.size 94 v7 (all ++ [joinNd 2 row]) := OwX.pushed ha1 ha36 ho7 hx7 hv7 hnd6'
      have hr7 : ¬ but va.ownBlock h.size := fun k => by have := hoa _ k.symm; omega
      have e7 : Ext0 h h7 := ⟨by have := hx7.size; omega, fun b hb hn => by rw [hx7.block b (by omega) (fun k => by have := hoa b k.symm; omega), he6.block b (by omega) (fun k => k)]; exact e5.block b hb hn⟩
      have hkr7 := (hkr5.ext0 he6).ext hx7 hr7
      have h124 := head_at s j 124
      refine G.ite rfl rfl (fun hbar => ?_) (fun hbar => ?_)
      · have hbar' : ¬ (s.drop j).head? = some 124 := fun e => hbar (h124.2 e)
        rw [if_neg hbar'] at hcon
        have hsla : SlR eNd h7 (blw h1.size) v7 (all ++ [joinNd 2 row]) := hva7.read (fun b hb (k : b < h1.size) => by omega) (fun b _ k => k)
        refine xr Tryd.func61 rfl ?_
        refine xq rfl ?_
        refine xo rfl (OpX.call (vs := [_, _]) Tryd.func78 rfl H.nm78 rfl (CallsH.toX (join_calls 3 hsla))) ?_
        rintro _ h8 ⟨⟨w8, rfl, hnd8⟩, he8⟩
        refine xq rfl ?_
        refine RW.op0 rfl rfl rfl (OpX.storeBlk H.sz94 rfl rfl (hkr7.ext0 he8) (by first | rfl | simp) (by first | decide | exact of_decide_eq_true rfl | (simp; done) | (simp; omega)) (NdAt.one hnd8)) ?_
        rintro _ h9 ⟨rfl, hk9, hx9, hz9⟩
        refine xq rfl ?_
        refine xd [0, 1, 4, 5, 6, 7, 8, 23, 30] rfl ?_
        have hk9 : Blk h9 h.size 94 (ndC (joinNd 3 (all ++ [joinNd 2 row])).kind (joinNd 3 (all ++ [joinNd 2 row])).set w8) := hk9
        refine G.retC Tryd.func61 rfl (.cons (ResOk.rowN H.ag94 H.sz94 rfl (hk9.row) (by first | rfl | simp)) (.cons (ResOk.tmp rfl) (.nil))) ?_
        exact ⟨_, rfl, by rw [← hcon]; exact ⟨w8, j, hj, rfl, rfl, NdAt.low hnd8 (by omega) hx9 (fun b _ (hb : b = h.size) => by omega)⟩, Ext0.only (e7.trans he8) hx9 (Nat.le_refl _)⟩
      · have hbar' := h124.1 (Classical.not_not.1 hbar)
        have hlt : j < s.length := by
          rcases atI_cases s j with ⟨_, hd, _⟩ | ⟨_, _, hlt, _, _⟩
          · rw [hd] at hbar'; cases hbar'
          · exact hlt
        rw [if_pos hbar', tail_drop] at hcon
        have hcon' : rowsG (rowsP d) ((s.drop (j + 1)).length + 1) (all ++ [joinNd 2 row]) [] (s.drop (j + 1)) = tgt := by
          rw [← hcon]
          exact rowsG_fuel hrl _ _ _ _ _ _ (Nat.le_refl _) (Nat.lt_succ_self _) (by simp only [List.length_drop]; omega)
        refine G.skip rfl ?_
        refine xr Tryd.func61 rfl ?_
        refine xq rfl ?_
        refine xp rfl (OpP.add64 rfl rfl ⟨by omega, by omega⟩) ?_
        refine xq rfl ?_
        refine xd [0, 1, 4, 6, 7, 8, 23, 30] rfl ?_
        refine G.exit rfl rfl ?_
        exact ih' (all ++ [joinNd 2 row], [], v7, .slice none 0 0, j + 1) _ _ ⟨rfl, rfl, rfl, rfl, rfl, trivial⟩ ⟨hva7.mv2 (Ext.refl (fun _ => False) _) (fun b _ k => k) (fun b _ k => k.elim) (fun b _ k => by rcases k with k | k; exact k; simp [but, Value.ownBlock] at k), OwX.nil _ _ _ _ _, fun b _ hb => by simp [Value.ownBlock] at hb, hkr7, e7, ⟨hlt, by show i ≤ j + 1; omega, by show (all ++ [joinNd 2 row]).length + 0 ≤ j + 1; rw [List.length_append, List.length_singleton]; omega⟩, hcon'⟩ (by show s.length - (j + 1) < s.length - j; omega)
    · rw [if_neg (by rw [hend]; decide)] at hcon
      refine G.skip rfl ?_
      refine xr Tryd.func61 rfl ?_
      iterate 2 refine xq rfl ?_
      refine xo rfl (OpX.call (vs := [_, _]) Tryd.func79 rfl H.nm79 rfl (CallsH.toX (atomR_calls ih s j hj (by omega) hs))) ?_
      rintro _ h6 ⟨hv, he6⟩
      have hz6 := he6.size
      have hkr6 := hkr5.ext0 he6
      have hpc : pieceP (rowsP d) (s.drop j) = (atomP (rowsP d) (s.drop j)).map fun p => signsP p.1 p.2 := rfl
      rcases hp : atomP (rowsP d) (s.drop j) with _ | ⟨x0, t0⟩ <;> rw [hp] at hv hpc
      · obtain ⟨k, st, w, hw, rfl⟩ := hv
        have hnone : tgt = none := by rw [← hcon, hpc]; rfl
        rw [hnone]
        iterate 3 refine xq rfl ?_
        refine xo rfl (OpX.allocN H.zr94) ?_
        rintro _ h7 ⟨rfl, hk7, he7, hz7⟩
        refine RW.op0 rfl rfl rfl (OpX.storeBlk H.sz94 rfl rfl hk7 (by first | rfl | simp) (by first | decide | exact of_decide_eq_true rfl | (simp; done) | (simp; omega)) (ndC_oneW hw)) ?_
        rintro _ h8 ⟨rfl, hk8, hx8, hz8⟩
        refine xq rfl ?_
        refine xd [0, 1, 4, 6, 7, 8, 9, 10, 23] rfl ?_
        refine G.seq rfl ?_
        refine xr Tryd.func61 rfl ?_
        iterate 2 refine xq rfl ?_
        refine xd [0, 1, 4, 6, 7, 8, 9, 10, 23, 43] rfl ?_
        have hk8 : Blk h8 h6.size 94 (ndC k st w) := hk8
        refine G.cond rfl rfl (fun _ => ?_) (fun hc => absurd hc (by decide))
        refine xr Tryd.func61 rfl ?_
        refine xp rfl (OpP.loadRowN H.ag94 H.sz94 rfl hk8.row (by first | rfl | simp)) ?_
        refine RW.op0 rfl rfl rfl (OpX.storeBlk H.sz94 rfl rfl ((hkr6.ext0 he7).ext hx8 (by show ¬ _ = _; omega)) (by first | rfl | simp) (by first | decide | exact of_decide_eq_true rfl | (simp; done) | (simp; omega)) (ndC_oneW hw)) ?_
        rintro _ h9 ⟨rfl, hk9, hx9, hz9⟩
        refine xq rfl ?_
        refine xd [0, 1, 4, 5, 6, 7, 8, 9, 10, 23, 43] rfl ?_
        have hk9 : Blk h9 h.size 94 (ndC k st w) := hk9
        refine G.retC Tryd.func61 rfl (.cons (ResOk.rowN H.ag94 H.sz94 rfl (hk9.row) (by first | rfl | simp)) (.cons (ResOk.tmp rfl) (.nil))) ?_
        exact ⟨_, rfl, ⟨k, st, w, hw, rfl⟩, Ext0.only (Ext0.only ((e5.trans he6).trans he7) hx8 (by omega)) hx9 (Nat.le_refl _)⟩
      · obtain ⟨w0, m0, hm0, rfl, rfl, hnd⟩ := hv
        have hal := atomP_len hrl hp
        simp only [List.length_drop] at hal
        have hpc : pieceP (rowsP d) (s.drop j) = some (signsP x0 (s.drop m0)) := hpc
        iterate 3 refine xq rfl ?_
        refine xo rfl (OpX.allocN H.zr94) ?_
        rintro _ h7 ⟨rfl, hk7, he7, hz7⟩
        refine RW.op0 rfl rfl rfl (OpX.storeBlk H.sz94 rfl rfl hk7 (by first | rfl | simp) (by first | decide | exact of_decide_eq_true rfl | (simp; done) | (simp; omega)) (NdAt.one hnd)) ?_
        rintro _ h8 ⟨rfl, hk8, hx8, hz8⟩
        refine xq rfl ?_
        refine xd [0, 1, 4, 6, 7, 8, 9, 10, 23] rfl ?_
        refine G.seq rfl ?_
        refine xr Tryd.func61 rfl ?_
        iterate 2 refine xq rfl ?_
        refine xd [0, 1, 4, 6, 7, 8, 9, 10, 23, 43] rfl ?_
        have hk8 : Blk h8 h6.size 94 (ndC x0.kind x0.set w0) := hk8
        have e68 : Ext0 h6 h8 := Ext0.only he7 hx8 (Nat.le_refl _)
        have e58 := he6.trans e68
        have hnd8 : NdAt h8 (fun b => b < h5.size ∨ b = h6.size) (ndC x0.kind x0.set w0) x0 := hnd.mv (Mv.ofExt e68 fun b hb hn => ⟨fun k => k, fun k => by have : ¬ b < h5.size := hn; omega⟩)
        generalize hnb : h6.size = nb at hk8 hnd8
        have hnb5 : h5.size ≤ nb := by omega
        rw [hpc] at hcon
        simp only at hcon
        generalize hsg : signsP x0 (s.drop m0) = tg2 at hcon
        refine G.cond rfl rfl (fun hc => absurd hc (by simp)) (fun _ => ?_)
        refine G.skip rfl ?_
        refine G.seq rfl ?_
        refine G.block rfl rfl ?_
        refine G.loop (σ := Nd × Value × Nat) (fun q => [(0, .string (bs s)), (1, .int .i64 (j : Nat)), (4, .pointer (some ⟨h.size, 0, none⟩)), (6, va), (7, vr), (9, .pointer (some ⟨nb, 0, none⟩)), (10, .int .i64 (q.2.2 : Nat))]) (fun q h' => Blk h' nb 94 (ndC q.1.kind q.1.set q.2.1) ∧ NdAt h' (fun b => b < h5.size ∨ b = nb) (ndC q.1.kind q.1.set q.2.1) q.1 ∧ Ext0 h5 h' ∧ (q.2.2 ≤ s.length ∧ j < q.2.2) ∧ signsP q.1 (s.drop q.2.2) = tg2) (fun q => s.length - q.2.2) ((x0, w0, m0)) rfl ⟨rfl, rfl, rfl, rfl, rfl, rfl, rfl, trivial⟩ ⟨hk8, hnd8, e58, ⟨hm0, by show j < m0; omega⟩, hsg⟩ ?_
        rintro ⟨x, w, m⟩ h8 ⟨hk8, hnd8, e8, ⟨hm, him⟩, hsg⟩ ih2
        try dsimp only
        dsimp only at hk8 hnd8 hm him hsg
        have hze8 := e8.size
        have hlt8 := hk8.lt
        refine G.seq rfl ?_
        refine xr Tryd.func61 rfl ?_
        iterate 2 refine xq rfl ?_
        refine xo rfl (OpX.call (vs := [_, _]) Tryd.func77 rfl H.nm77 rfl (CallsH.toX (at_calls s m))) ?_
        rintro _ h8 ⟨rfl, rfl⟩
        refine xo rfl (OpX.call (vs := [_]) Tryd.func80 rfl H.nm80 rfl (CallsH.toX (signR_calls (atI s m)))) ?_
        rintro _ h8 ⟨rfl, rfl⟩
        refine xq rfl ?_
        refine xd [0, 1, 4, 6, 7, 9, 10, 49] rfl ?_
        rw [signI_at]
        refine G.ite rfl rfl (fun hgo => ?_) (fun hgo => ?_)
        · have hgo : 0 < signOf ((s.drop m).head?.getD 0) := by omega
          have hlt : m < s.length := by
            rcases atI_cases s m with ⟨_, hd, _⟩ | ⟨_, _, hlt, _, _⟩
            · rw [hd] at hgo; exact absurd hgo (show ¬ 0 < signOf (([] : By).head?.getD 0) by decide)
            · exact hlt
          have hnext : signsP (.mk (signOf ((s.drop m).head?.getD 0)) 0 [x]) (s.drop (m + 1)) = tg2 := by
            rcases atI_cases s m with ⟨_, hd, _⟩ | ⟨c, _, _, hd, _⟩
            · rw [hd] at hgo; exact absurd hgo (show ¬ 0 < signOf (([] : By).head?.getD 0) by decide)
            · rw [hd] at hgo hsg ⊢
              simp only [List.head?_cons, Option.getD_some] at hgo ⊢
              rw [← hsg, signsP_step hgo]
          generalize hsgd : s.drop m = sg at hnext hgo
          have hsl := SlR.made1 (e := eNd) (t := 94) hnd8 (show ¬ (h8.size < h5.size ∨ h8.size = nb) by omega)
          have ep := Ext.push (fun _ => False) h8 (.cells (ndC x.kind x.set w).toArray 94)
          have hn2 : ¬ Array.size h8 ≤ nb := by omega
          refine G.skip rfl ?_
          refine G.block rfl rfl ?_
          refine G.seq rfl ?_
          refine G.draw (fun b => Array.size h8 ≤ b) (fun i => Nat.blt i 7) (sz := 8) (listed := #[false, false, false, false, false, false, false, false]) Tryd.func61 H.mixed rfl rfl rfl ?_
          refine RD.takeS 0 (listed' := #[true, false, false, false, false, false, false, false]) rfl (by kernel_rfl) (by kernel_rfl) (by kernel_rfl) rfl rfl rfl (fun h' e => OpP.move rfl) rfl ?_
          refine RD.takeS 1 (listed' := #[true, true, false, false, false, false, false, false]) rfl (by kernel_rfl) (by kernel_rfl) (by kernel_rfl) rfl rfl rfl (fun h' e => OpP.move rfl) rfl ?_
          refine RD.takeS 4 (listed' := #[true, true, false, false, true, false, false, false]) rfl (by kernel_rfl) (by kernel_rfl) (by kernel_rfl) rfl rfl rfl (fun h' e => OpP.loadRowN H.ag94 H.sz94 rfl (e.rowAt hn2 hk8.row) (by first | rfl | simp)) rfl ?_
          refine RD.twoS 2 5 (li := #[true, true, true, false, true, false, false, false]) (lj := #[true, true, false, false, true, true, false, false]) rfl rfl (by kernel_rfl) rfl rfl rfl rfl rfl rfl (OpX.call (vs := [_, _]) Tryd.func77 rfl H.nm77 rfl (CallsH.toX (at_calls s m))) (OpX.buildRec (cs := [_, _, _, _, _, _]) Tryd.underlying92 H.el94 rfl rfl (by decide)) rfl rfl ?_ ?_
          · rintro _ h8 ⟨rfl, rfl⟩
            refine ⟨fun _ => Ext.refl _ _, ?_⟩
            refine RD.twoS 3 5 (li := #[true, true, true, true, true, false, false, false]) (lj := #[true, true, true, false, true, true, false, false]) rfl rfl (by kernel_rfl) rfl rfl rfl rfl rfl rfl (OpX.call (vs := [_]) Tryd.func80 rfl H.nm80 rfl (CallsH.toX (signR_calls (atI s m)))) (OpX.buildRec (cs := [_, _, _, _, _, _]) Tryd.underlying92 H.el94 rfl rfl (by decide)) rfl rfl ?_ ?_
            · rintro _ h8 ⟨rfl, rfl⟩
              refine ⟨fun _ => Ext.refl _ _, ?_⟩
              refine RD.oneS 5 (listed' := #[true, true, true, true, true, true, false, false]) rfl (by kernel_rfl) rfl rfl rfl (OpX.buildRec (cs := [_, _, _, _, _, _]) Tryd.underlying92 H.el94 rfl rfl (by decide)) rfl ?_
              rintro _ _ ⟨rfl, rfl⟩
              refine ⟨fun _ => by first | exact Ext.push _ _ _ | assumption, ?_⟩
              refine RD.takeS 6 (listed' := #[true, true, true, true, true, true, true, false]) rfl (by kernel_rfl) (by kernel_rfl) (by kernel_rfl) rfl rfl rfl (fun h' e => OpP.build (H.bd94_0_2 _ _ _ _) rfl) rfl ?_
              refine RD.one0 7 (listed' := #[true, true, true, true, true, true, true, true]) rfl (by kernel_rfl) rfl rfl (OpX.storeBlk H.sz94 rfl rfl (hk8.ext0 ep) (by first | rfl | simp) (by first | decide | exact of_decide_eq_true rfl | (simp; done) | (simp; omega)) (ndC_oneW (k := signI (atI s m)) (st := 0) (w := .slice (some ⟨h8.size, 0, none⟩) 1 1) rfl)) rfl ?_
              rintro _ h9 ⟨rfl, hk9, hx9, hz9⟩
              refine ⟨fun hk => (nomatch hk), ?_⟩
              refine RD.done (by kernel_rfl) ?_
              refine xu [0, 1, 4, 6, 7, 9, 10, 49] rfl ?_
              refine G.reg Tryd.func61 rfl ?_
              refine xq rfl ?_
              refine xp rfl (OpP.add64 rfl rfl ⟨by omega, by omega⟩) ?_
              refine xq rfl ?_
              refine xd [0, 1, 4, 6, 7, 9, 10, 49] rfl ?_
              refine G.blkEnd ?_
              rw [signI_at, hsgd] at hk9
              have hk9 : Blk h9 nb 94 (ndC (signOf (sg.head?.getD 0)) 0 (.slice (some ⟨h8.size, 0, none⟩) 1 1)) := hk9
              exact ih2 (.mk (signOf (sg.head?.getD 0)) 0 [x], .slice (some ⟨h8.size, 0, none⟩) 1 1, m + 1) _ _ ⟨rfl, rfl, rfl, rfl, rfl, rfl, rfl, trivial⟩ ⟨hk9, (NdAt.of (signOf (sg.head?.getD 0)) 0 hsl).mv (Mv.ofExt hx9 fun b hb hn => ⟨fun (k : b = nb) => hn (.inr k), hn⟩), Ext0.only (e8.trans ep) hx9 (by omega), ⟨hlt, by show j < m + 1; omega⟩, hnext⟩ (by show s.length - (m + 1) < s.length - m; omega)
            · rintro _ _ ⟨rfl, rfl⟩
              refine ⟨fun _ => by first | exact Ext.push _ _ _ | assumption, ?_⟩
              refine RD.oneS 3 (listed' := #[true, true, true, true, true, true, false, false]) rfl (by kernel_rfl) rfl rfl rfl (OpX.call (vs := [_]) Tryd.func80 rfl H.nm80 rfl (CallsH.toX (signR_calls (atI s m)))) rfl ?_
              rintro _ _ ⟨rfl, rfl⟩
              refine ⟨fun _ => Ext.refl _ _, ?_⟩
              refine RD.takeS 6 (listed' := #[true, true, true, true, true, true, true, false]) rfl (by kernel_rfl) (by kernel_rfl) (by kernel_rfl) rfl rfl rfl (fun h' e => OpP.build (H.bd94_0_2 _ _ _ _) rfl) rfl ?_
              refine RD.one0 7 (listed' := #[true, true, true, true, true, true, true, true]) rfl (by kernel_rfl) rfl rfl (OpX.storeBlk H.sz94 rfl rfl (hk8.ext0 ep) (by first | rfl | simp) (by first | decide | exact of_decide_eq_true rfl | (simp; done) | (simp; omega)) (ndC_oneW (k := signI (atI s m)) (st := 0) (w := .slice (some ⟨h8.size, 0, none⟩) 1 1) rfl)) rfl ?_
              rintro _ h9 ⟨rfl, hk9, hx9, hz9⟩
              refine ⟨fun hk => (nomatch hk), ?_⟩
              refine RD.done (by kernel_rfl) ?_
              refine xu [0, 1, 4, 6, 7, 9, 10, 49] rfl ?_
              refine G.reg Tryd.func61 rfl ?_
              refine xq rfl ?_
              refine xp rfl (OpP.add64 rfl rfl ⟨by omega, by omega⟩) ?_
              refine xq rfl ?_
              refine xd [0, 1, 4, 6, 7, 9, 10, 49] rfl ?_
              refine G.blkEnd ?_
              rw [signI_at, hsgd] at hk9
              have hk9 : Blk h9 nb 94 (ndC (signOf (sg.head?.getD 0)) 0 (.slice (some ⟨h8.size, 0, none⟩) 1 1)) := hk9
              exact ih2 (.mk (signOf (sg.head?.getD 0)) 0 [x], .slice (some ⟨h8.size, 0, none⟩) 1 1, m + 1) _ _ ⟨rfl, rfl, rfl, rfl, rfl, rfl, rfl, trivial⟩ ⟨hk9, (NdAt.of (signOf (sg.head?.getD 0)) 0 hsl).mv (Mv.ofExt hx9 fun b hb hn => ⟨fun (k : b = nb) => hn (.inr k), hn⟩), Ext0.only (e8.trans ep) hx9 (by omega), ⟨hlt, by show j < m + 1; omega⟩, hnext⟩ (by show s.length - (m + 1) < s.length - m; omega)
          · rintro _ _ ⟨rfl, rfl⟩
            refine ⟨fun _ => by first | exact Ext.push _ _ _ | assumption, ?_⟩
            refine RD.oneS 2 (listed' := #[true, true, true, false, true, true, false, false]) rfl (by kernel_rfl) rfl rfl rfl (OpX.call (vs := [_, _]) Tryd.func77 rfl H.nm77 rfl (CallsH.toX (at_calls s m))) rfl ?_
            rintro _ _ ⟨rfl, rfl⟩
            refine ⟨fun _ => Ext.refl _ _, ?_⟩
            refine RD.oneS 3 (listed' := #[true, true, true, true, true, true, false, false]) rfl (by kernel_rfl) rfl rfl rfl (OpX.call (vs := [_]) Tryd.func80 rfl H.nm80 rfl (CallsH.toX (signR_calls (atI s m)))) rfl ?_
            rintro _ _ ⟨rfl, rfl⟩
            refine ⟨fun _ => Ext.refl _ _, ?_⟩
            refine RD.takeS 6 (listed' := #[true, true, true, true, true, true, true, false]) rfl (by kernel_rfl) (by kernel_rfl) (by kernel_rfl) rfl rfl rfl (fun h' e => OpP.build (H.bd94_0_2 _ _ _ _) rfl) rfl ?_
            refine RD.one0 7 (listed' := #[true, true, true, true, true, true, true, true]) rfl (by kernel_rfl) rfl rfl (OpX.storeBlk H.sz94 rfl rfl (hk8.ext0 ep) (by first | rfl | simp) (by first | decide | exact of_decide_eq_true rfl | (simp; done) | (simp; omega)) (ndC_oneW (k := signI (atI s m)) (st := 0) (w := .slice (some ⟨h8.size, 0, none⟩) 1 1) rfl)) rfl ?_
            rintro _ h9 ⟨rfl, hk9, hx9, hz9⟩
            refine ⟨fun hk => (nomatch hk), ?_⟩
            refine RD.done (by kernel_rfl) ?_
            refine xu [0, 1, 4, 6, 7, 9, 10, 49] rfl ?_
            refine G.reg Tryd.func61 rfl ?_
            refine xq rfl ?_
            refine xp rfl (OpP.add64 rfl rfl ⟨by omega, by omega⟩) ?_
            refine xq rfl ?_
            refine xd [0, 1, 4, 6, 7, 9, 10, 49] rfl ?_
            refine G.blkEnd ?_
            rw [signI_at, hsgd] at hk9
            have hk9 : Blk h9 nb 94 (ndC (signOf (sg.head?.getD 0)) 0 (.slice (some ⟨h8.size, 0, none⟩) 1 1)) := hk9
            exact ih2 (.mk (signOf (sg.head?.getD 0)) 0 [x], .slice (some ⟨h8.size, 0, none⟩) 1 1, m + 1) _ _ ⟨rfl, rfl, rfl, rfl, rfl, rfl, rfl, trivial⟩ ⟨hk9, (NdAt.of (signOf (sg.head?.getD 0)) 0 hsl).mv (Mv.ofExt hx9 fun b hb hn => ⟨fun (k : b = nb) => hn (.inr k), hn⟩), Ext0.only (e8.trans ep) hx9 (by omega), ⟨hlt, by show j < m + 1; omega⟩, hnext⟩ (by show s.length - (m + 1) < s.length - m; omega)
        · rw [signsP_stop (by omega)] at hsg
          subst hsg
          simp only at hcon
          have hr38 : ∀ (i : Nat) (cs : List Value) (x : Nd), cr[i]? = some cs → row[i]? = some x → eNd.R h8 (fun b => but vr.ownBlock b ∨ (b < h1.size ∨ but va.ownBlock b)) cs x := fun i cs x h1' h2' => NdAt.ext0 (hr3 i cs x h1' h2') e8
          have hnd8' : eNd.R h8 (fun b => but vr.ownBlock b ∨ (b < h1.size ∨ but va.ownBlock b)) (ndC x.kind x.set w) x := NdAt.weak hnd8 (fun b _ k => .inl (by
            rcases k with k | k | k
            · exact (hor b k.symm).2
            · omega
            · exact (hoa b k.symm).2))
          refine G.exit rfl rfl ?_
          refine xr Tryd.func61 rfl ?_
          refine xq rfl ?_
          refine xp rfl (OpP.loadRowN H.ag94 H.sz94 rfl hk8.row (by first | rfl | simp)) ?_
          refine xo rfl (OpX.buildRec (cs := [_, _, _, _, _, _]) Tryd.underlying92 H.el94 rfl rfl (by decide)) ?_
          rintro _ _ ⟨rfl, rfl⟩
          refine xo rfl (OpX.appendNew Tryd.underlying92 H.el94 rfl rfl ((hr2.ext0' e8)) rfl rfl (NdAt.one hnd8) (by omega) (by decide) (by omega)) ?_
          rintro v9 h9 ⟨ho9, hx9, -, hv9⟩
          refine xq rfl ?_
          refine xd [0, 1, 4, 6, 7, 9, 10, 49] rfl ?_
          refine G.reg Tryd.func61 rfl ?_
          iterate 2 refine xq rfl ?_
          refine xd [0, 1, 4, 6, 7, 9, 10, 49] rfl ?_
          refine G.blkEnd ?_
          have hdis9 : ∀ b, va.ownBlock = some b → v9.ownBlock = some b → False := fun b hb hb9 => by
            rcases hv9 b hb9 with k | k
            · exact hdis b hb k
            · have := hoa b hb; omega
          have hva9 : OwX eNd (fun b => b < h1.size ∨ but v9.ownBlock b) h9 h1.size 94 va all := (hva.ext0 e8).mv2 hx9 (fun b hb k => hdis b hb k.symm) (fun b _ k => .inr k) (fun b hb k => by
            rcases k with k | k
            · exact .inl k
            · rcases hv9 b k.symm with k' | k'
              · exact .inr k'.symm
              · omega)
          have hr9 : ¬ but vr.ownBlock h.size := fun k => by have := hor _ k.symm; omega
          have e9 : Ext0 h h9 := ⟨by have := hx9.size; omega, fun b hb hn => by rw [hx9.block b (by omega) (fun k => by have := hor b k.symm; omega), e8.block b (by omega) (fun k => k)]; exact e5.block b hb hn⟩
          have hcon' : rowsG (rowsP d) ((s.drop m).length + 1) all (row ++ [x]) (s.drop m) = tgt := by
            rw [← hcon]
            exact rowsG_fuel hrl _ _ _ _ _ _ (Nat.le_refl _) (Nat.lt_succ_self _) (by simp only [List.length_drop]; omega)
          exact ih' (all, row ++ [x], va, v9, m) _ _ ⟨rfl, rfl, rfl, rfl, rfl, trivial⟩ ⟨hva9, OwX.pushed hr1 hr38 ho9 hx9 hv9 hnd8', hdis9, (hkr5.ext0 e8).ext hx9 hr9, e9, ⟨hm, by show i ≤ m; omega, by show all.length + (row ++ [x]).length ≤ m; rw [List.length_append, List.length_singleton]; omega⟩, hcon'⟩ (by show s.length - m < s.length - j; omega)
theorem rowsR_ok : ∀ d, RowsOkR d
  | 0 => fun _ _ _ _ h _ => absurd h (Nat.not_lt_zero _)
  | d + 1 => fun _ s i hi hd hs => rowsR_step (rowsR_ok d) s i hi (by omega) hs
theorem parseR_calls {h : Heap} (s : By) (hs : s.length ≤ 1000000) : CallsH Tryd.prog 42 #[.string (bs s)] h (Ret fun r h' => ParseV h h' s r ∧ Ext0 h h') := by
  have hsz := bs_size s
  refine CallsH.of Tryd.func42 rfl rfl ?_
  refine xr Tryd.func42 rfl ?_
  refine xo rfl (OpX.allocN H.zr94) ?_
  rintro _ h1 ⟨rfl, hk1, he1, hz1⟩
  refine xq rfl ?_
  refine xd [0, 2, 3] rfl ?_
  refine G.seq rfl ?_
  refine xr Tryd.func42 rfl ?_
  refine xq rfl ?_
  refine xp rfl (OpP.lenString Tryd.underlying9 rfl) ?_
  refine xq rfl ?_
  refine xd [0, 2, 3, 8] rfl ?_
  have hk1 : Blk h1 h.size 94 zeroN := hk1
  refine G.ite rfl rfl (fun hbig => ?_) (fun hbig => ?_)
  · have hE : parseE s = (emptyNd, 3) := by unfold parseE; rw [if_pos (by omega)]
    refine xr Tryd.func42 rfl ?_
    refine xp rfl (OpP.build (H.bd94_ ) rfl) ?_
    refine RW.op0 rfl rfl rfl (OpX.storeBlk H.sz94 rfl rfl hk1 (by first | rfl | simp) (by first | decide | exact of_decide_eq_true rfl | (simp; done) | (simp; omega)) (by first | decide | simp [Value.oneCell'])) ?_
    rintro _ h3 ⟨rfl, hk3, hx3, hz3⟩
    refine xq rfl ?_
    refine xd [0, 2, 3, 8] rfl ?_
    have hk3 : Blk h3 h.size 94 zeroN := hk3
    refine G.retC Tryd.func42 rfl (.cons (ResOk.rowN H.ag94 H.sz94 rfl (hk3.row) (by first | rfl | simp)) (.cons (ResOk.tmp rfl) (.nil))) ?_
    refine ⟨_, rfl, ⟨.slice none 0 0, by rw [hE]; rfl, by rw [hE]; exact NdAt.leaf _ _ 0 0⟩, Ext0.only he1 hx3 (Nat.le_refl _)⟩
  · have hE : parseE s = match parseP s with | some x => (x, 0) | none => (emptyNd, 10) := by unfold parseE; rw [if_neg (by omega)]; rfl
    refine G.skip rfl ?_
    refine xr Tryd.func42 rfl ?_
    refine xq rfl ?_
    refine xo rfl (OpX.call (vs := [_, _]) Tryd.func61 rfl H.nm61 rfl (CallsH.toX (rowsR_ok (s.length + 1) h1 s 0 (Nat.zero_le _) (by simp) hs))) ?_
    rintro _ h2 ⟨hv, he2⟩
    have hz2 := he2.size
    have hk12 := hk1.ext0 he2
    rw [List.drop_zero] at hv
    rcases hp : rowsP (s.length + 1) s with _ | ⟨x, t⟩ <;> rw [hp] at hv
    · obtain ⟨k, st, w, hw, rfl⟩ := hv
      have hpn : parseP s = none := by unfold parseP; rw [hp]
      iterate 3 refine xq rfl ?_
      refine xo rfl (OpX.allocN H.zr94) ?_
      rintro _ h3 ⟨rfl, hk3, he3, hz3⟩
      refine RW.op0 rfl rfl rfl (OpX.storeBlk H.sz94 rfl rfl hk3 (by first | rfl | simp) (by first | decide | exact of_decide_eq_true rfl | (simp; done) | (simp; omega)) (ndC_oneW hw)) ?_
      rintro _ h4 ⟨rfl, hk4, hx4, hz4⟩
      refine xq rfl ?_
      refine xd [0, 2, 3, 4, 5, 8] rfl ?_
      refine G.seq rfl ?_
      refine xr Tryd.func42 rfl ?_
      iterate 2 refine xq rfl ?_
      refine xp rfl (OpP.lenString Tryd.underlying9 rfl) ?_
      refine xq rfl ?_
      refine xd [0, 2, 3, 4, 5, 8, 18] rfl ?_
      refine G.cond rfl rfl (fun _ => ?_) (fun hc => absurd hc (by simp))
      refine xr Tryd.func42 rfl ?_
      refine xp rfl (OpP.build (H.bd94_ ) rfl) ?_
      refine RW.op0 rfl rfl rfl (OpX.storeBlk H.sz94 rfl rfl ((hk12.ext0 he3).ext hx4 (by show ¬ _ = _; omega)) (by first | rfl | simp) (by first | decide | exact of_decide_eq_true rfl | (simp; done) | (simp; omega)) (by first | decide | simp [Value.oneCell'])) ?_
      rintro _ h5 ⟨rfl, hk5, hx5, hz5⟩
      refine xq rfl ?_
      refine xd [0, 2, 3, 4, 5, 8, 18] rfl ?_
      have hk5 : Blk h5 h.size 94 zeroN := hk5
      refine G.retC Tryd.func42 rfl (.cons (ResOk.rowN H.ag94 H.sz94 rfl (hk5.row) (by first | rfl | simp)) (.cons (ResOk.tmp rfl) (.nil))) ?_
      exact ⟨_, rfl, ⟨.slice none 0 0, by rw [hE, hpn] <;> rfl, by rw [hE, hpn]; exact NdAt.leaf _ _ 0 0⟩, Ext0.only (Ext0.only ((he1.trans he2).trans he3) hx4 (by omega)) hx5 (Nat.le_refl _)⟩
    · obtain ⟨w, k, hk, rfl, rfl, hnd⟩ := hv
      iterate 3 refine xq rfl ?_
      refine xo rfl (OpX.allocN H.zr94) ?_
      rintro _ h3 ⟨rfl, hk3, he3, hz3⟩
      refine RW.op0 rfl rfl rfl (OpX.storeBlk H.sz94 rfl rfl hk3 (by first | rfl | simp) (by first | decide | exact of_decide_eq_true rfl | (simp; done) | (simp; omega)) (NdAt.one hnd)) ?_
      rintro _ h4 ⟨rfl, hk4, hx4, hz4⟩
      refine xq rfl ?_
      refine xd [0, 2, 3, 4, 5, 8] rfl ?_
      refine G.seq rfl ?_
      refine xr Tryd.func42 rfl ?_
      iterate 2 refine xq rfl ?_
      refine xp rfl (OpP.lenString Tryd.underlying9 rfl) ?_
      refine xq rfl ?_
      refine xd [0, 2, 3, 4, 5, 8, 18] rfl ?_
      have hk4 : Blk h4 h2.size 94 (ndC x.kind x.set w) := hk4
      have hnd4 : NdAt h4 (blw h1.size) (ndC x.kind x.set w) x := hnd.ext0 (Ext0.only he3 hx4 (Nat.le_refl _))
      have hk14 := (hk12.ext0 he3).ext hx4 (by show ¬ _ = _; omega)
      have e4 := Ext0.only ((he1.trans he2).trans he3) hx4 (by omega)
      refine G.ite rfl rfl (fun hr => ?_) (fun hr => ?_)
      · have hpn : parseP s = none := by
          unfold parseP; rw [hp]
          cases hdr : s.drop k with
          | nil => have := congrArg List.length hdr; simp at this; omega
          | cons c t => rfl
        refine xr Tryd.func42 rfl ?_
        refine xp rfl (OpP.build (H.bd94_ ) rfl) ?_
        refine RW.op0 rfl rfl rfl (OpX.storeBlk H.sz94 rfl rfl hk14 (by first | rfl | simp) (by first | decide | exact of_decide_eq_true rfl | (simp; done) | (simp; omega)) (by first | decide | simp [Value.oneCell'])) ?_
        rintro _ h5 ⟨rfl, hk5, hx5, hz5⟩
        refine xq rfl ?_
        refine xd [0, 2, 3, 4, 5, 8, 18] rfl ?_
        have hk5 : Blk h5 h.size 94 zeroN := hk5
        refine G.retC Tryd.func42 rfl (.cons (ResOk.rowN H.ag94 H.sz94 rfl (hk5.row) (by first | rfl | simp)) (.cons (ResOk.tmp rfl) (.nil))) ?_
        exact ⟨_, rfl, ⟨.slice none 0 0, by rw [hE, hpn] <;> rfl, by rw [hE, hpn]; exact NdAt.leaf _ _ 0 0⟩, Ext0.only e4 hx5 (Nat.le_refl _)⟩
      · obtain rfl : k = s.length := by omega
        have hpn : parseP s = some x := by unfold parseP; rw [hp, List.drop_length]
        refine G.skip rfl ?_
        refine xr Tryd.func42 rfl ?_
        refine xp rfl (OpP.loadRowN H.ag94 H.sz94 rfl hk4.row (by first | rfl | simp)) ?_
        refine RW.op0 rfl rfl rfl (OpX.storeBlk H.sz94 rfl rfl hk14 (by first | rfl | simp) (by first | decide | exact of_decide_eq_true rfl | (simp; done) | (simp; omega)) (NdAt.one hnd4)) ?_
        rintro _ h5 ⟨rfl, hk5, hx5, hz5⟩
        refine xq rfl ?_
        refine xd [0, 2, 3, 4, 5, 8, 18] rfl ?_
        have hk5 : Blk h5 h.size 94 (ndC x.kind x.set w) := hk5
        refine G.retC Tryd.func42 rfl (.cons (ResOk.rowN H.ag94 H.sz94 rfl (hk5.row) (by first | rfl | simp)) (.cons (ResOk.tmp rfl) (.nil))) ?_
        exact ⟨_, rfl, ⟨w, by rw [hE, hpn] <;> rfl, by rw [hE, hpn]; exact NdAt.low hnd4 (by omega) hx5 (fun b _ (hb : b = h.size) => by omega)⟩, Ext0.only e4 hx5 (Nat.le_refl _)⟩
end Go.Proofs.YtlegopbpofofgaaDoor
namespace Go.Proofs.YtlegopbpofofgaaDoor
def orB (a b : List Bool) : List Bool := List.zipWith (· || ·) a b
def followB (last first : List Bool) (bh : List (List Bool)) : List (List Bool) := List.zipWith (fun l b => if l then orB b first else b) last bh
structure PartP where
  null : Bool
  first : List Bool
  last : List Bool
abbrev RuS := List Nat × List (List Bool)
def nob (size : Nat) : List Bool := List.replicate size false
mutual
def cnt : Nd → Nat
  | .mk k _ kids => (if k = 1 then 1 else 0) + cntL kids
def cntL : List Nd → Nat
  | [] => 0
  | x :: r => cnt x + cntL r
end
theorem cntL_append : ∀ (l m : List Nd), cntL (l ++ m) = cntL l + cntL m
  | [], m => by simp [cntL]
  | x :: l, m => by simp only [List.cons_append, cntL]; rw [cntL_append l m]; omega
mutual
theorem cnt_sz : ∀ x : Nd, cnt x ≤ szN x
  | .mk k s kids => by have := cntL_sz kids; simp only [cnt, szN]; split <;> omega
theorem cntL_sz : ∀ l : List Nd, cntL l ≤ szL l
  | [] => by simp [cntL, szL]
  | x :: r => by have := cnt_sz x; have := cntL_sz r; simp only [cntL, szL]; omega
end
def catPart (p k : PartP) : PartP := ⟨p.null && k.null, if p.null then orB p.first k.first else p.first, if k.null then orB p.last k.last else k.last⟩
def altPart (p k : PartP) : PartP := ⟨p.null || k.null, orB p.first k.first, orB p.last k.last⟩
mutual
def glu (size : Nat) : Nd → RuS → PartP × RuS
  | .mk k s kids, st =>
    if k = 1 then (⟨false, (nob size).set st.1.length true, (nob size).set st.1.length true⟩, (st.1 ++ [s], st.2))
    else if k = 2 then gluCat size kids ⟨true, nob size, nob size⟩ st
    else if k = 3 then gluAlt size kids ⟨false, nob size, nob size⟩ st
    else if k = 4 ∨ k = 5 then
      (⟨(gluOne size kids st).1.null || k == 4, (gluOne size kids st).1.first, (gluOne size kids st).1.last⟩, ((gluOne size kids st).2.1, followB (gluOne size kids st).1.last (gluOne size kids st).1.first (gluOne size kids st).2.2))
    else if k = 6 then (⟨true, (gluOne size kids st).1.first, (gluOne size kids st).1.last⟩, (gluOne size kids st).2)
    else (⟨true, nob size, nob size⟩, st)
def gluCat (size : Nat) : List Nd → PartP → RuS → PartP × RuS
  | [], p, st => (p, st)
  | x :: r, p, st => gluCat size r (catPart p (glu size x st).1) ((glu size x st).2.1, followB p.last (glu size x st).1.first (glu size x st).2.2)
def gluAlt (size : Nat) : List Nd → PartP → RuS → PartP × RuS
  | [], p, st => (p, st)
  | x :: r, p, st => gluAlt size r (altPart p (glu size x st).1) (glu size x st).2
def gluOne (size : Nat) : List Nd → RuS → PartP × RuS
  | [], st => (⟨true, nob size, nob size⟩, st)
  | x :: _, st => glu size x st
end
structure RuP where
  sets : List Nat
  behind : List (List Bool)
  last : List Bool
def ofP (x : Nd) : RuP :=
  ⟨(glu (cnt x + 1) x ([0], List.replicate (cnt x + 1) (nob (cnt x + 1)))).2.1,
   (glu (cnt x + 1) x ([0], List.replicate (cnt x + 1) (nob (cnt x + 1)))).2.2.set 0 (glu (cnt x + 1) x ([0], List.replicate (cnt x + 1) (nob (cnt x + 1)))).1.first,
   (glu (cnt x + 1) x ([0], List.replicate (cnt x + 1) (nob (cnt x + 1)))).1.last.set 0 (glu (cnt x + 1) x ([0], List.replicate (cnt x + 1) (nob (cnt x + 1)))).1.null⟩
theorem orB_len {a b : List Bool} {n : Nat} (ha : a.length = n) (hb : b.length = n) : (orB a b).length = n := by simp [orB, ha, hb]
theorem nob_len (n : Nat) : (nob n).length = n := by simp [nob]
structure PartOk (n : Nat) (p : PartP) : Prop where
  first : p.first.length = n
  last : p.last.length = n
structure RuOk (n : Nat) (st : RuS) : Prop where
  rows : st.2.length = n
  each : ∀ b ∈ st.2, b.length = n
theorem follow_ok {n : Nat} {p : List Bool} {f : List Bool} {S : List Nat} {bh : List (List Bool)} (hp : p.length = n) (hf : f.length = n) (k : RuOk n (S, bh)) : RuOk n (S, followB p f bh) := by
  refine ⟨by have := k.rows; simp only at this; simp [followB, hp, this], fun b hb => ?_⟩
  obtain ⟨i, hi⟩ := List.getElem?_of_mem hb
  simp only [followB, List.getElem?_zipWith] at hi
  split at hi
  · rename_i l c hl hc
    have hcl := k.each c (List.mem_of_getElem? hc)
    cases hi
    split
    · exact orB_len hcl hf
    · exact hcl
  · cases hi
theorem catPart_ok {n : Nat} {p k : PartP} (hp : PartOk n p) (hk : PartOk n k) : PartOk n (catPart p k) := by
  refine ⟨?_, ?_⟩ <;> simp only [catPart] <;> split
  · exact orB_len hp.first hk.first
  · exact hp.first
  · exact orB_len hp.last hk.last
  · exact hk.last
theorem altPart_ok {n : Nat} {p k : PartP} (hp : PartOk n p) (hk : PartOk n k) : PartOk n (altPart p k) := ⟨orB_len hp.first hk.first, orB_len hp.last hk.last⟩
theorem nob_ok (n : Nat) (b : Bool) : PartOk n ⟨b, nob n, nob n⟩ := ⟨nob_len n, nob_len n⟩
mutual
theorem glu_ok (n : Nat) : ∀ (x : Nd) (st : RuS), RuOk n st → PartOk n (glu n x st).1 ∧ RuOk n (glu n x st).2 ∧ st.1.length ≤ (glu n x st).2.1.length ∧ (wfN x = true → (glu n x st).2.1.length ≤ st.1.length + cnt x)
  | .mk k s kids, st, h => by
    rw [glu]
    simp only [cnt]
    split
    · rename_i h1
      exact ⟨⟨by simp [nob_len], by simp [nob_len]⟩, ⟨h.rows, h.each⟩, by simp, fun _ => by simp⟩
    · split
      · have k1 := gluCat_ok n kids ⟨true, nob n, nob n⟩ st (nob_ok n _) h
        exact ⟨k1.1, k1.2.1, k1.2.2.1, fun hw => by have := k1.2.2.2 (by simp only [wfN, Bool.and_eq_true] at hw; exact hw.2); omega⟩
      · split
        · have k1 := gluAlt_ok n kids ⟨false, nob n, nob n⟩ st (nob_ok n _) h
          exact ⟨k1.1, k1.2.1, k1.2.2.1, fun hw => by have := k1.2.2.2 (by simp only [wfN, Bool.and_eq_true] at hw; exact hw.2); omega⟩
        · have k1 := gluOne_ok n kids st h
          split
          · exact ⟨⟨k1.1.first, k1.1.last⟩, follow_ok k1.1.last k1.1.first k1.2.1, k1.2.2.1, fun hw => by have := k1.2.2.2 (by simp only [wfN, Bool.and_eq_true] at hw; exact hw.2); simp only; omega⟩
          · split
            · exact ⟨⟨k1.1.first, k1.1.last⟩, k1.2.1, k1.2.2.1, fun hw => by have := k1.2.2.2 (by simp only [wfN, Bool.and_eq_true] at hw; exact hw.2); simp only; omega⟩
            · exact ⟨nob_ok n _, h, Nat.le_refl _, fun _ => by simp only; omega⟩
theorem gluCat_ok (n : Nat) : ∀ (l : List Nd) (p : PartP) (st : RuS), PartOk n p → RuOk n st → PartOk n (gluCat n l p st).1 ∧ RuOk n (gluCat n l p st).2 ∧ st.1.length ≤ (gluCat n l p st).2.1.length ∧ (wfL l = true → (gluCat n l p st).2.1.length ≤ st.1.length + cntL l)
  | [], p, st, hp, h => by rw [gluCat]; exact ⟨hp, h, Nat.le_refl _, fun _ => by simp [cntL]⟩
  | x :: r, p, st, hp, h => by
    rw [gluCat]
    have k1 := glu_ok n x st h
    have k2 := gluCat_ok n r (catPart p (glu n x st).1) ((glu n x st).2.1, followB p.last (glu n x st).1.first (glu n x st).2.2) (catPart_ok hp k1.1) (follow_ok hp.last k1.1.first k1.2.1)
    refine ⟨k2.1, k2.2.1, Nat.le_trans k1.2.2.1 k2.2.2.1, fun hw => ?_⟩
    simp only [wfL, Bool.and_eq_true] at hw
    have := k1.2.2.2 hw.1; have := k2.2.2.2 hw.2
    simp only [cntL] at *; omega
theorem gluAlt_ok (n : Nat) : ∀ (l : List Nd) (p : PartP) (st : RuS), PartOk n p → RuOk n st → PartOk n (gluAlt n l p st).1 ∧ RuOk n (gluAlt n l p st).2 ∧ st.1.length ≤ (gluAlt n l p st).2.1.length ∧ (wfL l = true → (gluAlt n l p st).2.1.length ≤ st.1.length + cntL l)
  | [], p, st, hp, h => by rw [gluAlt]; exact ⟨hp, h, Nat.le_refl _, fun _ => by simp [cntL]⟩
  | x :: r, p, st, hp, h => by
    rw [gluAlt]
    have k1 := glu_ok n x st h
    have k2 := gluAlt_ok n r (altPart p (glu n x st).1) (glu n x st).2 (altPart_ok hp k1.1) k1.2.1
    refine ⟨k2.1, k2.2.1, Nat.le_trans k1.2.2.1 k2.2.2.1, fun hw => ?_⟩
    simp only [wfL, Bool.and_eq_true] at hw
    have := k1.2.2.2 hw.1; have := k2.2.2.2 hw.2
    simp only [cntL] at *; omega
theorem gluOne_ok (n : Nat) : ∀ (l : List Nd) (st : RuS), RuOk n st → PartOk n (gluOne n l st).1 ∧ RuOk n (gluOne n l st).2 ∧ st.1.length ≤ (gluOne n l st).2.1.length ∧ (wfL l = true → (gluOne n l st).2.1.length ≤ st.1.length + cntL l)
  | [], st, h => by rw [gluOne]; exact ⟨nob_ok n _, h, Nat.le_refl _, fun _ => by simp [cntL]⟩
  | x :: r, st, h => by
    rw [gluOne]
    have k1 := glu_ok n x st h
    refine ⟨k1.1, k1.2.1, k1.2.2.1, fun hw => ?_⟩
    simp only [wfL, Bool.and_eq_true] at hw
    have := k1.2.2.2 hw.1
    simp only [cntL]; omega
end
def On (l : List Bool) (i : Nat) : Prop := l[i]? = some true
theorem on_or {a b : List Bool} (h : a.length = b.length) (i : Nat) : On (orB a b) i ↔ On a i ∨ On b i := by
  unfold On orB
  rw [List.getElem?_zipWith]
  by_cases hi : i < a.length
  · rw [List.getElem?_eq_getElem hi, List.getElem?_eq_getElem (by omega)]
    simp
  · rw [List.getElem?_eq_none (by omega), List.getElem?_eq_none (by omega)]
    simp
theorem on_nob (n i : Nat) : ¬ On (nob n) i := by
  unfold On nob
  rw [List.getElem?_replicate]
  split <;> simp
theorem on_set {n j : Nat} (h : j < n) (i : Nat) : On ((nob n).set j true) i ↔ i = j := by
  by_cases e : j = i
  · subst e
    unfold On; rw [List.getElem?_set_self (by rw [nob_len]; exact h)]; simp
  · have : On ((nob n).set j true) i ↔ On (nob n) i := by unfold On; rw [List.getElem?_set_ne e]
    rw [this]
    exact ⟨fun k => (on_nob n i k).elim, fun k => (e k.symm).elim⟩
def Bh (bh : List (List Bool)) (p q : Nat) : Prop := ∃ b, bh[p]? = some b ∧ On b q
theorem bh_follow {n : Nat} {l f : List Bool} {S : List Nat} {bh : List (List Bool)} (hl : l.length = n) (hf : f.length = n) (k : RuOk n (S, bh)) (p q : Nat) : Bh (followB l f bh) p q ↔ Bh bh p q ∨ (On l p ∧ On f q) := by
  unfold Bh followB
  simp only [List.getElem?_zipWith]
  have hr := k.rows
  simp only at hr
  by_cases hp : p < n
  · obtain ⟨b, hb⟩ : ∃ b, bh[p]? = some b := ⟨_, List.getElem?_eq_getElem (by omega)⟩
    obtain ⟨c, hc⟩ : ∃ c, l[p]? = some c := ⟨_, List.getElem?_eq_getElem (by omega)⟩
    have hbl := k.each b (List.mem_of_getElem? hb)
    rw [hb, hc]
    cases c with
    | true => simp [On, hc, show ∀ q, ((orB b f)[q]? = some true ↔ b[q]? = some true ∨ f[q]? = some true) from fun q => on_or (by omega) q]
    | false => simp [On, hc]
  · have h1 : bh[p]? = none := List.getElem?_eq_none (by omega)
    have h2 : l[p]? = none := List.getElem?_eq_none (by omega)
    simp [h1, h2, On]
section
variable (S : Nat → UInt8 → Prop)
inductive PAcc (G : Nat → Nat → Prop) (E : Nat → Prop) : Nat → By → Prop where
  | done {p : Nat} : E p → PAcc G E p []
  | go {p q : Nat} {c : UInt8} {w : By} : G p q → S q c → PAcc G E q w → PAcc G E p (c :: w)
def Ent (G : Nat → Nat → Prop) (E : Nat → Prop) (F : Nat → Prop) (w : By) : Prop := ∃ c w', w = c :: w' ∧ ∃ q, F q ∧ S q c ∧ PAcc S G E q w'
def Cont (G : Nat → Nat → Prop) (E : Nat → Prop) (N : Nat → Prop) (e : Prop) (v : By) : Prop := (v = [] ∧ e) ∨ Ent S G E N v
structure Glu (lo hi : Nat) (null : Bool) (F L : Nat → Prop) (Fol : Nat → Nat → Prop) (A : By → Prop) : Prop where
  fr : ∀ q, F q → lo ≤ q ∧ q < hi
  lr : ∀ q, L q → lo ≤ q ∧ q < hi
  gr : ∀ p q, Fol p q → (lo ≤ p ∧ p < hi) ∧ lo ≤ q ∧ q < hi
  nul : null = true ↔ A []
  ent : ∀ (G : Nat → Nat → Prop) (E N : Nat → Prop) (e : Prop), (∀ p q, lo ≤ p → p < hi → (G p q ↔ Fol p q ∨ (L p ∧ N q))) → (∀ p, lo ≤ p → p < hi → (E p ↔ L p ∧ e)) →
    ∀ w, Ent S G E F w ↔ ∃ u v, w = u ++ v ∧ u ≠ [] ∧ A u ∧ Cont S G E N e v
end
section
variable {S : Nat → UInt8 → Prop} {lo mid hi : Nat} {n1 n2 null : Bool} {F F1 F2 L L1 L2 : Nat → Prop} {Fol Fol1 Fol2 : Nat → Nat → Prop} {A B : By → Prop} {G : Nat → Nat → Prop} {E N : Nat → Prop} {e : Prop}
theorem Ent.or {w : By} : Ent S G E (fun q => F1 q ∨ F2 q) w ↔ Ent S G E F1 w ∨ Ent S G E F2 w := by
  constructor
  · rintro ⟨c, w', rfl, q, hq | hq, h⟩
    · exact .inl ⟨c, w', rfl, q, hq, h⟩
    · exact .inr ⟨c, w', rfl, q, hq, h⟩
  · rintro (⟨c, w', rfl, q, hq, h⟩ | ⟨c, w', rfl, q, hq, h⟩)
    · exact ⟨c, w', rfl, q, .inl hq, h⟩
    · exact ⟨c, w', rfl, q, .inr hq, h⟩
theorem Ent.and {P : Prop} {w : By} : Ent S G E (fun q => P ∧ F q) w ↔ P ∧ Ent S G E F w := by
  constructor
  · rintro ⟨c, w', rfl, q, ⟨hp, hq⟩, h⟩; exact ⟨hp, c, w', rfl, q, hq, h⟩
  · rintro ⟨hp, c, w', rfl, q, hq, h⟩; exact ⟨c, w', rfl, q, ⟨hp, hq⟩, h⟩
theorem Ent.false {w : By} : ¬ Ent S G E (fun _ => False) w := by rintro ⟨_, _, _, _, h, _⟩; exact h
theorem Glu.congr {F' L' : Nat → Prop} {Fol' : Nat → Nat → Prop} {A' : By → Prop} (k : Glu S lo hi null F L Fol A) (hF : ∀ q, F' q ↔ F q) (hL : ∀ q, L' q ↔ L q) (hG : ∀ p q, Fol' p q ↔ Fol p q) (hA : ∀ u, A' u ↔ A u) : Glu S lo hi null F' L' Fol' A' := by
  have e1 : F' = F := funext fun q => propext (hF q)
  have e2 : L' = L := funext fun q => propext (hL q)
  have e3 : Fol' = Fol := funext fun p => funext fun q => propext (hG p q)
  have e4 : A' = A := funext fun u => propext (hA u)
  rw [e1, e2, e3, e4]; exact k
theorem Glu.none_ (A : By → Prop) (hA : ∀ u, A u → u = []) (hn : null = true ↔ A []) : Glu S lo lo null (fun _ => False) (fun _ => False) (fun _ _ => False) A := by
  refine ⟨fun _ h => h.elim, fun _ h => h.elim, fun _ _ h => h.elim, hn, fun G E N e _ _ w => ⟨fun h => (Ent.false h).elim, ?_⟩⟩
  rintro ⟨u, v, _, h0, hu, _⟩
  exact absurd (hA u hu) h0
theorem Glu.byte : Glu S lo (lo + 1) false (fun q => q = lo) (fun q => q = lo) (fun _ _ => False) (fun u => ∃ c, u = [c] ∧ S lo c) := by
  refine ⟨fun q h => by omega, fun q h => by omega, fun _ _ h => h.elim, ⟨fun h => (by cases h), fun h => (by obtain ⟨c, h, _⟩ := h; cases h)⟩, fun G E N e hG hE w => ?_⟩
  have hG := fun q => hG lo q (Nat.le_refl _) (by omega)
  have hE := hE lo (Nat.le_refl _) (by omega)
  constructor
  · rintro ⟨c, w', rfl, q, rfl, hc, hp⟩
    refine ⟨[c], w', rfl, by simp, ⟨c, rfl, hc⟩, ?_⟩
    cases hp with
    | done h => exact .inl ⟨rfl, (hE.1 h).2⟩
    | go hg hs hp =>
      rcases (hG _).1 hg with h | ⟨_, h⟩
      · exact h.elim
      · exact .inr ⟨_, _, rfl, _, h, hs, hp⟩
  · rintro ⟨u, v, rfl, _, ⟨c, rfl, hc⟩, hv⟩
    refine ⟨c, v, rfl, lo, rfl, hc, ?_⟩
    rcases hv with ⟨rfl, he⟩ | ⟨c', v', rfl, q, hq, hs, hp⟩
    · exact .done (hE.2 ⟨rfl, he⟩)
    · exact .go ((hG q).2 (.inr ⟨rfl, hq⟩)) hs hp
theorem Glu.cat (h1 : Glu S lo mid n1 F1 L1 Fol1 A) (h2 : Glu S mid hi n2 F2 L2 Fol2 B) (hm1 : lo ≤ mid) (hm2 : mid ≤ hi) :
    Glu S lo hi (n1 && n2) (fun q => F1 q ∨ (n1 = true ∧ F2 q)) (fun q => L2 q ∨ (n2 = true ∧ L1 q)) (fun p q => Fol1 p q ∨ Fol2 p q ∨ (L1 p ∧ F2 q)) (fun w => ∃ u v, w = u ++ v ∧ A u ∧ B v) := by
  refine ⟨fun q h => ?_, fun q h => ?_, fun p q h => ?_, ?_, fun G E N e hG hE w => ?_⟩
  · rcases h with h | ⟨_, h⟩
    · have := h1.fr q h; omega
    · have := h2.fr q h; omega
  · rcases h with h | ⟨_, h⟩
    · have := h2.lr q h; omega
    · have := h1.lr q h; omega
  · rcases h with h | h | ⟨h, h'⟩
    · have := h1.gr p q h; omega
    · have := h2.gr p q h; omega
    · have := h1.lr p h; have := h2.fr q h'; omega
  · rw [Bool.and_eq_true, h1.nul, h2.nul]
    exact ⟨fun ⟨a, b⟩ => ⟨[], [], rfl, a, b⟩, fun ⟨u, v, h, a, b⟩ => by
      have := List.append_eq_nil_iff.1 h.symm
      rw [this.1] at a; rw [this.2] at b; exact ⟨a, b⟩⟩
  · have e2 := h2.ent G E N e (fun p q hp hp' => by
      rw [hG p q (by omega) hp']
      constructor
      · rintro ((h | h | ⟨h, _⟩) | ⟨h | ⟨_, h⟩, hn⟩)
        · have := h1.gr p q h; omega
        · exact .inl h
        · have := h1.lr p h; omega
        · exact .inr ⟨h, hn⟩
        · have := h1.lr p h; omega
      · rintro (h | ⟨h, hn⟩)
        · exact .inl (.inr (.inl h))
        · exact .inr ⟨.inl h, hn⟩) (fun p hp hp' => by
      rw [hE p (by omega) hp']
      constructor
      · rintro ⟨h | ⟨_, h⟩, he⟩
        · exact ⟨h, he⟩
        · have := h1.lr p h; omega
      · rintro ⟨h, he⟩; exact ⟨.inl h, he⟩)
    have e1 := h1.ent G E (fun q => F2 q ∨ (n2 = true ∧ N q)) (n2 = true ∧ e) (fun p q hp hp' => by
      rw [hG p q hp (by omega)]
      constructor
      · rintro ((h | h | ⟨h, h'⟩) | ⟨h | ⟨h0, h⟩, hn⟩)
        · exact .inl h
        · have := h2.gr p q h; omega
        · exact .inr ⟨h, .inl h'⟩
        · have := h2.lr p h; omega
        · exact .inr ⟨h, .inr ⟨h0, hn⟩⟩
      · rintro (h | ⟨h, h' | ⟨h0, hn⟩⟩)
        · exact .inl (.inl h)
        · exact .inl (.inr (.inr ⟨h, h'⟩))
        · exact .inr ⟨.inr ⟨h0, h⟩, hn⟩) (fun p hp hp' => by
      rw [hE p hp (by omega)]
      constructor
      · rintro ⟨h | ⟨h0, h⟩, he⟩
        · have := h2.lr p h; omega
        · exact ⟨h, h0, he⟩
      · rintro ⟨h, h0, he⟩; exact ⟨.inr ⟨h0, h⟩, he⟩)
    have c1 : ∀ v, Cont S G E (fun q => F2 q ∨ (n2 = true ∧ N q)) (n2 = true ∧ e) v ↔ ∃ u' v', v = u' ++ v' ∧ B u' ∧ Cont S G E N e v' := by
      intro v
      unfold Cont
      rw [Ent.or, Ent.and, e2 v]
      constructor
      · rintro (⟨rfl, h0, he⟩ | ⟨u', v', rfl, _, hb, hc⟩ | ⟨h0, hn⟩)
        · exact ⟨[], [], rfl, h2.nul.1 h0, .inl ⟨rfl, he⟩⟩
        · exact ⟨u', v', rfl, hb, hc⟩
        · exact ⟨[], v, rfl, h2.nul.1 h0, .inr hn⟩
      · rintro ⟨u', v', rfl, hb, hc⟩
        by_cases h0 : u' = []
        · subst h0
          have h0 := h2.nul.2 hb
          rcases hc with ⟨rfl, he⟩ | hc
          · exact .inl ⟨rfl, h0, he⟩
          · exact .inr (.inr ⟨h0, hc⟩)
        · exact .inr (.inl ⟨u', v', rfl, h0, hb, hc⟩)
    rw [Ent.or, Ent.and, e1 w, e2 w]
    constructor
    · rintro (⟨u, v, rfl, h0, ha, hv⟩ | ⟨h0, u, v, rfl, h0', hb, hv⟩)
      · obtain ⟨u', v', rfl, hb, hc⟩ := (c1 v).1 hv
        exact ⟨u ++ u', v', by simp, by simp [h0], ⟨u, u', rfl, ha, hb⟩, hc⟩
      · exact ⟨u, v, rfl, h0', ⟨[], u, rfl, h1.nul.1 h0, hb⟩, hv⟩
    · rintro ⟨_, v, rfl, h0, ⟨u, u', rfl, ha, hb⟩, hv⟩
      by_cases hu : u = []
      · subst hu
        exact .inr ⟨h1.nul.2 ha, u', v, rfl, by simpa using h0, hb, hv⟩
      · exact .inl ⟨u, u' ++ v, by simp, hu, ha, (c1 _).2 ⟨u', v, rfl, hb, hv⟩⟩
theorem Glu.alt (h1 : Glu S lo mid n1 F1 L1 Fol1 A) (h2 : Glu S mid hi n2 F2 L2 Fol2 B) (hm1 : lo ≤ mid) (hm2 : mid ≤ hi) :
    Glu S lo hi (n1 || n2) (fun q => F1 q ∨ F2 q) (fun q => L1 q ∨ L2 q) (fun p q => Fol1 p q ∨ Fol2 p q) (fun w => A w ∨ B w) := by
  refine ⟨fun q h => ?_, fun q h => ?_, fun p q h => ?_, ?_, fun G E N e hG hE w => ?_⟩
  · rcases h with h | h
    · have := h1.fr q h; omega
    · have := h2.fr q h; omega
  · rcases h with h | h
    · have := h1.lr q h; omega
    · have := h2.lr q h; omega
  · rcases h with h | h
    · have := h1.gr p q h; omega
    · have := h2.gr p q h; omega
  · rw [Bool.or_eq_true, h1.nul, h2.nul]
  · have e2 := h2.ent G E N e (fun p q hp hp' => by
      rw [hG p q (by omega) hp']
      constructor
      · rintro ((h | h) | ⟨h | h, hn⟩)
        · have := h1.gr p q h; omega
        · exact .inl h
        · have := h1.lr p h; omega
        · exact .inr ⟨h, hn⟩
      · rintro (h | ⟨h, hn⟩)
        · exact .inl (.inr h)
        · exact .inr ⟨.inr h, hn⟩) (fun p hp hp' => by
      rw [hE p (by omega) hp']
      constructor
      · rintro ⟨h | h, he⟩
        · have := h1.lr p h; omega
        · exact ⟨h, he⟩
      · rintro ⟨h, he⟩; exact ⟨.inr h, he⟩)
    have e1 := h1.ent G E N e (fun p q hp hp' => by
      rw [hG p q hp (by omega)]
      constructor
      · rintro ((h | h) | ⟨h | h, hn⟩)
        · exact .inl h
        · have := h2.gr p q h; omega
        · exact .inr ⟨h, hn⟩
        · have := h2.lr p h; omega
      · rintro (h | ⟨h, hn⟩)
        · exact .inl (.inl h)
        · exact .inr ⟨.inl h, hn⟩) (fun p hp hp' => by
      rw [hE p hp (by omega)]
      constructor
      · rintro ⟨h | h, he⟩
        · exact ⟨h, he⟩
        · have := h2.lr p h; omega
      · rintro ⟨h, he⟩; exact ⟨.inl h, he⟩)
    rw [Ent.or, e1 w, e2 w]
    constructor
    · rintro (⟨u, v, a, b, c, d⟩ | ⟨u, v, a, b, c, d⟩)
      · exact ⟨u, v, a, b, .inl c, d⟩
      · exact ⟨u, v, a, b, .inr c, d⟩
    · rintro ⟨u, v, a, b, c | c, d⟩
      · exact .inl ⟨u, v, a, b, c, d⟩
      · exact .inr ⟨u, v, a, b, c, d⟩
theorem StarL.open {A : By → Prop} {u : By} (h : StarL A u) (h0 : u ≠ []) : ∃ a b, u = a ++ b ∧ a ≠ [] ∧ A a ∧ StarL A b := by
  induction h with
  | nil => exact absurd rfl h0
  | @cons a b ha hb ih =>
    by_cases e : a = []
    · subst e; exact ih (by simpa using h0)
    · exact ⟨a, b, rfl, e, ha, hb⟩
theorem Glu.starEnt (h : Glu S lo hi null F L Fol A) {G : Nat → Nat → Prop} {E N : Nat → Prop} {e : Prop} (hG : ∀ p q, lo ≤ p → p < hi → (G p q ↔ (Fol p q ∨ (L p ∧ F q)) ∨ (L p ∧ N q))) (hE : ∀ p, lo ≤ p → p < hi → (E p ↔ L p ∧ e)) (w : By) :
    Ent S G E F w ↔ ∃ u v, w = u ++ v ∧ u ≠ [] ∧ StarL A u ∧ Cont S G E N e v := by
  have e1 := h.ent G E (fun q => F q ∨ N q) e (fun p q hp hp' => by
    rw [hG p q hp hp']
    constructor
    · rintro ((h | ⟨h, h'⟩) | ⟨h, h'⟩)
      · exact .inl h
      · exact .inr ⟨h, .inl h'⟩
      · exact .inr ⟨h, .inr h'⟩
    · rintro (h | ⟨h, h' | h'⟩)
      · exact .inl (.inl h)
      · exact .inl (.inr ⟨h, h'⟩)
      · exact .inr ⟨h, h'⟩) hE
  have c1 : ∀ v, Cont S G E (fun q => F q ∨ N q) e v ↔ Cont S G E N e v ∨ Ent S G E F v := fun v => by
    unfold Cont; rw [Ent.or]
    constructor
    · rintro (h | h | h)
      · exact .inl (.inl h)
      · exact .inr h
      · exact .inl (.inr h)
    · rintro ((h | h) | h)
      · exact .inl h
      · exact .inr (.inr h)
      · exact .inr (.inl h)
  generalize hn : w.length = n
  induction n using Nat.strongRecOn generalizing w with
  | _ n ih =>
    constructor
    · intro hw
      obtain ⟨u, v, rfl, h0, ha, hv⟩ := (e1 w).1 hw
      have hul : 0 < u.length := List.length_pos_iff.2 h0
      rcases (c1 v).1 hv with hv | hv
      · exact ⟨u, v, rfl, h0, by simpa using StarL.cons ha .nil, hv⟩
      · obtain ⟨u', v', rfl, _, hs, hc⟩ := (ih v.length (by rw [← hn]; simp; omega) v rfl).1 hv
        exact ⟨u ++ u', v', by simp, by simp [h0], .cons ha hs, hc⟩
    · rintro ⟨u, v, rfl, h0, hs, hc⟩
      obtain ⟨a, b, rfl, ha0, ha, hb⟩ := hs.open h0
      have hal : 0 < a.length := List.length_pos_iff.2 ha0
      refine (e1 _).2 ⟨a, b ++ v, by simp, ha0, ha, (c1 _).2 ?_⟩
      by_cases hb0 : b = []
      · subst hb0; exact .inl hc
      · exact .inr ((ih (b ++ v).length (by rw [← hn]; simp; omega) _ rfl).2 ⟨b, v, rfl, hb0, hb, hc⟩)
theorem Glu.star (h : Glu S lo hi null F L Fol A) (null' : Bool) (hn : null' = true) : Glu S lo hi null' F L (fun p q => Fol p q ∨ (L p ∧ F q)) (StarL A) := by
  refine ⟨h.fr, h.lr, fun p q k => ?_, by simp [hn, StarL.nil], fun G E N e hG hE w => h.starEnt hG hE w⟩
  rcases k with k | ⟨k, k'⟩
  · exact h.gr p q k
  · exact ⟨h.lr p k, h.fr q k'⟩
theorem plus_star {A : By → Prop} {w : By} (h0 : w ≠ []) : (∃ u v, w = u ++ v ∧ A u ∧ StarL A v) ↔ StarL A w := by
  constructor
  · rintro ⟨u, v, rfl, ha, hs⟩; exact .cons ha hs
  · intro h
    obtain ⟨a, b, rfl, _, ha, hb⟩ := h.open h0
    exact ⟨a, b, rfl, ha, hb⟩
theorem plus_nil {A : By → Prop} : (∃ u v, ([] : By) = u ++ v ∧ A u ∧ StarL A v) ↔ A [] := by
  constructor
  · rintro ⟨u, v, h, ha, _⟩
    rw [(List.append_eq_nil_iff.1 h.symm).1] at ha; exact ha
  · intro h; exact ⟨[], [], rfl, h, .nil⟩
theorem Glu.plus (h : Glu S lo hi null F L Fol A) : Glu S lo hi null F L (fun p q => Fol p q ∨ (L p ∧ F q)) (fun w => ∃ u v, w = u ++ v ∧ A u ∧ StarL A v) := by
  have k := h.star true rfl
  refine ⟨k.fr, k.lr, k.gr, by rw [h.nul]; exact plus_nil.symm, fun G E N e hG hE w => ?_⟩
  rw [k.ent G E N e hG hE w]
  constructor
  · rintro ⟨u, v, a, b, c, d⟩; exact ⟨u, v, a, b, (plus_star b).2 c, d⟩
  · rintro ⟨u, v, a, b, c, d⟩; exact ⟨u, v, a, b, (plus_star b).1 c, d⟩
theorem Glu.opt (h : Glu S lo hi null F L Fol A) : Glu S lo hi true F L Fol (fun w => w = [] ∨ A w) := by
  refine ⟨h.fr, h.lr, h.gr, by simp, fun G E N e hG hE w => ?_⟩
  rw [h.ent G E N e hG hE w]
  constructor
  · rintro ⟨u, v, a, b, c, d⟩; exact ⟨u, v, a, b, .inr c, d⟩
  · rintro ⟨u, v, a, b, c | c, d⟩
    · exact absurd c b
    · exact ⟨u, v, a, b, c, d⟩
end
theorem glu_pre (n : Nat) : (∀ (x : Nd) (st : RuS) (i : Nat), i < st.1.length → (glu n x st).2.1[i]? = st.1[i]?) ∧ True := by
  have key : ∀ m, (∀ (x : Nd) (st : RuS) (i : Nat), szN x ≤ m → i < st.1.length → (glu n x st).2.1[i]? = st.1[i]?) ∧ (∀ (l : List Nd) (p : PartP) (st : RuS) (i : Nat), szL l ≤ m → i < st.1.length → (gluCat n l p st).2.1[i]? = st.1[i]? ∧ i < (gluCat n l p st).2.1.length) ∧ (∀ (l : List Nd) (p : PartP) (st : RuS) (i : Nat), szL l ≤ m → i < st.1.length → (gluAlt n l p st).2.1[i]? = st.1[i]? ∧ i < (gluAlt n l p st).2.1.length) := by
    intro m
    induction m with
    | zero =>
      refine ⟨fun x st i h => absurd h (by have := szN_pos x; omega), fun l p st i h hi => ?_, fun l p st i h hi => ?_⟩
      · cases l with
        | nil => rw [gluCat]; exact ⟨rfl, hi⟩
        | cons x r => exact absurd h (by have := szN_pos x; simp only [szL]; omega)
      · cases l with
        | nil => rw [gluAlt]; exact ⟨rfl, hi⟩
        | cons x r => exact absurd h (by have := szN_pos x; simp only [szL]; omega)
    | succ m ih =>
      have hx : ∀ (x : Nd) (st : RuS) (i : Nat), szN x ≤ m + 1 → i < st.1.length → (glu n x st).2.1[i]? = st.1[i]? := by
        intro x st i h hi
        obtain ⟨k, s, kids⟩ := x
        simp only [szN] at h
        rw [glu]
        split
        · simp only; rw [List.getElem?_append_left hi]
        · split
          · exact (ih.2.1 kids _ st i (by omega) hi).1
          · split
            · exact (ih.2.2 kids _ st i (by omega) hi).1
            · have h1 : (gluOne n kids st).2.1[i]? = st.1[i]? := by
                cases kids with
                | nil => rw [gluOne]
                | cons x r => rw [gluOne]; exact ih.1 x st i (by simp only [szL] at h; omega) hi
              split
              · exact h1
              · split
                · exact h1
                · rfl
      have hlt : ∀ (x : Nd) (st : RuS) (i : Nat), szN x ≤ m + 1 → i < st.1.length → i < (glu n x st).2.1.length := fun x st i h hi => by
        have := hx x st i h hi
        rw [List.getElem?_eq_getElem hi] at this
        exact (List.getElem?_eq_some_iff.1 this).1
      refine ⟨hx, fun l => ?_, fun l => ?_⟩
      · induction l with
        | nil => intro p st i _ hi; rw [gluCat]; exact ⟨rfl, hi⟩
        | cons x r ihl =>
          intro p st i h hi
          simp only [szL] at h
          have hp := szN_pos x
          rw [gluCat]
          have h1 := ihl (catPart p (glu n x st).1) ((glu n x st).2.1, followB p.last (glu n x st).1.first (glu n x st).2.2) i (by omega) (hlt x st i (by omega) hi)
          exact ⟨h1.1.trans (hx x st i (by omega) hi), h1.2⟩
      · induction l with
        | nil => intro p st i _ hi; rw [gluAlt]; exact ⟨rfl, hi⟩
        | cons x r ihl =>
          intro p st i h hi
          simp only [szL] at h
          have hp := szN_pos x
          rw [gluAlt]
          have h1 := ihl (altPart p (glu n x st).1) (glu n x st).2 i (by omega) (hlt x st i (by omega) hi)
          exact ⟨h1.1.trans (hx x st i (by omega) hi), h1.2⟩
  exact ⟨fun x st i => (key (szN x)).1 x st i (Nat.le_refl _), trivial⟩
def SetsOf (S : Nat → UInt8 → Prop) (sets : List Nat) (lo : Nat) : Prop := ∀ q, lo ≤ q → q < sets.length → ∀ c, S q c ↔ ∃ s, sets[q]? = some s ∧ s.testBit c.toNat = true
theorem SetsOf.sub {S : Nat → UInt8 → Prop} {sets s' : List Nat} {lo lo' : Nat} (h : SetsOf S sets lo) (hlo : lo ≤ lo') (hle : s'.length ≤ sets.length) (hpre : ∀ i, i < s'.length → sets[i]? = s'[i]?) : SetsOf S s' lo' := fun q h1 h2 c => by
  rw [h q (by omega) (by omega) c, hpre q h2]
theorem gluCat_pre (n : Nat) : ∀ (l : List Nd) (p : PartP) (st : RuS) (i : Nat), i < st.1.length → (gluCat n l p st).2.1[i]? = st.1[i]?
  | [], p, st, i, hi => by rw [gluCat]
  | x :: r, p, st, i, hi => by
    rw [gluCat]
    have h := (glu_pre n).1 x st i hi
    rw [gluCat_pre n r _ _ i (by rw [List.getElem?_eq_getElem hi] at h; exact (List.getElem?_eq_some_iff.1 h).1)]
    exact h
theorem gluAlt_pre (n : Nat) : ∀ (l : List Nd) (p : PartP) (st : RuS) (i : Nat), i < st.1.length → (gluAlt n l p st).2.1[i]? = st.1[i]?
  | [], p, st, i, hi => by rw [gluAlt]
  | x :: r, p, st, i, hi => by
    rw [gluAlt]
    have h := (glu_pre n).1 x st i hi
    rw [gluAlt_pre n r _ _ i (by rw [List.getElem?_eq_getElem hi] at h; exact (List.getElem?_eq_some_iff.1 h).1)]
    exact h
section
variable {S : Nat → UInt8 → Prop} (n : Nat)
def GluOf (S : Nat → UInt8 → Prop) (lo hi : Nat) (p : PartP) (bh bh' : List (List Bool)) (A : By → Prop) : Prop :=
  ∃ Fol, Glu S lo hi p.null (On p.first) (On p.last) Fol A ∧ ∀ a b, Bh bh' a b ↔ Bh bh a b ∨ Fol a b
theorem gluNone (st : RuS) (A : By → Prop) (b : Bool) (hA : ∀ u, A u → u = []) (hb : b = true ↔ A []) : Glu S st.1.length st.1.length b (On (nob n)) (On (nob n)) (fun _ _ => False) A :=
  (Glu.none_ A hA hb).congr (fun q => ⟨fun h => on_nob n q h, fun h => h.elim⟩) (fun q => ⟨fun h => on_nob n q h, fun h => h.elim⟩) (fun _ _ => Iff.rfl) (fun _ => Iff.rfl)
mutual
theorem glu_spec : ∀ (x : Nd) (st : RuS), RuOk n st → wfN x = true → st.1.length + cnt x ≤ n → SetsOf S (glu n x st).2.1 st.1.length →
    GluOf S st.1.length (glu n x st).2.1.length (glu n x st).1 st.2 (glu n x st).2.2 (Lng x)
  | .mk k s kids, st, hok, hw, hn, hS => by
    have hwl : wfL kids = true := by simp only [wfN, Bool.and_eq_true] at hw; exact hw.2
    simp only [cnt] at hn
    rw [glu] at hS ⊢
    unfold Lng
    by_cases h1 : k = 1
    · simp only [if_pos h1, List.length_append, List.length_singleton] at hS hn ⊢
      refine ⟨fun _ _ => False, Glu.byte.congr (fun q => on_set (by omega) q) (fun q => on_set (by omega) q) (fun _ _ => Iff.rfl) (fun u => ?_), fun a b => by simp⟩
      have hS := hS st.1.length (Nat.le_refl _) (by simp)
      constructor
      · rintro ⟨c, rfl, hc⟩; exact ⟨c, rfl, (hS c).2 ⟨s, by simp, hc⟩⟩
      · rintro ⟨c, rfl, hc⟩
        obtain ⟨s', hs', hc⟩ := (hS c).1 hc
        simp at hs'; subst hs'
        exact ⟨c, rfl, hc⟩
    · simp only [if_neg h1] at hS hn ⊢
      by_cases h2 : k = 2
      · simp only [if_pos h2] at hS ⊢
        have h0 : Glu S st.1.length st.1.length true (On (nob n)) (On (nob n)) (fun _ _ => False) (fun w => w = []) := gluNone n st _ _ (fun _ h => h) (by simp)
        obtain ⟨Fol, hG, hB⟩ := gluCat_spec kids ⟨true, nob n, nob n⟩ st hok (nob_ok n _) hwl (by omega) st.1.length (Nat.le_refl _) hS _ (Bh st.2) _ h0 (fun a b => ⟨fun h => .inl h, fun h => h.elim id False.elim⟩)
        refine ⟨Fol, hG.congr (fun _ => Iff.rfl) (fun _ => Iff.rfl) (fun _ _ => Iff.rfl) (fun u => ?_), hB⟩
        constructor
        · intro h; exact ⟨[], u, rfl, rfl, h⟩
        · rintro ⟨a, b, rfl, rfl, h⟩; exact h
      · simp only [if_neg h2] at hS ⊢
        by_cases h3 : k = 3
        · simp only [if_pos h3] at hS ⊢
          have h0 : Glu S st.1.length st.1.length false (On (nob n)) (On (nob n)) (fun _ _ => False) (fun _ => False) := gluNone n st _ _ (fun _ h => h.elim) (by simp)
          obtain ⟨Fol, hG, hB⟩ := gluAlt_spec kids ⟨false, nob n, nob n⟩ st hok (nob_ok n _) hwl (by omega) st.1.length (Nat.le_refl _) hS _ (Bh st.2) _ h0 (fun a b => ⟨fun h => .inl h, fun h => h.elim id False.elim⟩)
          refine ⟨Fol, hG.congr (fun _ => Iff.rfl) (fun _ => Iff.rfl) (fun _ _ => Iff.rfl) (fun u => ?_), hB⟩
          simp
        · simp only [if_neg h3] at hS ⊢
          have k1 := gluOne_ok n kids st hok
          by_cases h45 : k = 4 ∨ k = 5
          · simp only [if_pos h45] at hS ⊢
            have h6 : ¬ k = 6 := by omega
            obtain ⟨Fol, hG, hB⟩ := gluOne_spec kids st hok hwl (by omega) hS
            have hB2 : ∀ a b, Bh (followB (gluOne n kids st).1.last (gluOne n kids st).1.first (gluOne n kids st).2.2) a b ↔ Bh st.2 a b ∨ Fol a b ∨ On (gluOne n kids st).1.last a ∧ On (gluOne n kids st).1.first b := fun a b => by
              rw [bh_follow k1.1.last k1.1.first k1.2.1, hB a b, or_assoc]
            by_cases h4 : k = 4
            · subst h4
              simp only [if_neg h6]
              exact ⟨_, hG.star _ (by simp), hB2⟩
            · have h5 : k = 5 := by omega
              subst h5
              simp only [if_neg h6, if_neg h4]
              exact ⟨_, by simpa using hG.plus, hB2⟩
          · simp only [if_neg h45] at hS ⊢
            have h4 : ¬ k = 4 := fun e => h45 (.inl e)
            have h5 : ¬ k = 5 := fun e => h45 (.inr e)
            by_cases h6 : k = 6
            · simp only [if_pos h6] at hS ⊢
              obtain ⟨Fol, hG, hB⟩ := gluOne_spec kids st hok hwl (by omega) hS
              exact ⟨_, hG.opt, hB⟩
            · simp only [if_neg h6, if_neg h4, if_neg h5] at hS ⊢
              exact ⟨_, gluNone n st _ _ (fun _ h => h) (by simp), fun a b => by simp⟩
theorem gluCat_spec : ∀ (l : List Nd) (p : PartP) (st : RuS), RuOk n st → PartOk n p → wfL l = true → st.1.length + cntL l ≤ n → ∀ lo, lo ≤ st.1.length → SetsOf S (gluCat n l p st).2.1 lo →
    ∀ (Fol0 B0 : Nat → Nat → Prop) (A : By → Prop), Glu S lo st.1.length p.null (On p.first) (On p.last) Fol0 A → (∀ a b, Bh st.2 a b ↔ B0 a b ∨ Fol0 a b) →
    ∃ Fol, Glu S lo (gluCat n l p st).2.1.length (gluCat n l p st).1.null (On (gluCat n l p st).1.first) (On (gluCat n l p st).1.last) Fol (fun w => ∃ u v, w = u ++ v ∧ A u ∧ LngCat l v) ∧ ∀ a b, Bh (gluCat n l p st).2.2 a b ↔ B0 a b ∨ Fol a b
  | [], p, st, hok, hp, hw, hn, lo, hlo, hS, Fol0, B0, A, hG, hB => by
    rw [gluCat]; unfold LngCat
    refine ⟨Fol0, hG.congr (fun _ => Iff.rfl) (fun _ => Iff.rfl) (fun _ _ => Iff.rfl) (fun u => ?_), hB⟩
    constructor
    · rintro ⟨a, b, rfl, h, rfl⟩; simpa using h
    · intro h; exact ⟨u, [], by simp, h, rfl⟩
  | x :: r, p, st, hok, hp, hw, hn, lo, hlo, hS, Fol0, B0, A, hG, hB => by
    simp only [wfL, Bool.and_eq_true] at hw
    simp only [cntL] at hn
    rw [gluCat] at hS ⊢
    unfold LngCat
    have k1 := glu_ok n x st hok
    have hle := k1.2.2.1
    have hle2 := k1.2.2.2 hw.1
    have hok2 := follow_ok (S := (glu n x st).2.1) hp.last k1.1.first k1.2.1
    have hpre := gluCat_pre n r (catPart p (glu n x st).1) ((glu n x st).2.1, followB p.last (glu n x st).1.first (glu n x st).2.2)
    have hmono := (gluCat_ok n r (catPart p (glu n x st).1) ((glu n x st).2.1, followB p.last (glu n x st).1.first (glu n x st).2.2) (catPart_ok hp k1.1) hok2).2.2.1
    obtain ⟨Fol, hx, hxB⟩ := glu_spec x st hok hw.1 (by omega) (hS.sub hlo hmono hpre)
    have hcat := hG.cat hx hlo hle
    have hcat' := hcat.congr (F' := On (catPart p (glu n x st).1).first) (L' := On (catPart p (glu n x st).1).last) (fun q => by
      simp only [catPart]
      cases p.null with
      | true => simp only [if_pos, true_and]; exact on_or (by rw [hp.first, k1.1.first]) q
      | false => simp) (fun q => by
      simp only [catPart]
      cases (glu n x st).1.null with
      | true => simp only [if_pos, true_and]; rw [on_or (by rw [hp.last, k1.1.last]) q, or_comm]
      | false => simp) (fun _ _ => Iff.rfl) (fun _ => Iff.rfl)
    obtain ⟨Fol', hG', hB'⟩ := gluCat_spec r (catPart p (glu n x st).1) ((glu n x st).2.1, followB p.last (glu n x st).1.first (glu n x st).2.2) hok2 (catPart_ok hp k1.1) hw.2 (by simp only; omega) lo (by simp only; omega) hS
      (fun a b => Fol0 a b ∨ Fol a b ∨ On p.last a ∧ On (glu n x st).1.first b) B0 _ hcat' (fun a b => by
        rw [bh_follow hp.last k1.1.first k1.2.1, hxB a b, hB a b]
        simp only [or_assoc])
    · refine ⟨Fol', hG'.congr (fun _ => Iff.rfl) (fun _ => Iff.rfl) (fun _ _ => Iff.rfl) (fun u => ?_), hB'⟩
      constructor
      · rintro ⟨a, b, rfl, ha, c, d, rfl, hc, hd⟩
        exact ⟨a ++ c, d, by simp, ⟨a, c, rfl, ha, hc⟩, hd⟩
      · rintro ⟨_, d, rfl, ⟨a, c, rfl, ha, hc⟩, hd⟩
        exact ⟨a, c ++ d, by simp, ha, c, d, rfl, hc, hd⟩
theorem gluAlt_spec : ∀ (l : List Nd) (p : PartP) (st : RuS), RuOk n st → PartOk n p → wfL l = true → st.1.length + cntL l ≤ n → ∀ lo, lo ≤ st.1.length → SetsOf S (gluAlt n l p st).2.1 lo →
    ∀ (Fol0 B0 : Nat → Nat → Prop) (A : By → Prop), Glu S lo st.1.length p.null (On p.first) (On p.last) Fol0 A → (∀ a b, Bh st.2 a b ↔ B0 a b ∨ Fol0 a b) →
    ∃ Fol, Glu S lo (gluAlt n l p st).2.1.length (gluAlt n l p st).1.null (On (gluAlt n l p st).1.first) (On (gluAlt n l p st).1.last) Fol (fun w => A w ∨ LngAlt l w) ∧ ∀ a b, Bh (gluAlt n l p st).2.2 a b ↔ B0 a b ∨ Fol a b
  | [], p, st, hok, hp, hw, hn, lo, hlo, hS, Fol0, B0, A, hG, hB => by
    rw [gluAlt]; unfold LngAlt
    exact ⟨Fol0, hG.congr (fun _ => Iff.rfl) (fun _ => Iff.rfl) (fun _ _ => Iff.rfl) (fun u => by simp), hB⟩
  | x :: r, p, st, hok, hp, hw, hn, lo, hlo, hS, Fol0, B0, A, hG, hB => by
    simp only [wfL, Bool.and_eq_true] at hw
    simp only [cntL] at hn
    rw [gluAlt] at hS ⊢
    unfold LngAlt
    have k1 := glu_ok n x st hok
    have hle := k1.2.2.1
    have hle2 := k1.2.2.2 hw.1
    have hpre := gluAlt_pre n r (altPart p (glu n x st).1) (glu n x st).2
    have hmono := (gluAlt_ok n r (altPart p (glu n x st).1) (glu n x st).2 (altPart_ok hp k1.1) k1.2.1).2.2.1
    obtain ⟨Fol, hx, hxB⟩ := glu_spec x st hok hw.1 (by omega) (hS.sub hlo hmono hpre)
    have hcat := hG.alt hx hlo hle
    obtain ⟨Fol', hG', hB'⟩ := gluAlt_spec r (altPart p (glu n x st).1) (glu n x st).2 k1.2.1 (altPart_ok hp k1.1) hw.2 (by omega) lo (by omega) hS
      (fun a b => Fol0 a b ∨ Fol a b) B0 _ (hcat.congr (fun q => on_or (by rw [hp.first, k1.1.first]) q) (fun q => on_or (by rw [hp.last, k1.1.last]) q) (fun _ _ => Iff.rfl) (fun _ => Iff.rfl)) (fun a b => by
        rw [hxB a b, hB a b]
        simp only [or_assoc])
    exact ⟨Fol', hG'.congr (fun _ => Iff.rfl) (fun _ => Iff.rfl) (fun _ _ => Iff.rfl) (fun u => by simp only [or_assoc]), hB'⟩
theorem gluOne_spec : ∀ (l : List Nd) (st : RuS), RuOk n st → wfL l = true → st.1.length + cntL l ≤ n → SetsOf S (gluOne n l st).2.1 st.1.length →
    GluOf S st.1.length (gluOne n l st).2.1.length (gluOne n l st).1 st.2 (gluOne n l st).2.2 (LngOne l)
  | [], st, hok, hw, hn, hS => by
    rw [gluOne]; unfold LngOne
    exact ⟨_, gluNone n st _ _ (fun _ h => h) (by simp), fun a b => by simp⟩
  | x :: r, st, hok, hw, hn, hS => by
    simp only [wfL, Bool.and_eq_true] at hw
    simp only [cntL] at hn
    rw [gluOne] at hS ⊢
    unfold LngOne
    exact glu_spec x st hok hw.1 (by omega) hS
end
end
structure RuleOk (r : RuP) (n : Nat) : Prop where
  pos : 0 < r.sets.length
  sets : r.sets.length ≤ n
  rows : r.behind.length = n
  each : ∀ b ∈ r.behind, b.length = n
  last : r.last.length = n
theorem of_ok {x : Nd} (hw : wfN x = true) : RuleOk (ofP x) (cnt x + 1) := by
  have h0 : RuOk (cnt x + 1) ([0], List.replicate (cnt x + 1) (nob (cnt x + 1))) := ⟨by simp, fun b hb => by rw [(List.mem_replicate.1 hb).2]; exact nob_len _⟩
  have k := glu_ok (cnt x + 1) x ([0], List.replicate (cnt x + 1) (nob (cnt x + 1))) h0
  have h1 := k.2.2.1
  have h2 := k.2.2.2 hw
  simp only [List.length_singleton] at h1 h2
  refine ⟨by simp only [ofP]; omega, by simp only [ofP]; omega, by simp only [ofP, List.length_set]; exact k.2.1.rows, fun b hb => ?_, by simp only [ofP, List.length_set]; exact k.1.last⟩
  simp only [ofP] at hb
  rcases List.mem_or_eq_of_mem_set hb with h | rfl
  · exact k.2.1.each b h
  · exact k.1.first
abbrev RAcc (r : RuP) : Nat → By → Prop := PAcc (fun q c => ∃ s, r.sets[q]? = some s ∧ s.testBit c.toNat = true) (fun p q => Bh r.behind p q ∧ 0 < q ∧ q < r.sets.length) (On r.last)
theorem of_lng {x : Nd} (hw : wfN x = true) (w : By) : RAcc (ofP x) 0 w ↔ Lng x w := by
  have h0 : RuOk (cnt x + 1) ([0], List.replicate (cnt x + 1) (nob (cnt x + 1))) := ⟨by simp, fun b hb => by rw [(List.mem_replicate.1 hb).2]; exact nob_len _⟩
  have k := glu_ok (cnt x + 1) x ([0], List.replicate (cnt x + 1) (nob (cnt x + 1))) h0
  have hrows := k.2.1.rows
  have hlast := k.1.last
  obtain ⟨Fol, hG, hB⟩ := glu_spec (S := fun q c => ∃ s, (ofP x).sets[q]? = some s ∧ s.testBit c.toNat = true) (cnt x + 1) x ([0], List.replicate (cnt x + 1) (nob (cnt x + 1))) h0 hw (by simp; omega) (fun q _ _ c => Iff.rfl)
  simp only [List.length_singleton] at hG hB
  have hB0 : ∀ a b, ¬ Bh (List.replicate (cnt x + 1) (nob (cnt x + 1))) a b := by
    rintro a b ⟨l, hl, ho⟩
    rw [List.getElem?_replicate] at hl
    split at hl
    · cases hl; exact on_nob _ _ ho
    · cases hl
  have hb0 : ∀ q, Bh (ofP x).behind 0 q ↔ On (glu (cnt x + 1) x ([0], List.replicate (cnt x + 1) (nob (cnt x + 1)))).1.first q := fun q => by
    simp only [ofP, Bh]
    rw [List.getElem?_set_self (by omega)]
    simp
  have hbp : ∀ p q, 0 < p → (Bh (ofP x).behind p q ↔ Fol p q) := fun p q hp => by
    have : Bh (ofP x).behind p q ↔ Bh (glu (cnt x + 1) x ([0], List.replicate (cnt x + 1) (nob (cnt x + 1)))).2.2 p q := by
      simp only [ofP, Bh]
      rw [List.getElem?_set_ne (by omega)]
    rw [this, hB p q]
    exact ⟨fun h => h.elim (fun h => (hB0 _ _ h).elim) id, .inr⟩
  have he0 : On (ofP x).last 0 ↔ (glu (cnt x + 1) x ([0], List.replicate (cnt x + 1) (nob (cnt x + 1)))).1.null = true := by
    simp only [ofP, On]
    rw [List.getElem?_set_self (by omega)]
    simp
  have hep : ∀ p, 0 < p → (On (ofP x).last p ↔ On (glu (cnt x + 1) x ([0], List.replicate (cnt x + 1) (nob (cnt x + 1)))).1.last p) := fun p hp => by
    simp only [ofP, On]
    rw [List.getElem?_set_ne (by omega)]
  have hsl : (ofP x).sets.length = (glu (cnt x + 1) x ([0], List.replicate (cnt x + 1) (nob (cnt x + 1)))).2.1.length := rfl
  have hE := hG.ent (fun p q => Bh (ofP x).behind p q ∧ 0 < q ∧ q < (ofP x).sets.length) (On (ofP x).last) (fun _ => False) True (fun p q hp _ => by
    rw [hbp p q (by omega)]
    constructor
    · rintro ⟨h, _⟩; exact .inl h
    · rintro (h | ⟨_, h⟩)
      · have := hG.gr p q h; exact ⟨h, by omega, by omega⟩
      · exact h.elim) (fun p hp _ => by rw [hep p (by omega)]; simp)
  cases w with
  | nil =>
    rw [← hG.nul, ← he0]
    constructor
    · intro h; cases h with | done h => exact h
    · exact .done
  | cons c w =>
    have h1 : RAcc (ofP x) 0 (c :: w) ↔ Ent (fun q c => ∃ s, (ofP x).sets[q]? = some s ∧ s.testBit c.toNat = true) (fun p q => Bh (ofP x).behind p q ∧ 0 < q ∧ q < (ofP x).sets.length) (On (ofP x).last) (On (glu (cnt x + 1) x ([0], List.replicate (cnt x + 1) (nob (cnt x + 1)))).1.first) (c :: w) := by
      constructor
      · intro h
        cases h with
        | go hg hs hp => exact ⟨c, w, rfl, _, (hb0 _).1 hg.1, hs, hp⟩
      · rintro ⟨c', w', e, q, hq, hs, hp⟩
        cases e
        have := hG.fr q hq
        exact .go ⟨(hb0 _).2 hq, by omega, by omega⟩ hs hp
    rw [h1, hE]
    constructor
    · rintro ⟨u, v, e, _, hu, ⟨rfl, _⟩ | hv⟩
      · rw [e]; simpa using hu
      · exact (Ent.false hv).elim
    · intro h
      exact ⟨c :: w, [], by simp, by simp, h, .inl ⟨rfl, trivial⟩⟩
def startR (r : RuP) : List Bool := (nob r.sets.length).set 0 true
def orsB : List Bool → List (List Bool) → List Bool → List Bool
  | a :: at_, b :: bh, out => orsB at_ bh (if a then orB out b else out)
  | _, _, out => out
def andB (c : UInt8) : Nat → List Bool → List Nat → List Bool
  | q, o :: out, s :: sets => (o && decide (0 < q) && s.testBit c.toNat) :: andB c (q + 1) out sets
  | _, _, _ => []
def stepR (r : RuP) (at_ : List Bool) (c : UInt8) : List Bool := andB c 0 (orsB at_ r.behind (nob at_.length)) r.sets
def endsR (r : RuP) (at_ : List Bool) : Bool := (List.zipWith (· && ·) at_ r.last).any id
def anyR (at_ : List Bool) : Bool := at_.any id
theorem on_or' {a b : List Bool} (h : a.length ≤ b.length) (i : Nat) : On (orB a b) i ↔ i < a.length ∧ (On a i ∨ On b i) := by
  unfold On orB
  rw [List.getElem?_zipWith]
  by_cases hi : i < a.length
  · rw [List.getElem?_eq_getElem hi, List.getElem?_eq_getElem (by omega)]
    simp [hi]
  · rw [List.getElem?_eq_none (by omega)]
    simp [hi]
theorem orsB_len : ∀ (at_ : List Bool) (bh : List (List Bool)) (out : List Bool), (∀ b ∈ bh, out.length ≤ b.length) → (orsB at_ bh out).length = out.length
  | [], _, _, _ => by simp [orsB]
  | _ :: _, [], _, _ => by simp [orsB]
  | a :: at_, b :: bh, out, h => by
    rw [orsB]
    have hl : (if a then orB out b else out).length = out.length := by
      split
      · have := h b (by simp); simp [orB]; omega
      · rfl
    rw [orsB_len at_ bh _ (fun b hb => by rw [hl]; exact h b (by simp [hb])), hl]
theorem on_orsB : ∀ (at_ : List Bool) (bh : List (List Bool)) (out : List Bool), (∀ b ∈ bh, out.length ≤ b.length) → at_.length ≤ bh.length → ∀ q, On (orsB at_ bh out) q ↔ q < out.length ∧ (On out q ∨ ∃ p, On at_ p ∧ Bh bh p q)
  | [], bh, out, _, _, q => by
    have e : orsB [] bh out = out := by simp [orsB]
    rw [e]
    constructor
    · intro h; exact ⟨(List.getElem?_eq_some_iff.1 h).1, .inl h⟩
    · rintro ⟨_, h | ⟨p, h, _⟩⟩
      · exact h
      · simp [On] at h
  | _ :: _, [], _, _, h, _ => by simp at h
  | a :: at_, b :: bh, out, h, hl, q => by
    rw [orsB]
    have hbl := h b (by simp)
    have hlen : (if a then orB out b else out).length = out.length := by
      split
      · simp [orB]; omega
      · rfl
    rw [on_orsB at_ bh _ (fun b hb => by rw [hlen]; exact h b (by simp [hb])) (by simpa using hl) q, hlen]
    have e : (∃ p, On (a :: at_) p ∧ Bh (b :: bh) p q) ↔ (a = true ∧ On b q) ∨ ∃ p, On at_ p ∧ Bh bh p q := by
      constructor
      · rintro ⟨p, hp, hb⟩
        cases p with
        | zero =>
          obtain ⟨x, hx, ho⟩ := hb
          simp at hx; subst hx
          exact .inl ⟨by simpa [On] using hp, ho⟩
        | succ p => exact .inr ⟨p, by simpa [On] using hp, by simpa [Bh] using hb⟩
      · rintro (⟨ha, ho⟩ | ⟨p, hp, hb⟩)
        · exact ⟨0, by simp [On, ha], b, by simp, ho⟩
        · exact ⟨p + 1, by simpa [On] using hp, by simpa [Bh] using hb⟩
    rw [e]
    cases a with
    | true =>
      simp only [if_pos, true_and]
      rw [on_or' hbl]
      constructor
      · rintro ⟨hq, ⟨_, h | h⟩ | h⟩
        · exact ⟨hq, .inl h⟩
        · exact ⟨hq, .inr (.inl h)⟩
        · exact ⟨hq, .inr (.inr h)⟩
      · rintro ⟨hq, h | h | h⟩
        · exact ⟨hq, .inl ⟨hq, .inl h⟩⟩
        · exact ⟨hq, .inl ⟨hq, .inr h⟩⟩
        · exact ⟨hq, .inr h⟩
    | false => simp
theorem andB_len (c : UInt8) : ∀ (q : Nat) (out : List Bool) (sets : List Nat), out.length = sets.length → (andB c q out sets).length = out.length
  | _, [], [], _ => rfl
  | _, [], _ :: _, h => by simp at h
  | _, _ :: _, [], h => by simp at h
  | q, o :: out, s :: sets, h => by rw [andB]; simp [andB_len c (q + 1) out sets (by simpa using h)]
theorem on_andB (c : UInt8) : ∀ (k : Nat) (out : List Bool) (sets : List Nat) (q : Nat), On (andB c k out sets) q ↔ On out q ∧ 0 < k + q ∧ ∃ s, sets[q]? = some s ∧ s.testBit c.toNat = true
  | k, [], sets, q => by simp [andB, On]
  | k, o :: out, [], q => by simp [andB, On]
  | k, o :: out, s :: sets, q => by
    rw [andB]
    cases q with
    | zero => simp [On, and_assoc]
    | succ q =>
      have := on_andB c (k + 1) out sets q
      simp only [On, List.getElem?_cons_succ] at this ⊢
      rw [this]
      have e : k + 1 + q = k + (q + 1) := by omega
      rw [e]
theorem startR_len (r : RuP) : (startR r).length = r.sets.length := by simp [startR, nob_len]
theorem stepR_len {r : RuP} {n : Nat} (hr : RuleOk r n) {a : List Bool} (ha : a.length = r.sets.length) (c : UInt8) : (stepR r a c).length = r.sets.length := by
  have h1 := hr.sets
  unfold stepR
  rw [andB_len, orsB_len, nob_len, ha]
  · intro b hb; rw [hr.each b hb, nob_len, ha]; exact h1
  · rw [orsB_len, nob_len, ha]
    intro b hb; rw [hr.each b hb, nob_len, ha]; exact h1
theorem on_step {r : RuP} {n : Nat} (hr : RuleOk r n) {a : List Bool} (ha : a.length = r.sets.length) (c : UInt8) (q : Nat) : On (stepR r a c) q ↔ (∃ p, On a p ∧ Bh r.behind p q ∧ 0 < q ∧ q < r.sets.length) ∧ ∃ s, r.sets[q]? = some s ∧ s.testBit c.toNat = true := by
  have h1 := hr.sets
  unfold stepR
  rw [on_andB, on_orsB _ _ _ (by intro b hb; rw [hr.each b hb, nob_len, ha]; exact h1) (by rw [ha, hr.rows]; exact h1), nob_len, ha]
  constructor
  · rintro ⟨⟨hq, h | ⟨p, hp, hb⟩⟩, h0, hs⟩
    · exact (on_nob _ _ h).elim
    · exact ⟨⟨p, hp, hb, by omega, hq⟩, hs⟩
  · rintro ⟨⟨p, hp, hb, h0, hq⟩, hs⟩
    exact ⟨⟨hq, .inr ⟨p, hp, hb⟩⟩, by omega, hs⟩
theorem on_any (l : List Bool) : anyR l = true ↔ ∃ p, On l p := by
  unfold anyR On
  rw [List.any_eq_true]
  constructor
  · rintro ⟨b, hb, h⟩
    obtain ⟨p, hp⟩ := List.getElem?_of_mem hb
    exact ⟨p, by rw [hp]; simpa using h⟩
  · rintro ⟨p, hp⟩; exact ⟨true, List.mem_of_getElem? hp, rfl⟩
theorem on_ends (r : RuP) (a : List Bool) : endsR r a = true ↔ ∃ p, On a p ∧ On r.last p := by
  unfold endsR
  rw [List.any_eq_true]
  constructor
  · rintro ⟨b, hb, h⟩
    obtain ⟨p, hp⟩ := List.getElem?_of_mem hb
    rw [List.getElem?_zipWith] at hp
    split at hp
    · rename_i x y hx hy
      cases hp
      simp at h
      exact ⟨p, by rw [On, hx, h.1], by rw [On, hy, h.2]⟩
    · cases hp
  · rintro ⟨p, h1, h2⟩
    refine ⟨true, ?_, rfl⟩
    apply List.mem_of_getElem? (i := p)
    rw [List.getElem?_zipWith, h1, h2]; rfl
def runR (r : RuP) (w : By) : List Bool := w.foldl (stepR r) (startR r)
theorem runR_len {r : RuP} {n : Nat} (hr : RuleOk r n) (w : By) : (runR r w).length = r.sets.length := by
  have key : ∀ (w : By) (a : List Bool), a.length = r.sets.length → (w.foldl (stepR r) a).length = r.sets.length := by
    intro w
    induction w with
    | nil => intro a h; exact h
    | cons c w ih => intro a h; exact ih _ (stepR_len hr h c)
  exact key w _ (startR_len r)
theorem runR_acc {r : RuP} {n : Nat} (hr : RuleOk r n) (w v : By) : (∃ p, On (runR r w) p ∧ RAcc r p v) ↔ RAcc r 0 (w ++ v) := by
  have key : ∀ (w : By) (a : List Bool), a.length = r.sets.length → ((∃ p, On (w.foldl (stepR r) a) p ∧ RAcc r p v) ↔ ∃ p, On a p ∧ RAcc r p (w ++ v)) := by
    intro w
    induction w with
    | nil => intro a _; exact Iff.rfl
    | cons c w ih =>
      intro a ha
      rw [List.foldl_cons, ih _ (stepR_len hr ha c)]
      constructor
      · rintro ⟨q, hq, hv⟩
        obtain ⟨⟨p, hp, hb⟩, hs⟩ := (on_step hr ha c q).1 hq
        exact ⟨p, hp, .go hb hs hv⟩
      · rintro ⟨p, hp, h⟩
        cases h with
        | go hb hs hv => exact ⟨_, (on_step hr ha c _).2 ⟨⟨p, hp, hb⟩, hs⟩, hv⟩
  unfold runR
  rw [key w _ (startR_len r)]
  constructor
  · rintro ⟨p, hp, h⟩
    have := (on_set hr.pos p).1 hp
    subst this; exact h
  · intro h; exact ⟨0, (on_set hr.pos 0).2 rfl, h⟩
theorem ends_lng {x : Nd} (hw : wfN x = true) (w : By) : endsR (ofP x) (runR (ofP x) w) = true ↔ Lng x w := by
  rw [on_ends, ← of_lng hw w]
  have h := runR_acc (of_ok hw) w []
  rw [List.append_nil] at h
  rw [← h]
  constructor
  · rintro ⟨p, h1, h2⟩; exact ⟨p, h1, .done h2⟩
  · rintro ⟨p, h1, h2⟩
    cases h2 with
    | done h2 => exact ⟨p, h1, h2⟩
def refG (r : RuP) (ri : Nat) : By → List Bool → Nat → Int × Int × Int → Int × Int × Int
  | l, now, k, b =>
    if anyR now = false then b
    else match l with
      | [] => if endsR r now = true ∧ (b.2.1 < 0 ∨ b.1 < k) then (k, ri, if b.2.2 < k then (k : Int) else b.2.2) else (b.1, b.2.1, if b.2.2 < k then (k : Int) else b.2.2)
      | c :: l => refG r ri l (stepR r now c) (k + 1) (if endsR r now = true ∧ (b.2.1 < 0 ∨ b.1 < k) then (k, ri, if b.2.2 < k then (k : Int) else b.2.2) else (b.1, b.2.1, if b.2.2 < k then (k : Int) else b.2.2))
def refGs : Nat → List RuP → By → Int × Int × Int → Int × Int × Int
  | _, [], _, b => b
  | i, r :: rs, l, b => refGs (i + 1) rs l (refG r i l (startR r) 0 b)
def refMatch (rs : List RuP) (l : By) : Int × Int × Int := refGs 0 rs l (0, -1, 0)
def refLeast : Nat → List RuP → By → Int
  | _, [], _ => -1
  | i, r :: rs, l => if endsR r (runR r l) = true then i else refLeast (i + 1) rs l
theorem refG_none {r : RuP} {ri : Nat} {l : By} {now : List Bool} {k : Nat} {b : Int × Int × Int} (h : anyR now = false) : refG r ri l now k b = b := by cases l <;> (rw [refG]; exact if_pos h)
theorem stepR_none {r : RuP} {n : Nat} (hr : RuleOk r n) {a : List Bool} (ha : a.length = r.sets.length) (h : anyR a = false) (c : UInt8) : anyR (stepR r a c) = false := by
  cases e : anyR (stepR r a c) with
  | false => rfl
  | true =>
    obtain ⟨q, hq⟩ := (on_any _).1 e
    obtain ⟨⟨p, hp, _⟩, _⟩ := (on_step hr ha c q).1 hq
    rw [(on_any a).2 ⟨p, hp⟩] at h; cases h
theorem ends_any {r : RuP} {a : List Bool} (h : anyR a = false) : endsR r a = false := by
  cases e : endsR r a with
  | false => rfl
  | true =>
    obtain ⟨p, hp, _⟩ := (on_ends r a).1 e
    rw [(on_any a).2 ⟨p, hp⟩] at h; cases h
def IsTop (Q : Nat → Nat → Prop) (o : Int × Int) : Prop :=
  (o = (0, -1) ∧ ∀ k r, ¬ Q k r) ∨ ∃ k r : Nat, o = ((k : Int), (r : Int)) ∧ Q k r ∧ (∀ k' r', Q k' r' → k' ≤ k) ∧ ∀ r', Q k r' → r ≤ r'
theorem IsTop.add {Q : Nat → Nat → Prop} {a b : Int} {k r : Nat} (h : IsTop Q (a, b)) (hold : ∀ k' r', Q k' r' → r' < r ∨ (r' = r ∧ k' < k)) (p : Bool) :
    IsTop (fun k' r' => Q k' r' ∨ (k' = k ∧ r' = r ∧ p = true)) (if p = true ∧ (b < 0 ∨ a < k) then ((k : Int), (r : Int)) else (a, b)) := by
  cases p with
  | false =>
    rw [if_neg (by simp)]
    have e : (fun k' r' => Q k' r' ∨ (k' = k ∧ r' = r ∧ false = true)) = Q := by funext k' r'; simp
    rw [e]; exact h
  | true =>
    rcases h with ⟨he, h1⟩ | ⟨k0, r0, he, hq, h1, h2⟩
    · cases he
      rw [if_pos ⟨rfl, .inl (by decide)⟩]
      refine .inr ⟨k, r, rfl, .inr ⟨rfl, rfl, rfl⟩, fun k' r' hk => ?_, fun r' hr => ?_⟩
      · rcases hk with hk | ⟨hk, _, _⟩
        · exact absurd hk (h1 _ _)
        · omega
      · rcases hr with hr | ⟨_, hr, _⟩
        · exact absurd hr (h1 _ _)
        · omega
    · cases he
      by_cases hlt : k0 < k
      · rw [if_pos ⟨rfl, .inr (by omega)⟩]
        refine .inr ⟨k, r, rfl, .inr ⟨rfl, rfl, rfl⟩, fun k' r' hk => ?_, fun r' hr => ?_⟩
        · rcases hk with hk | ⟨hk, _, _⟩
          · have := h1 _ _ hk; omega
          · omega
        · rcases hr with hr | ⟨_, hr, _⟩
          · have := h1 _ _ hr; omega
          · omega
      · rw [if_neg (by rintro ⟨_, h | h⟩ <;> omega)]
        refine .inr ⟨k0, r0, rfl, .inl hq, fun k' r' hk => ?_, fun r' hr => ?_⟩
        · rcases hk with hk | ⟨hk, _, _⟩
          · exact h1 _ _ hk
          · omega
        · rcases hr with hr | ⟨hk, hr, _⟩
          · exact h2 _ hr
          · have := hold _ _ hq; omega
theorem refG_top {x : Nd} (hw : wfN x = true) (ri : Nat) (Q : Nat → Nat → Prop) (L : By) : ∀ (l a : By) (b : Int × Int × Int), a ++ l = L →
    IsTop (fun k' r' => Q k' r' ∨ (k' < a.length ∧ r' = ri ∧ Lng x (L.take k'))) (b.1, b.2.1) → (∀ k' r', Q k' r' → r' < ri) →
    IsTop (fun k' r' => Q k' r' ∨ (k' ≤ L.length ∧ r' = ri ∧ Lng x (L.take k'))) ((refG (ofP x) ri l (runR (ofP x) a) a.length b).1, (refG (ofP x) ri l (runR (ofP x) a) a.length b).2.1) := by
  have hok := of_ok hw
  have dead : ∀ (l a : By), anyR (runR (ofP x) a) = false → ∀ k', a.length ≤ k' → k' ≤ (a ++ l).length → ¬ Lng x ((a ++ l).take k') := by
    intro l a h k' h1 h2 hl
    rw [← ends_lng hw] at hl
    have e : (a ++ l).take k' = a ++ l.take (k' - a.length) := by rw [List.take_append, List.take_of_length_le h1]
    rw [e] at hl
    have key : ∀ (v : By) (T : List Bool), T.length = (ofP x).sets.length → anyR T = false → anyR (v.foldl (stepR (ofP x)) T) = false := by
      intro v
      induction v with
      | nil => intro T _ h; exact h
      | cons c v ih => intro T hT h; exact ih _ (stepR_len hok hT c) (stepR_none hok hT h c)
    have := key (l.take (k' - a.length)) (runR (ofP x) a) (runR_len hok a) h
    unfold runR at hl
    rw [List.foldl_append] at hl
    have h3 := ends_any (r := ofP x) this
    unfold runR at h3
    rw [h3] at hl; cases hl
  intro l
  induction l with
  | nil =>
    intro a b hL hI hQ
    rw [List.append_nil] at hL
    subst hL
    by_cases h : anyR (runR (ofP x) a) = false
    · rw [refG_none h]
      have e : (fun k' r' => Q k' r' ∨ (k' < a.length ∧ r' = ri ∧ Lng x (a.take k'))) = (fun k' r' => Q k' r' ∨ (k' ≤ a.length ∧ r' = ri ∧ Lng x (a.take k'))) := by
        funext k' r'
        refine propext ⟨fun h => h.imp id fun ⟨h1, h2⟩ => ⟨by omega, h2⟩, fun hh => hh.imp id fun ⟨h1, h2, h3⟩ => ⟨?_, h2, h3⟩⟩
        by_cases e : k' = a.length
        · exact absurd (by simpa using h3) (by simpa using dead [] a h k' (by omega) (by simp; omega))
        · omega
      rw [← e]; exact hI
    · rw [refG, if_neg h]
      have hadd := hI.add (k := a.length) (r := ri) (fun k' r' hq => by
        rcases hq with hq | ⟨h1, h2, _⟩
        · exact .inl (hQ _ _ hq)
        · exact .inr ⟨h2, h1⟩) (endsR (ofP x) (runR (ofP x) a))
      have e : (fun k' r' => (Q k' r' ∨ (k' < a.length ∧ r' = ri ∧ Lng x (a.take k'))) ∨ (k' = a.length ∧ r' = ri ∧ endsR (ofP x) (runR (ofP x) a) = true)) = (fun k' r' => Q k' r' ∨ (k' ≤ a.length ∧ r' = ri ∧ Lng x (a.take k'))) := by
        funext k' r'
        rw [ends_lng hw]
        refine propext ⟨?_, ?_⟩
        · rintro ((h1 | ⟨h1, h2, h3⟩) | ⟨h1, h2, h3⟩)
          · exact .inl h1
          · exact .inr ⟨by omega, h2, h3⟩
          · exact .inr ⟨by omega, h2, by subst h1; simpa using h3⟩
        · rintro (h1 | ⟨h1, h2, h3⟩)
          · exact .inl (.inl h1)
          · by_cases hk : k' = a.length
            · exact .inr ⟨hk, h2, by subst hk; simpa using h3⟩
            · exact .inl (.inr ⟨by omega, h2, h3⟩)
      rw [e] at hadd
      split <;> rename_i hc
      · rw [if_pos hc] at hadd; exact hadd
      · rw [if_neg hc] at hadd; exact hadd
  | cons c l ih =>
    intro a b hL hI hQ
    by_cases h : anyR (runR (ofP x) a) = false
    · rw [refG_none h]
      subst hL
      have e : (fun k' r' => Q k' r' ∨ (k' < a.length ∧ r' = ri ∧ Lng x ((a ++ c :: l).take k'))) = (fun k' r' => Q k' r' ∨ (k' ≤ (a ++ c :: l).length ∧ r' = ri ∧ Lng x ((a ++ c :: l).take k'))) := by
        funext k' r'
        refine propext ⟨fun h => h.imp id fun ⟨h1, h2⟩ => ⟨by simp; omega, h2⟩, fun hh => hh.imp id fun ⟨h1, h2, h3⟩ => ⟨?_, h2, h3⟩⟩
        by_cases e : k' < a.length
        · exact e
        · exact absurd h3 (dead (c :: l) a h k' (by omega) h1)
      rw [← e]; exact hI
    · rw [refG, if_neg h]
      have h1 := ih (a ++ [c]) (if endsR (ofP x) (runR (ofP x) a) = true ∧ (b.2.1 < 0 ∨ b.1 < (a.length : Int)) then ((a.length : Int), (ri : Int), if b.2.2 < (a.length : Int) then (a.length : Int) else b.2.2) else (b.1, b.2.1, if b.2.2 < (a.length : Int) then (a.length : Int) else b.2.2)) (by simpa using hL) ?_ hQ
      · have e : runR (ofP x) (a ++ [c]) = stepR (ofP x) (runR (ofP x) a) c := by simp [runR, List.foldl_append]
        rw [e] at h1
        simp only [List.length_append, List.length_singleton] at h1
        exact h1
      · have hadd := hI.add (k := a.length) (r := ri) (fun k' r' hq => by
          rcases hq with hq | ⟨h1, h2, _⟩
          · exact .inl (hQ _ _ hq)
          · exact .inr ⟨h2, h1⟩) (endsR (ofP x) (runR (ofP x) a))
        have e : (fun k' r' => (Q k' r' ∨ (k' < a.length ∧ r' = ri ∧ Lng x (L.take k'))) ∨ (k' = a.length ∧ r' = ri ∧ endsR (ofP x) (runR (ofP x) a) = true)) = (fun k' r' => Q k' r' ∨ (k' < (a ++ [c]).length ∧ r' = ri ∧ Lng x (L.take k'))) := by
          funext k' r'
          rw [ends_lng hw]
          have ht : L.take a.length = a := by rw [← hL]; simp
          refine propext ⟨?_, ?_⟩
          · rintro ((h1 | ⟨h1, h2, h3⟩) | ⟨h1, h2, h3⟩)
            · exact .inl h1
            · exact .inr ⟨by simp; omega, h2, h3⟩
            · exact .inr ⟨by simp; omega, h2, by subst h1; rw [ht]; exact h3⟩
          · rintro (h1 | ⟨h1, h2, h3⟩)
            · exact .inl (.inl h1)
            · simp only [List.length_append, List.length_singleton] at h1
              by_cases hk : k' = a.length
              · exact .inr ⟨hk, h2, by subst hk; rwa [ht] at h3⟩
              · exact .inl (.inr ⟨by omega, h2, h3⟩)
        rw [e] at hadd
        split <;> rename_i hc
        · rw [if_pos hc] at hadd; exact hadd
        · rw [if_neg hc] at hadd; exact hadd
theorem refGs_top (L : By) : ∀ (xs : List Nd) (i : Nat) (Q : Nat → Nat → Prop) (b : Int × Int × Int), (∀ x ∈ xs, wfN x = true) → (∀ k r, Q k r → r < i) → IsTop Q (b.1, b.2.1) →
    IsTop (fun k r => Q k r ∨ ∃ j x, xs[j]? = some x ∧ r = i + j ∧ k ≤ L.length ∧ Lng x (L.take k)) ((refGs i (xs.map ofP) L b).1, (refGs i (xs.map ofP) L b).2.1)
  | [], i, Q, b, _, _, h => by
    simp only [List.map_nil, refGs]
    have e : (fun k r => Q k r ∨ ∃ (j : Nat) (x : Nd), ([] : List Nd)[j]? = some x ∧ r = i + j ∧ k ≤ L.length ∧ Lng x (L.take k)) = Q := by funext k r; simp
    rw [e]; exact h
  | x :: xs, i, Q, b, hw, hQ, h => by
    simp only [List.map_cons, refGs]
    have h1 := refG_top (hw x (by simp)) i Q L L [] b rfl (by simpa using h) hQ
    have h2 := refGs_top L xs (i + 1) _ (refG (ofP x) i L (startR (ofP x)) 0 b) (fun y hy => hw y (by simp [hy])) (fun k r hq => by
      rcases hq with hq | ⟨_, hq, _⟩
      · have := hQ _ _ hq; omega
      · omega) h1
    have e : (fun k r => (Q k r ∨ (k ≤ L.length ∧ r = i ∧ Lng x (L.take k))) ∨ ∃ j y, xs[j]? = some y ∧ r = i + 1 + j ∧ k ≤ L.length ∧ Lng y (L.take k)) = (fun k r => Q k r ∨ ∃ j y, (x :: xs)[j]? = some y ∧ r = i + j ∧ k ≤ L.length ∧ Lng y (L.take k)) := by
      funext k r
      refine propext ⟨?_, ?_⟩
      · rintro ((h1 | ⟨h1, h2, h3⟩) | ⟨j, y, h1, h2, h3⟩)
        · exact .inl h1
        · exact .inr ⟨0, x, rfl, by omega, h1, h3⟩
        · exact .inr ⟨j + 1, y, by simpa using h1, by omega, h3⟩
      · rintro (h1 | ⟨j, y, h1, h2, h3⟩)
        · exact .inl (.inl h1)
        · cases j with
          | zero => simp at h1; subst h1; exact .inl (.inr ⟨h3.1, by omega, h3.2⟩)
          | succ j => exact .inr ⟨j, y, by simpa using h1, by omega, h3⟩
    rw [e] at h2; exact h2
theorem refMatch_spec {xs : List Nd} (hw : ∀ x ∈ xs, wfN x = true) (l : By) : IsMatch (fun n r => ∃ x, xs[r]? = some x ∧ Lng x (l.take n)) l.length ((refMatch (xs.map ofP) l).1, (refMatch (xs.map ofP) l).2.1) := by
  have h := refGs_top l xs 0 (fun _ _ => False) (0, -1, 0) hw (fun _ _ h => h.elim) (.inl ⟨rfl, fun _ _ h => h⟩)
  rcases h with ⟨h1, h2⟩ | ⟨k, r, h1, h2, h3, h4⟩
  · exact .inl ⟨h1, fun k r hk ⟨x, hx, hl⟩ => h2 k r (.inr ⟨r, x, hx, by omega, hk, hl⟩)⟩
  · rcases h2 with h2 | ⟨j, x, hx, hr, hk, hl⟩
    · exact h2.elim
    · have : r = j := by omega
      subst this
      exact .inr ⟨k, r, h1, hk, ⟨x, hx, hl⟩, fun k' r' hk' ⟨y, hy, hl'⟩ => h3 k' r' (.inr ⟨r', y, hy, by omega, hk', hl'⟩), fun r' ⟨y, hy, hl'⟩ => h4 r' (.inr ⟨r', y, hy, by omega, hk, hl'⟩)⟩
theorem refLeast_spec : ∀ (xs : List Nd) (i : Nat) (l : By), (∀ x ∈ xs, wfN x = true) → LeastI (fun r => ∃ j x, xs[j]? = some x ∧ r = i + j ∧ Lng x l) (refLeast i (xs.map ofP) l)
  | [], i, l, _ => .inl ⟨rfl, fun r ⟨j, x, hx, _⟩ => by simp at hx⟩
  | x :: xs, i, l, hw => by
    simp only [List.map_cons, refLeast]
    by_cases h : endsR (ofP x) (runR (ofP x) l) = true
    · rw [if_pos h]
      exact .inr ⟨i, rfl, ⟨0, x, rfl, rfl, (ends_lng (hw x (by simp)) l).1 h⟩, fun r ⟨j, y, _, hr, _⟩ => by omega⟩
    · rw [if_neg h]
      have ih := refLeast_spec xs (i + 1) l (fun y hy => hw y (by simp [hy]))
      have e : (fun r => ∃ j y, xs[j]? = some y ∧ r = i + 1 + j ∧ Lng y l) = (fun r => ∃ j y, (x :: xs)[j]? = some y ∧ r = i + j ∧ Lng y l) := by
        funext r
        refine propext ⟨fun ⟨j, y, h1, h2, h3⟩ => ⟨j + 1, y, by simpa using h1, by omega, h3⟩, fun ⟨j, y, h1, h2, h3⟩ => ?_⟩
        cases j with
        | zero => simp at h1; subst h1; exact absurd ((ends_lng (hw x (by simp)) l).2 h3) h
        | succ j => exact ⟨j, y, by simpa using h1, by omega, h3⟩
      rw [e] at ih; exact ih
end Go.Proofs.YtlegopbpofofgaaDoor
namespace Go.Proofs.YtlegopbpofofgaaDoor
open Go Go.Lw
set_option maxRecDepth 20000
theorem or_calls {h : Heap} {O O' : Nat → Prop} {va vb : Value} {a b : List Bool} (ha : SlR .bool h O va a) (hb : SlR .bool h O' vb b) (hl : a.length ≤ b.length) (hn : a.length ≤ 1000000) :
    CallsH Tryd.prog 64 #[va, vb] h (Ret fun r h' => OwE Value.bool h' h.size 4 r (orB a b) ∧ Ext0 h h') := by
  obtain ⟨oa, na, ca, rfl, hsa⟩ := ha.open
  obtain ⟨ob, nb, cb, rfl, hsb⟩ := hb.open
  have hna := hsa.len
  have hnb := hsb.len
  have hol : (orB a b).length = na := by simp [orB]; omega
  subst hna
  refine CallsH.of Tryd.func64 rfl rfl ?_
  refine xr Tryd.func64 rfl ?_
  refine xq rfl ?_
  refine xd [0, 1, 4] rfl ?_
  refine xr Tryd.func64 rfl ?_
  refine xq rfl ?_
  refine xp rfl (OpP.lenSlice Tryd.underlying55 rfl) ?_
  refine xo rfl (OpX.makeOnes Tryd.underlying55 H.el4 H.zr4 rfl rfl rfl (by omega) (by decide)) ?_
  rintro _ h1 ⟨rfl, hk1, e1⟩
  refine xq rfl ?_
  refine xd [0, 1, 4, 5] rfl ?_
  refine G.seq rfl ?_
  refine xr Tryd.func64 rfl ?_
  refine xq rfl ?_
  refine xd [0, 1, 4, 5, 6] rfl ?_
  refine G.block rfl rfl ?_
  refine G.loop (σ := Nat) (fun i => [(0, .slice oa a.length ca), (1, .slice ob nb cb), (5, .slice (some ⟨h.size, 0, none⟩) a.length a.length), (6, .int .i64 (i : Nat))]) (fun i h' => i ≤ a.length ∧ Ext0 h h' ∧ OwE Value.bool h' h.size 4 (.slice (some ⟨h.size, 0, none⟩) a.length a.length) ((orB a b).take i ++ List.replicate (a.length - i) false)) (fun i => a.length - i) (0) rfl ⟨rfl, rfl, rfl, rfl, trivial⟩ ⟨Nat.zero_le _, e1, by unfold OwE; simpa using hk1⟩ ?_
  rintro i g ⟨hi, eg, ho⟩ ih
  refine G.seq rfl ?_
  refine xr Tryd.func64 rfl ?_
  iterate 2 refine xq rfl ?_
  refine xp rfl (OpP.lenSlice Tryd.underlying55 rfl) ?_
  refine xq rfl ?_
  refine xd [0, 1, 5, 6, 13] rfl ?_
  refine G.ite rfl rfl (fun hlt => ?_) (fun hlt => ?_)
  · have hia : i < a.length := by omega
    have hsa' := hsa.mv (Mv.ext0 eg)
    have hsb' := hsb.mv (Mv.ext0 eg)
    obtain ⟨ba, oo, x, hoa, _, hx, hcx⟩ := hsa'.at hia
    obtain ⟨bb, oo2, y, hob, _, hy, hcy⟩ := hsb'.at (show i < nb by omega)
    obtain ⟨g', c', hv', _, _, hcell, hfz, hset⟩ := ho.at (fill_get hol hia)
    rw [fill_len hol hi] at hv'
    cases hv'
    have horx : (orB a b)[i]? = some (x || y) := by rw [orB, List.getElem?_zipWith, hx, hy]
    have hor : (orB a b)[i]'(by omega) = (x || y) := (List.getElem?_eq_some_iff.1 horx).2
    have hset := hset (x || y)
    have hfs := fill_set (l := orB a b) (z := false) hol hia
    rw [hor] at hfs
    rw [hfs] at hset
    have fin : ∀ d, d = (x || y) → ∀ g2, g2 = setC g ⟨h.size, 0 + i * 1, none⟩ (.bool d) → Ext0 h g2 ∧ OwE Value.bool g2 h.size 4 (.slice (some ⟨h.size, 0, none⟩) a.length a.length) ((orB a b).take (i + 1) ++ List.replicate (a.length - (i + 1)) false) := by
      rintro d rfl g2 rfl
      exact ⟨⟨by rw [setC_size]; exact eg.size, fun b hb k => by rw [(Ext.setC (M := fun b => b = h.size) g _ _ rfl).block b (by have := eg.size; omega) (by omega)]; exact eg.block b hb k⟩, hset⟩
    refine G.skip rfl ?_
    refine G.seq rfl ?_
    refine G.block rfl rfl ?_
    refine G.reg Tryd.func64 rfl ?_
    iterate 4 refine xq rfl ?_
    refine xp rfl (OpP.indexSlice Tryd.underlying55 H.sz4 rfl rfl i rfl hoa (by omega)) ?_
    refine xp rfl (OpP.load H.ag4 rfl hcx) ?_
    refine xq rfl ?_
    refine RW.split (d := 22) rfl (fun hg => ?_) (fun hg => ?_)
    · iterate 4 refine xk rfl ?_
      refine xq rfl ?_
      refine xp rfl (OpP.indexSlice Tryd.underlying55 H.sz4 rfl rfl i rfl rfl (by omega)) ?_
      refine RW.op0 rfl rfl rfl (OpX.store H.sz4 rfl rfl rfl hcell hfz) ?_
      rintro _ g2 ⟨rfl, hg2⟩
      refine xd [0, 1, 5, 6, 13] rfl ?_
      refine G.blkEnd ?_
      refine G.reg Tryd.func64 rfl ?_
      refine xq rfl ?_
      refine xp rfl (OpP.add64 rfl rfl ⟨by omega, by omega⟩) ?_
      refine xq rfl ?_
      refine xd [0, 1, 5, 6, 13] rfl ?_
      exact ih (i + 1) _ _ ⟨rfl, rfl, rfl, rfl, trivial⟩ ⟨hia, fin _ (by rw [hg]; rfl) g2 hg2⟩ (by omega)
    · iterate 2 refine xq rfl ?_
      refine xp rfl (OpP.indexSlice Tryd.underlying55 H.sz4 rfl rfl i rfl hob (by omega)) ?_
      refine xp rfl (OpP.load H.ag4 rfl hcy) ?_
      refine xq rfl ?_
      refine xp rfl (OpP.indexSlice Tryd.underlying55 H.sz4 rfl rfl i rfl rfl (by omega)) ?_
      refine RW.op0 rfl rfl rfl (OpX.store H.sz4 rfl rfl rfl hcell hfz) ?_
      rintro _ g2 ⟨rfl, hg2⟩
      refine xd [0, 1, 5, 6, 13] rfl ?_
      refine G.blkEnd ?_
      refine G.reg Tryd.func64 rfl ?_
      refine xq rfl ?_
      refine xp rfl (OpP.add64 rfl rfl ⟨by omega, by omega⟩) ?_
      refine xq rfl ?_
      refine xd [0, 1, 5, 6, 13] rfl ?_
      exact ih (i + 1) _ _ ⟨rfl, rfl, rfl, rfl, trivial⟩ ⟨hia, fin _ (by rw [hg]; rfl) g2 hg2⟩ (by omega)
  · obtain rfl : i = a.length := by omega
    refine G.exit rfl rfl ?_
    refine xr Tryd.func64 rfl ?_
    iterate 2 refine xq rfl ?_
    refine xd [0, 1, 4, 5, 6, 13] rfl ?_
    refine G.ret Tryd.func64 rfl rfl ?_
    rw [List.take_of_length_le (by omega), Nat.sub_self, List.replicate_zero, List.append_nil] at ho
    exact ⟨_, rfl, ho, eg⟩
def CountOk (n : Nat) : Prop := ∀ {x : Nd} {h : Heap} {O : Nat → Prop} {w : Value}, szN x ≤ n → szN x ≤ 1000000 → NdAt h O (ndC x.kind x.set w) x →
  CallsH Tryd.prog 62 #[.agg (ndC x.kind x.set w).toArray] h (Ret fun r h' => r = .int .i64 (cnt x : Nat) ∧ Ext0 h h')
theorem count_ok : ∀ n, CountOk n := by
  intro n
  induction n with
  | zero => intro x h O w hn _ _; have := szN_pos x; omega
  | succ n ihn =>
    intro x h O w hn hbig hx
    obtain ⟨w', hw', hkids⟩ := hx.open
    have : w' = w := by simp [ndC] at hw'; exact hw'.symm
    subst this
    obtain ⟨oa, kn, kc, rfl, hsl⟩ := hkids.open
    have hkl := hsl.len
    have hkm := hsl.le
    have hkc := hsl.cap
    have hszl := szL_len x.kids
    have hsx : szL x.kids + 1 = szN x := by cases x; simp [szN, Nd.kids]
    have hcx : cnt x = (if x.kind = 1 then 1 else 0) + cntL x.kids := by cases x; rw [cnt]; rfl
    refine CallsH.of Tryd.func62 rfl rfl ?_
    refine xr Tryd.func62 rfl ?_
    refine xo rfl (OpX.boxN rfl) ?_
    rintro _ h1 ⟨rfl, hk1, e1, z1⟩
    refine xq rfl ?_
    refine xd [0, 1, 2] rfl ?_
    refine xr Tryd.func62 rfl ?_
    refine xq rfl ?_
    refine xd [0, 1, 2, 3] rfl ?_
    refine G.seq rfl ?_
    refine xr Tryd.func62 rfl ?_
    refine xp rfl (OpP.fieldAddr (off := 0) Tryd.underlying94 rfl rfl H.sz3 rfl) ?_
    have hk1 : Blk h1 h.size 94 (ndC x.kind x.set (.slice oa kn kc)) := hk1
    have go : ∀ (_u : Unit) (h' : Heap) (ρ' : Env), Sub [(1, .pointer (some ⟨h.size, 0, none⟩)), (3, .int .i64 ((if x.kind = 1 then 1 else 0 : Nat) : Int))] ρ' → h' = h1 → G Tryd.prog 62 Tryd.f62 [.code [1, 1, 1]] ρ' h' (Ret fun r h' => r = .int .i64 (cnt x : Nat) ∧ Ext0 h h') := by
      rintro _u h1' ρ' hsub rfl
      refine G.sub (ρ' := [(1, .pointer (some ⟨h.size, 0, none⟩)), (3, .int .i64 ((if x.kind = 1 then 1 else 0 : Nat) : Int))]) hsub ?_
      refine G.seq rfl ?_
      refine xr Tryd.func62 rfl ?_
      refine xq rfl ?_
      refine xd [1, 3, 4] rfl ?_
      refine G.block rfl rfl ?_
      refine G.loop (σ := Nat) (fun i => [(1, .pointer (some ⟨h.size, 0, none⟩)), (3, .int .i64 (((if x.kind = 1 then 1 else 0) + cntL (x.kids.take i) : Nat) : Int)), (4, .int .i64 (i : Nat))]) (fun i h' => i ≤ kn ∧ Ext0 h1' h') (fun i => kn - i) (0) rfl ⟨rfl, rfl, rfl, trivial⟩ ⟨Nat.zero_le _, Ext.refl _ _⟩ ?_
      rintro i g ⟨hi, eg⟩ ih
      have hkg := hk1.ext0 eg
      refine G.seq rfl ?_
      refine xr Tryd.func62 rfl ?_
      refine xq rfl ?_
      refine xp rfl (OpP.fieldAddr (off := 5) Tryd.underlying94 rfl rfl H.sz92 rfl) ?_
      refine xp rfl (OpP.load H.ag92 rfl (hkg.cell (i := 5) rfl)) ?_
      refine xp rfl (OpP.lenSlice Tryd.underlying92 rfl) ?_
      refine xq rfl ?_
      refine xd [1, 3, 4, 12] rfl ?_
      refine G.ite rfl rfl (fun hlt => ?_) (fun hlt => ?_)
      · have hik : i < x.kids.length := by omega
        obtain ⟨y, hy⟩ : ∃ y, x.kids[i]? = some y := ⟨_, List.getElem?_eq_getElem hik⟩
        have hsl' := hsl.mv (Mv.ext0 (e1.trans eg))
        obtain ⟨b, o, cs, ha, hob, hrow, hnd⟩ := hsl'.get i y hy
        obtain ⟨w2, rfl, _⟩ := NdAt.open hnd
        have hsy := szL_mem hy
        have hct := cntL_sz (x.kids.take (i + 1))
        have htk : cntL (x.kids.take (i + 1)) = cntL (x.kids.take i) + cnt y := by
          rw [List.take_add_one, hy, cntL_append]; simp [cntL]
        have hst : szL (x.kids.take (i + 1)) ≤ szL x.kids := by
          have : szL (x.kids.take (i + 1) ++ x.kids.drop (i + 1)) = szL x.kids := by rw [List.take_append_drop]
          rw [szL_append] at this; omega
        have hif : (if x.kind = 1 then 1 else 0 : Nat) ≤ 1 := by split <;> omega
        refine G.skip rfl ?_
        refine G.seq rfl ?_
        refine G.block rfl rfl ?_
        refine G.reg Tryd.func62 rfl ?_
        refine xq rfl ?_
        refine xp rfl (OpP.fieldAddr (off := 5) Tryd.underlying94 rfl rfl H.sz92 rfl) ?_
        refine xp rfl (OpP.load H.ag92 rfl (hkg.cell (i := 5) rfl)) ?_
        refine xq rfl ?_
        refine xp rfl (OpP.indexSlice Tryd.underlying92 H.sz94 rfl rfl i rfl ha (by omega)) ?_
        refine xp rfl (OpP.loadRowN H.ag94 H.sz94 rfl hrow (by first | rfl | simp)) ?_
        refine xo rfl (OpX.call (vs := [_]) Tryd.func62 rfl H.nm62 rfl (CallsH.toX (ihn (x := y) (by omega) (by omega) hnd))) ?_
        rintro _ g2 ⟨rfl, e2⟩
        refine xp rfl (OpP.add64 rfl rfl ⟨by omega, by omega⟩) ?_
        refine xq rfl ?_
        refine xd [1, 3, 4, 12] rfl ?_
        refine G.blkEnd ?_
        refine G.reg Tryd.func62 rfl ?_
        refine xq rfl ?_
        refine xp rfl (OpP.add64 rfl rfl ⟨by omega, by omega⟩) ?_
        refine xq rfl ?_
        refine xd [1, 3, 4, 12] rfl ?_
        exact ih (i + 1) _ _ ⟨rfl, by show _ = _; rw [htk, ← Nat.add_assoc]; push_cast; rfl, rfl, trivial⟩ ⟨by omega, eg.trans e2⟩ (by omega)
      · have : i = x.kids.length := by omega
        subst this
        refine G.exit rfl rfl ?_
        refine xr Tryd.func62 rfl ?_
        iterate 2 refine xq rfl ?_
        refine xd [1, 2, 3, 4, 12] rfl ?_
        refine G.ret Tryd.func62 rfl rfl ?_
        exact ⟨_, rfl, by rw [List.take_length, hcx]; rfl, e1.trans eg⟩
    refine xp rfl (OpP.load H.ag3 rfl (hk1.cell (i := 0) rfl)) ?_
    refine xq rfl ?_
    refine xd [0, 1, 2, 3, 7] rfl ?_
    refine G.ite rfl rfl (fun hk => ?_) (fun hk => ?_)
    · have hk' : x.kind = 1 := by omega
      refine G.reg Tryd.func62 rfl ?_
      refine xq rfl ?_
      refine xd [0, 1, 2, 3, 7] rfl ?_
      exact go () _ _ ⟨rfl, by rw [if_pos hk']; rfl, trivial⟩ rfl
    · have hk' : ¬ x.kind = 1 := by omega
      refine G.skip rfl ?_
      exact go () _ _ ⟨rfl, by rw [if_neg hk']; rfl, trivial⟩ rfl
def RowAt (h : Heap) (O : Nat → Prop) (cs : List Value) (x : List Bool) : Prop := ∃ v, cs = [v] ∧ SlR .bool h O v x
def eRow : Elt (List Bool) := ⟨1, by decide, RowAt, fun h => by obtain ⟨v, rfl, _⟩ := h; rfl, fun h => by
    obtain ⟨v, rfl, hv⟩ := h
    intro u hu
    simp at hu; subst hu; exact SlR.isOne hv, fun h m => by
    obtain ⟨v, hc, hv⟩ := h; exact ⟨v, hc, hv.mv m⟩⟩
structure RuAt (h : Heap) (O : Nat → Prop) (rb : Nat) (vs vb vl : Value) (st : RuS) : Prop where
  blk : Blk h rb 57 [vs, vb, vl]
  sets : OwR 4 encSet h 0 60 vs st.1
  rows : OwX eRow (fun b => b = rb ∨ but vs.ownBlock b ∨ O b) h 0 55 vb st.2
  apart : ∀ b, vs.ownBlock = some b → vb.ownBlock ≠ some b
  ns : vs.ownBlock ≠ some rb
  nb : vb.ownBlock ≠ some rb
abbrev ruM (rb : Nat) (vs vb : Value) : Nat → Prop := fun b => b = rb ∨ but vs.ownBlock b ∨ but vb.ownBlock b
theorem RuAt.ownS {h : Heap} {O : Nat → Prop} {rb : Nat} {vs vb vl : Value} {st : RuS} (k : RuAt h O rb vs vb vl st) : ∀ b, vs.ownBlock = some b → b ≠ rb ∧ b < h.size := fun b hb => by
  have := OwnH.lt k.sets hb
  exact ⟨fun e => k.ns (by rw [hb, e]), this.2⟩
theorem RuAt.ownB {h : Heap} {O : Nat → Prop} {rb : Nat} {vs vb vl : Value} {st : RuS} (k : RuAt h O rb vs vb vl st) : ∀ b, vb.ownBlock = some b → b ≠ rb ∧ b < h.size := fun b hb => by
  obtain ⟨css, _, h2, _⟩ := k.rows
  have := h2.lt hb
  exact ⟨fun e => k.nb (by rw [hb, e]), this.2⟩
theorem RuAt.ext {M : Nat → Prop} {O O' : Nat → Prop} {h h' : Heap} {rb : Nat} {vs vb vl : Value} {st : RuS} (k : RuAt h O rb vs vb vl st) (e : Ext M h h') (hM' : ∀ b, ruM rb vs vb b → ¬ M b) (hM : ∀ b, b < h.size → M b → O b) (hO : ∀ b, b < h.size → O' b → O b) : RuAt h' O' rb vs vb vl st :=
  ⟨k.blk.ext e (hM' _ (.inl rfl)), OwnH.ext e k.sets (fun _ hb => hM' _ (.inr (.inl hb.symm))), k.rows.mv2 e (fun _ hb => hM' _ (.inr (.inr hb.symm))) (fun b hb hm => .inr (.inr (hM b hb hm))) (fun b hb k => k.imp id (fun k => k.imp id (hO b hb))), k.apart, k.ns, k.nb⟩
theorem RuAt.ext0 {O O' : Nat → Prop} {h h' : Heap} {rb : Nat} {vs vb vl : Value} {st : RuS} (k : RuAt h O rb vs vb vl st) (e : Ext0 h h') (hO : ∀ b, b < h.size → O' b → O b) : RuAt h' O' rb vs vb vl st := k.ext e (fun _ _ k => k) (fun _ _ k => k.elim) hO
theorem followB_at {last first : List Bool} {bh : List (List Bool)} {i : Nat} {l : Bool} {b : List Bool} (hl : last[i]? = some l) (hb : bh[i]? = some b) : (followB last first bh)[i]? = some (if l then orB b first else b) := by
  rw [followB, List.getElem?_zipWith, hl, hb]
theorem follow_calls {h : Heap} {O : Nat → Prop} {rb : Nat} {vs vb vl vlast vfirst : Value} {st : RuS} {last first : List Bool} {n : Nat} (hr : RuAt h O rb vs vb vl st) (hO : ∀ b, O b → b < h.size) (hlast : SlR .bool h (fun b => ruM rb vs vb b) vlast last) (hfirst : SlR .bool h (fun b => ruM rb vs vb b) vfirst first)
    (hok : RuOk n st) (hll : last.length = n) (hfl : first.length = n) (hn : n ≤ 1000000) :
    CallsH Tryd.prog 81 #[.pointer (some ⟨rb, 0, none⟩), vlast, vfirst] h (Ret fun _ h' => RuAt h' O rb vs vb vl (st.1, followB last first st.2) ∧ Ext (but vb.ownBlock) h h') := by
  obtain ⟨ol, nl, cl, rfl, hsl⟩ := hlast.open
  obtain ⟨of, nf, cf, rfl, hsf⟩ := hfirst.open
  have hnl := hsl.len
  have hnf := hsf.len
  have hrows := hok.rows
  have hfb : (followB last first st.2).length = n := by simp [followB]; omega
  have hownS := hr.ownS
  have hownB := hr.ownB
  have hrb := hr.blk.lt
  refine CallsH.of Tryd.func81 rfl rfl ?_
  refine xr Tryd.func81 rfl ?_
  refine xq rfl ?_
  refine xd [0, 1, 2, 6] rfl ?_
  refine G.block rfl rfl ?_
  refine G.loop (σ := Nat) (fun i => [(0, .pointer (some ⟨rb, 0, none⟩)), (1, .slice ol nl cl), (2, .slice of nf cf), (6, .int .i64 (i : Nat))]) (fun i h' => i ≤ n ∧ RuAt h' O rb vs vb vl (st.1, (followB last first st.2).take i ++ st.2.drop i) ∧ Ext (but vb.ownBlock) h h') (fun i => n - i) (0) rfl ⟨rfl, rfl, rfl, rfl, trivial⟩ ⟨Nat.zero_le _, hr, Ext.refl _ _⟩ ?_
  rintro i g ⟨hi, hg, eg⟩ ih
  have hzg := eg.size
  refine G.seq rfl ?_
  refine xr Tryd.func81 rfl ?_
  iterate 2 refine xq rfl ?_
  refine xp rfl (OpP.lenSlice Tryd.underlying55 rfl) ?_
  refine xq rfl ?_
  refine xd [0, 1, 2, 6, 10] rfl ?_
  refine G.ite rfl rfl (fun hlt => ?_) (fun hlt => ?_)
  · have hin : i < n := by omega
    have hmv : Mv (fun b => ruM rb vs vb b) (fun b => ruM rb vs vb b) h g := Mv.ofExt eg (fun b _ k => ⟨fun k2 => k (.inr (.inr k2)), k⟩)
    have hslg := hsl.mv hmv
    have hsfg := hsf.mv hmv
    obtain ⟨bl, oo, x, hol, _, hx, hcx⟩ := hslg.at (show i < nl by omega)
    obtain ⟨row, hrow⟩ : ∃ row, st.2[i]? = some row := ⟨_, List.getElem?_eq_getElem (by omega)⟩
    have hrl := hok.each row (List.mem_of_getElem? hrow)
    have hfa := followB_at (first := first) hx hrow
    have hcur : ((followB last first st.2).take i ++ st.2.drop i)[i]? = some row := by
      have h1 : ((followB last first st.2).take i).length = i := by rw [List.length_take]; omega
      rw [List.getElem?_append_right (by omega), h1, Nat.sub_self, List.getElem?_drop]; exact hrow
    have hlen : ((followB last first st.2).take i ++ st.2.drop i).length = n := by rw [List.length_append, List.length_take, List.length_drop]; omega
    have hnext : ∀ z, (followB last first st.2)[i]? = some z → ((followB last first st.2).take i ++ st.2.drop i).set i z = (followB last first st.2).take (i + 1) ++ st.2.drop (i + 1) := by
      intro z hz
      obtain ⟨hil, hz⟩ := List.getElem?_eq_some_iff.1 hz
      have hd : st.2.drop i = st.2[i] :: st.2.drop (i + 1) := List.drop_eq_getElem_cons (by omega)
      rw [List.set_append_right _ _ (by rw [List.length_take]; omega), hd]
      have h1 : ((followB last first st.2).take i).length = i := by rw [List.length_take]; omega
      rw [h1, Nat.sub_self, List.set_cons_zero, List.take_succ_eq_append_getElem hil, hz, List.append_assoc]
      rfl
    refine G.skip rfl ?_
    refine G.seq rfl ?_
    refine G.block rfl rfl ?_
    refine xr Tryd.func81 rfl ?_
    iterate 2 refine xq rfl ?_
    refine xp rfl (OpP.indexSlice Tryd.underlying55 H.sz4 rfl rfl i rfl hol (by omega)) ?_
    refine xp rfl (OpP.load H.ag4 rfl hcx) ?_
    refine xd [0, 1, 2, 6, 10, 16] rfl ?_
    refine G.cond rfl rfl (fun hb => ?_) (fun hb => ?_)
    · subst hb
      have hz := hnext _ hfa
      rw [if_pos rfl] at hz
      obtain ⟨gb, c, cs, hvb, hgb1, hgb2, hra, hfz, ⟨w, rfl, hw⟩, hput⟩ := hg.rows.put hcur
      rw [hlen] at hvb
      subst hvb
      have hbb : @but (some gb) gb := rfl
      refine G.draw (fun b => Array.size g ≤ b) (fun i => Nat.blt i 15) (sz := 16) (listed := #[false, false, false, false, false, false, false, false, false, false, false, false, false, false, false, false]) Tryd.func81 H.mixed rfl rfl rfl ?_
      refine RD.takeS 0 (listed' := #[true, false, false, false, false, false, false, false, false, false, false, false, false, false, false, false]) rfl (by kernel_rfl) (by kernel_rfl) (by kernel_rfl) rfl rfl rfl (fun h' e => OpP.move rfl) rfl ?_
      refine RD.takeS 1 (listed' := #[true, true, false, false, false, false, false, false, false, false, false, false, false, false, false, false]) rfl (by kernel_rfl) (by kernel_rfl) (by kernel_rfl) rfl rfl rfl (fun h' e => OpP.nilCheck rfl) rfl ?_
      refine RD.takeS 2 (listed' := #[true, true, true, false, false, false, false, false, false, false, false, false, false, false, false, false]) rfl (by kernel_rfl) (by kernel_rfl) (by kernel_rfl) rfl rfl rfl (fun h' e => OpP.fieldAddr (off := 1) Tryd.underlying57 rfl rfl H.sz54 rfl) rfl ?_
      refine RD.takeS 3 (listed' := #[true, true, true, true, false, false, false, false, false, false, false, false, false, false, false, false]) rfl (by kernel_rfl) (by kernel_rfl) (by kernel_rfl) rfl rfl rfl (fun h' e => OpP.load H.ag54 rfl (e.old (hg.blk.cell (i := 1) rfl))) rfl ?_
      refine RD.takeS 4 (listed' := #[true, true, true, true, true, false, false, false, false, false, false, false, false, false, false, false]) rfl (by kernel_rfl) (by kernel_rfl) (by kernel_rfl) rfl rfl rfl (fun h' e => OpP.move rfl) rfl ?_
      refine RD.takeS 5 (listed' := #[true, true, true, true, true, true, false, false, false, false, false, false, false, false, false, false]) rfl (by kernel_rfl) (by kernel_rfl) (by kernel_rfl) rfl rfl rfl (fun h' e => OpP.move rfl) rfl ?_
      refine RD.takeS 6 (listed' := #[true, true, true, true, true, true, true, false, false, false, false, false, false, false, false, false]) rfl (by kernel_rfl) (by kernel_rfl) (by kernel_rfl) rfl rfl rfl (fun h' e => OpP.nilCheck rfl) rfl ?_
      refine RD.takeS 7 (listed' := #[true, true, true, true, true, true, true, true, false, false, false, false, false, false, false, false]) rfl (by kernel_rfl) (by kernel_rfl) (by kernel_rfl) rfl rfl rfl (fun h' e => OpP.fieldAddr (off := 1) Tryd.underlying57 rfl rfl H.sz54 rfl) rfl ?_
      refine RD.takeS 8 (listed' := #[true, true, true, true, true, true, true, true, true, false, false, false, false, false, false, false]) rfl (by kernel_rfl) (by kernel_rfl) (by kernel_rfl) rfl rfl rfl (fun h' e => OpP.load H.ag54 rfl (e.old (hg.blk.cell (i := 1) rfl))) rfl ?_
      refine RD.takeS 9 (listed' := #[true, true, true, true, true, true, true, true, true, true, false, false, false, false, false, false]) rfl (by kernel_rfl) (by kernel_rfl) (by kernel_rfl) rfl rfl rfl (fun h' e => OpP.move rfl) rfl ?_
      refine RD.takeS 10 (listed' := #[true, true, true, true, true, true, true, true, true, true, true, false, false, false, false, false]) rfl (by kernel_rfl) (by kernel_rfl) (by kernel_rfl) rfl rfl rfl (fun h' e => OpP.indexSlice Tryd.underlying54 H.sz55 rfl rfl i rfl rfl (by omega)) rfl ?_
      refine RD.takeS 11 (listed' := #[true, true, true, true, true, true, true, true, true, true, true, true, false, false, false, false]) rfl (by kernel_rfl) (by kernel_rfl) (by kernel_rfl) rfl rfl rfl (fun h' e => OpP.load H.ag55 rfl (e.old (hra 0 _ rfl))) rfl ?_
      refine RD.takeS 12 (listed' := #[true, true, true, true, true, true, true, true, true, true, true, true, true, false, false, false]) rfl (by kernel_rfl) (by kernel_rfl) (by kernel_rfl) rfl rfl rfl (fun h' e => OpP.move rfl) rfl ?_
      refine RD.oneS 13 (listed' := #[true, true, true, true, true, true, true, true, true, true, true, true, true, true, false, false]) rfl (by kernel_rfl) rfl rfl rfl (OpX.call (vs := [_, _]) Tryd.func64 rfl H.nm64 rfl (CallsH.toX (or_calls hw hsfg.shut (by omega) (by omega)))) rfl ?_
      rintro w1 g1 ⟨ho1, e1⟩
      refine ⟨fun _ => e1.mono (fun _ _ k => k.elim), ?_⟩
      have hg1 : RuAt g1 O rb vs (.slice (some ⟨gb, 0, none⟩) n c) vl (st.1, (followB last first st.2).take i ++ st.2.drop i) := hg.ext0 e1 (fun _ _ k => k)
      have hz1 := e1.size
      obtain ⟨gb', c', cs1, hvb1, _, _, hra1, hfz1, ⟨w2, rfl, hw2⟩, hput1⟩ := hg1.rows.put hcur
      rw [hlen] at hvb1
      cases hvb1
      obtain ⟨wa, wc, rfl, _⟩ := (show OwnH g1 g.size 4 1 w1 (orB row first).length ((orB row first).map Value.bool) from ho1).open
      have hnew := hput1 0 (.slice wa (orB row first).length wc) (orB row first) (by decide) ⟨_, rfl, OwE.read (h1 := fun _ => rfl) ho1 (fun b hb k => by
        rcases k with k | k | k | k
        · have := hownB b k.symm; omega
        · omega
        · have := hownS b k.symm; omega
        · have := hO b k; omega)⟩
      rw [hz] at hnew
      refine RD.takeS 14 (listed' := #[true, true, true, true, true, true, true, true, true, true, true, true, true, true, true, false]) rfl (by kernel_rfl) (by kernel_rfl) (by kernel_rfl) rfl rfl rfl (fun h' e => OpP.indexSlice Tryd.underlying54 H.sz55 rfl rfl i rfl rfl (by omega)) rfl ?_
      refine RD.one0 15 (listed' := #[true, true, true, true, true, true, true, true, true, true, true, true, true, true, true, true]) rfl (by kernel_rfl) rfl rfl (OpX.store H.sz55 rfl rfl rfl (hra1 0 _ rfl) (hfz1 _)) rfl ?_
      rintro _ g2 ⟨rfl, hg2⟩
      refine ⟨fun hk => (nomatch hk), ?_⟩
      have x2 : Ext (fun b => b = gb) g1 g2 := by rw [hg2]; exact Ext.setC _ _ _ rfl
      have e02 : Ext (but (Value.slice (some ⟨gb, 0, none⟩) n c).ownBlock) h g2 := ⟨by have := x2.size; omega, fun b hb k => by
        rw [x2.block b (by omega) (fun e => k (by subst e; rfl)), e1.block b (by omega) (fun k => k)]; exact eg.block b hb k⟩
      have hgs : vs.ownBlock ≠ some gb := fun e => hr.apart gb e rfl
      have hg3 : RuAt g2 O rb vs (.slice (some ⟨gb, 0, none⟩) n c) vl (st.1, (followB last first st.2).take (i + 1) ++ st.2.drop (i + 1)) :=
        ⟨hg1.blk.ext x2 (by show ¬ _ = _; have := (hownB gb rfl).1; omega), OwnH.ext x2 hg1.sets (fun b hb e => hgs (by subst e; exact hb)), by rw [hg2]; exact hnew, hr.apart, hr.ns, hr.nb⟩
      refine RD.done (by kernel_rfl) ?_
      refine xu [0, 1, 2, 6, 10, 16] rfl ?_
      refine G.blkEnd ?_
      refine G.reg Tryd.func81 rfl ?_
      refine xq rfl ?_
      refine xp rfl (OpP.add64 rfl rfl ⟨by omega, by omega⟩) ?_
      refine xq rfl ?_
      refine xd [0, 1, 2, 6, 10, 16] rfl ?_
      exact ih (i + 1) _ _ ⟨rfl, rfl, rfl, rfl, trivial⟩ ⟨hin, hg3, e02⟩ (by omega)
    · subst hb
      have hz := hnext _ hfa
      rw [if_neg (by decide)] at hz
      have hset : ((followB last first st.2).take i ++ st.2.drop i).set i row = (followB last first st.2).take i ++ st.2.drop i := by
        obtain ⟨hi', hrow'⟩ := List.getElem?_eq_some_iff.1 hcur
        rw [← hrow', List.set_getElem_self]
      rw [hset] at hz
      rw [hz] at hg
      refine G.skip rfl ?_
      refine G.blkEnd ?_
      refine G.reg Tryd.func81 rfl ?_
      refine xq rfl ?_
      refine xp rfl (OpP.add64 rfl rfl ⟨by omega, by omega⟩) ?_
      refine xq rfl ?_
      refine xd [0, 1, 2, 6, 10, 16] rfl ?_
      exact ih (i + 1) _ _ ⟨rfl, rfl, rfl, rfl, trivial⟩ ⟨hin, hg, eg⟩ (by omega)
  · obtain rfl : i = n := by omega
    rw [List.take_of_length_le (by omega), List.drop_of_length_le (by omega), List.append_nil] at hg
    refine G.exit rfl rfl ?_
    refine G.fall Tryd.func81 rfl ?_
    exact ⟨_, rfl, hg, eg⟩
end Go.Proofs.YtlegopbpofofgaaDoor
