/- What the proof of the statement leans on (part 14). -/
import Derived.Lib.Small
import Derived.Test.YteicdopggikieaaDoorQm

namespace Go.Proofs.YteicdopggikieaaDoor
open Go Go.Lw
set_option maxRecDepth 20000
theorem and15 {m : Nat} (h : m < 18446744073709551616) : IntKind.u64.wrap ((BitVec.ofInt IntKind.u64.bits (m : Int) &&& BitVec.ofInt IntKind.u64.bits 15).toNat : Nat) = ((m % 16 : Nat) : Int) := by
 have e1 : BitVec.ofInt IntKind.u64.bits (m : Int) = BitVec.ofNat 64 m := BitVec.ofInt_natCast 64 m
 have e2 : BitVec.ofInt IntKind.u64.bits 15 = BitVec.ofNat 64 15 := BitVec.ofInt_natCast 64 15
 have e3 : (BitVec.ofNat 64 m &&& BitVec.ofNat 64 15).toNat = m % 16 := by
  rw [BitVec.toNat_and, BitVec.toNat_ofNat, BitVec.toNat_ofNat, Nat.mod_eq_of_lt (by omega), Nat.mod_eq_of_lt (by omega)]
  exact Nat.and_two_pow_sub_one_eq_mod m 4
 rw [e1, e2]
 show IntKind.u64.wrap ((BitVec.ofNat 64 m &&& BitVec.ofNat 64 15).toNat : Int) = _
 rw [e3]
 have h8 : (2:Int) ^ 64 = 18446744073709551616 := rfl
 simp only [IntKind.wrap, IntKind.bits, IntKind.signed, h8, Bool.false_and, Bool.false_eq_true, if_false]
 omega
theorem shr4 (m : Nat) : (m : Int).fdiv (2 ^ min (4 : Int).toNat IntKind.u64.bits) = ((m / 16 : Nat) : Int) := by
 show (m : Int).fdiv 16 = _
 rw [Int.fdiv_eq_ediv_of_nonneg _ (by decide)]
 omega
def alphaB : By := [48, 49, 50, 51, 52, 53, 54, 55, 56, 57, 97, 98, 99, 100, 101, 102, 103, 104, 105, 106, 107, 108, 109, 110, 111, 112, 113, 114, 115, 116, 117, 118, 119, 120, 121, 122]
theorem alpha_dig : ∀ d, d < 16 → alphaB[d]? = some (digP d) := by decide
abbrev rowB (i : Nat) (suf : By) : List Value := List.replicate i (Value.int .u8 0) ++ suf.map fun b => Value.int .u8 b.toNat
theorem rowB_set {i : Nat} {suf : By} (b : UInt8) (hi : 0 < i) : (rowB i suf).set (i - 1) (.int .u8 b.toNat) = rowB (i - 1) (b :: suf) := by
 obtain ⟨j, rfl⟩ : ∃ j, i = j + 1 := ⟨i - 1, by omega⟩
 rw [Nat.add_sub_cancel]
 unfold rowB
 rw [List.replicate_succ', List.append_assoc, List.set_append_right _ _ (by simp)]
 simp
theorem rowB_tail {h : Heap} {b t i m : Nat} {suf : By} (k : Blk h b t (rowB i suf)) (hm : i + suf.length = m) (hb : m ≤ maxLen) : SlR .byte h (fun _ => False) (.slice (partAddr (some ⟨b, 0, none⟩) i 1 m) (m - i) (m - i)) suf := by
 refine ⟨_, _, _, rfl, by omega, Nat.le_refl _, by omega, fun j x hx => ?_⟩
 have hj := (List.getElem?_eq_some_iff.1 hx).1
 refine ⟨b, i, [.int .u8 x.toNat], ?_, fun k => k, ?_, rfl⟩
 · unfold partAddr
   rw [if_neg (by omega)]
   simp [Addr.add_mid]
 · refine k.part _ (fun p v hv => ?_)
   cases p with
   | succ p => simp at hv
   | zero =>
    cases hv
    show (rowB i suf)[i + j * 1 + 0]? = _
    unfold rowB
    rw [List.getElem?_append_right (by simp)]
    simp [hx]
theorem fb_calls {h : Heap} (hT : TzAt h) (n : Nat) (hn : n < 68719476736) (ng : Bool) (u : Int) (hu : (if ng = true then IntKind.u64.wrap (0 - u) else u) = n) :
 CallsH Tryd.prog 79 #[.slice none 0 0, .int .u64 u, .int .i64 16, .bool ng, .bool false] h (Ret fun r h' => r = .tuple #[.slice none 0 0, .string (bs (if ng = true then 45 :: hexP n else hexP n))] ∧ Ext0 h h') := by
 have hal : ∀ d, d < 16 → (bs alphaB).data[d]? = some (digP d) := fun d hd => bs_at (alpha_dig d hd)
 refine CallsH.of Tryd.func79 rfl rfl ?_
 refine xrd Tryd.func79 2 [0, 1, 2, 3, 4, 10, 11] rfl ?_
 refine G.seq rfl ?_
 refine G.seq rfl ?_
 refine G.regTo1 [(28, .bool false)] [(0, _), (1, _), (2, _), (3, _), (4, _), (10, _), (11, _)] ⟨rfl, rfl, rfl, rfl, rfl, rfl, rfl, trivial⟩ Tryd.func79 rfl ?_ ?_
 · refine xqm 3 rfl ?_
   refine RW.know (d := 21) (b' := false) rfl ((by decide)) ?_
   refine xqm 4 rfl ?_
   refine RW.know (d := 25) (b' := false) rfl ((by decide)) ?_
   refine xqm 3 rfl ?_
   refine RW.done rfl ?_
   exact ⟨rfl, at_bool rfl (by decide), rfl, rfl, rfl, rfl, rfl, rfl, rfl, trivial⟩
 · refine G.cond rfl rfl (fun hc => absurd hc (by decide)) (fun _ => ?_)
   refine G.skip rfl ?_
   refine xr Tryd.func79 rfl ?_
   refine xo rfl (OpX.allocN H.zr125) ?_
   rintro _ h1 ⟨rfl, k1, e1, z1⟩
   refine xd [0, 1, 2, 3, 4, 10, 11, 12, 28] rfl ?_
   refine xrd Tryd.func79 1 [0, 1, 2, 3, 4, 10, 11, 12, 13, 28] rfl ?_
   refine G.seq rfl ?_
   refine xrd Tryd.func79 1 [0, 1, 2, 3, 4, 10, 11, 12, 13, 28, 30] rfl ?_
   have k1 : Blk h1 h.size 125 (rowB 65 []) := k1
   have nrm : ∀ (_u : Unit) (h' : Heap) (ρ' : Env), Sub [(0, .slice none 0 0), (1, .int .u64 (n : Nat)), (2, .int .i64 16), (3, .bool ng), (4, .bool false), (10, .slice none 0 0), (12, .pointer (some ⟨h.size, 0, none⟩)), (13, .int .i64 65)] ρ' → h' = h1 → G Tryd.prog 79 Tryd.f79 [.code [1, 1, 1, 1, 1]] ρ' h' (Ret fun r h' => r = .tuple #[.slice none 0 0, .string (bs (if ng = true then 45 :: hexP n else hexP n))] ∧ Ext0 h h') := by
    rintro _u h1' ρ' hsub rfl
    refine G.sub (ρ' := [(0, .slice none 0 0), (1, .int .u64 (n : Nat)), (2, .int .i64 16), (3, .bool ng), (4, .bool false), (10, .slice none 0 0), (12, .pointer (some ⟨h.size, 0, none⟩)), (13, .int .i64 65)]) hsub ?_
    have hT1 := hT.ext0 e1
    refine G.seq rfl ?_
    refine xra Tryd.func79 1 rfl ?_
    refine xo rfl (OpX.call (vs := [_]) Tryd.func95 rfl H.nm95 rfl (CallsH.toX (pow_calls))) ?_
    rintro _ _ ⟨rfl, rfl⟩
    refine xd [0, 1, 2, 3, 4, 10, 12, 13, 34] rfl ?_
    refine G.cond rfl rfl (fun _ => ?_) (fun hc => absurd hc (by decide))
    refine xra Tryd.func79 1 rfl ?_
    refine xp rfl (OpP.convInt Tryd.underlying3 Tryd.underlying113 rfl) ?_
    refine xo rfl (OpX.call (vs := [_]) Tryd.func96 rfl H.nm96 rfl (CallsH.toX (tz_calls hT1))) ?_
    rintro _ _ ⟨rfl, rfl⟩
    refine xp rfl (OpP.convInt Tryd.underlying3 Tryd.underlying113 rfl) ?_
    refine xqd 1 [0, 1, 2, 3, 4, 10, 12, 13, 14, 34] rfl ?_
    refine xra Tryd.func79 1 rfl ?_
    refine xp rfl (OpP.convInt Tryd.underlying3 Tryd.underlying103 rfl) ?_
    refine xqd 1 [0, 1, 2, 3, 4, 10, 12, 13, 14, 15, 34] rfl ?_
    refine xra Tryd.func79 1 rfl ?_
    refine xp rfl (OpP.convInt Tryd.underlying3 Tryd.underlying113 rfl) ?_
    refine xp rfl (OpP.sub rfl rfl) ?_
    refine xqd 1 [0, 1, 2, 3, 4, 10, 12, 13, 14, 15, 16, 34] rfl ?_
    refine G.seq rfl ?_
    refine G.block rfl rfl ?_
    refine G.loop (σ := Nat × Nat × By) (fun q => [(0, .slice none 0 0), (1, .int .u64 (q.2.1 : Nat)), (3, .bool ng), (4, .bool false), (10, .slice none 0 0), (12, .pointer (some ⟨h.size, 0, none⟩)), (13, .int .i64 (q.1 : Nat)), (14, .int .u64 4), (15, .int .u64 16), (16, .int .u64 15)]) (fun q h' => (q.1 + q.2.2.length = 65 ∧ hexP n = hexP q.2.1 ++ q.2.2) ∧ Blk h' h.size 125 (rowB q.1 q.2.2) ∧ Ext0 h h') (fun q => q.2.1) ((65, n, [])) rfl ⟨rfl, rfl, rfl, rfl, rfl, rfl, rfl, rfl, rfl, rfl, trivial⟩ ⟨⟨rfl, by simp⟩, k1, e1⟩ ?_
    rintro ⟨i, m, suf⟩ g ⟨⟨hl, hx⟩, kg, eg⟩ ih
    try dsimp only
    dsimp only at hl hx kg
    have hlen : (hexP m).length + suf.length ≤ 9 := by
     have := hexP_len n 8 (by omega)
     rw [hx, List.length_append] at this; omega
    have hm9 : 1 ≤ (hexP m).length := by
     rcases hq : hexP m with _ | ⟨a, l⟩
     · exact absurd hq (hexP_ne m)
     · simp
    have hm : m < 68719476736 := by
     by_cases hb : m ≤ n
     · omega
     · have := valP_mono (hexP m) suf
       rw [← hx, val_hex, val_hex] at this; omega
    refine G.seq rfl ?_
    refine xrd Tryd.func79 3 [0, 1, 3, 4, 10, 12, 13, 14, 15, 16, 46] rfl ?_
    refine G.ite rfl rfl (fun hge => ?_) (fun hge => ?_)
    · have hge' : 16 ≤ m := by omega
      refine G.skip rfl ?_
      refine G.block rfl rfl ?_
      refine xra Tryd.func79 1 rfl ?_
      refine xp rfl (OpP.sub64 rfl rfl ⟨by omega, by omega⟩) ?_
      refine xqd 1 [0, 1, 3, 4, 10, 12, 13, 14, 15, 16, 46] rfl ?_
      refine xra Tryd.func79 3 rfl ?_
      refine xp rfl (OpP.bits_and rfl rfl) ?_
      refine xp rfl (OpP.indexStr Tryd.underlying9 rfl rfl (m % 16) (and15 (by omega)) (hal _ (Nat.mod_lt _ (by decide)))) ?_
      refine xp rfl (OpP.indexArr Tryd.underlying125 H.sz5 rfl rfl (i - 1) (by omega) (by omega)) ?_
      refine RW.op0 rfl rfl rfl (OpX.storeOne H.sz5 rfl rfl kg (by first | decide | exact of_decide_eq_true rfl | (simp; done) | (simp; omega)) rfl) ?_
      rintro _ g2 ⟨rfl, k2, x2, z2⟩
      refine xd [0, 1, 3, 4, 10, 12, 13, 14, 15, 16, 46] rfl ?_
      refine G.reg Tryd.func79 rfl ?_
      refine xqp 2 rfl rfl (OpP.shr rfl rfl (by omega)) ?_
      refine xqd 1 [0, 1, 3, 4, 10, 12, 13, 14, 15, 16, 46] rfl ?_
      refine G.blkEnd ?_
      rw [Nat.mul_one, Nat.zero_add, rowB_set _ (by omega)] at k2
      exact ih (i - 1, m / 16, digP (m % 16) :: suf) _ _ ⟨rfl, congrArg (fun x : Int => some (Value.int .u64 x)) (shr4 m), rfl, rfl, rfl, rfl, congrArg (fun x : Int => some (Value.int .i64 x)) (show (i : Int) - 1 = ((i - 1 : Nat) : Int) by omega), rfl, rfl, rfl, trivial⟩ ⟨⟨by simp only [List.length_cons]; omega, by rw [hx, hexP_step hge', List.append_assoc]; rfl⟩, k2, Ext0.only eg x2 (Nat.le_refl _)⟩ (by show m / 16 < m; omega)
    · have hlt' : m < 16 := by omega
      refine G.exit rfl rfl ?_
      refine xra Tryd.func79 1 rfl ?_
      refine xp rfl (OpP.sub64 rfl rfl ⟨by omega, by omega⟩) ?_
      refine xqd 1 [0, 1, 3, 4, 10, 12, 13, 14, 15, 16, 46] rfl ?_
      refine G.reg Tryd.func79 rfl ?_
      refine xqp 2 rfl rfl (OpP.indexStr Tryd.underlying9 rfl rfl m rfl (hal _ hlt')) ?_
      refine xp rfl (OpP.indexArr Tryd.underlying125 H.sz5 rfl rfl (i - 1) (by omega) (by omega)) ?_
      refine RW.op0 rfl rfl rfl (OpX.storeOne H.sz5 rfl rfl kg (by first | decide | exact of_decide_eq_true rfl | (simp; done) | (simp; omega)) rfl) ?_
      rintro _ g2 ⟨rfl, k2, x2, z2⟩
      refine xd [0, 1, 3, 4, 10, 12, 13, 14, 15, 16, 46] rfl ?_
      refine G.seq rfl ?_
      refine xrd Tryd.func79 1 [0, 1, 3, 4, 10, 12, 13, 14, 15, 16, 46, 89] rfl ?_
      rw [Nat.mul_one, Nat.zero_add, rowB_set _ (by omega), ← List.singleton_append, ← hexP_one hlt', ← hx] at k2
      have e2 := Ext0.only eg x2 (Nat.le_refl _)
      have hi : i - 1 + (hexP n).length = 65 := by rw [hx, hexP_one hlt', List.length_append]; simp only [List.length_singleton]; omega
      refine G.cond rfl rfl (fun hng => ?_) (fun hng => ?_)
      · refine xra Tryd.func79 1 rfl ?_
        refine xp rfl (OpP.sub64 rfl rfl ⟨by omega, by omega⟩) ?_
        refine xqd 1 [0, 1, 3, 4, 10, 12, 13, 14, 15, 16, 46, 89] rfl ?_
        refine G.reg Tryd.func79 rfl ?_
        refine xqp 1 rfl rfl (OpP.indexArr Tryd.underlying125 H.sz5 rfl rfl (i - 1 - 1) (by omega) (by omega)) ?_
        refine RW.op0 rfl rfl rfl (OpX.storeOne H.sz5 rfl rfl k2 (by first | decide | exact of_decide_eq_true rfl | (simp; done) | (simp; omega)) rfl) ?_
        rintro _ g3 ⟨rfl, k3, x3, z3⟩
        refine xd [0, 1, 3, 4, 10, 12, 13, 14, 15, 16, 46, 89] rfl ?_
        refine G.seq rfl ?_
        refine xrd Tryd.func79 1 [0, 1, 3, 4, 10, 12, 13, 14, 15, 16, 46, 89, 94] rfl ?_
        rw [Nat.mul_one, Nat.zero_add] at k3
        have k3 : Blk g3 h.size 125 (rowB (i - 1 - 1) (45 :: hexP n)) := by rw [← rowB_set _ (by omega)]; exact k3
        refine G.cond rfl rfl (fun hc => absurd hc Bool.false_ne_true) (fun _ => ?_)
        refine G.skip rfl ?_
        refine xra Tryd.func79 1 rfl ?_
        refine xp rfl (OpP.sliceArrLo Tryd.underlying125 H.sz5 rfl rfl (i - 1 - 1) (by omega) (by omega)) ?_
        refine xp rfl (OpP.convBytes Tryd.underlying83 Tryd.underlying5 Tryd.underlying9 rfl (rowB_tail k3 (by simp only [List.length_cons]; omega) (by decide))) ?_
        refine xqd 1 [0, 1, 3, 4, 10, 11, 12, 13, 14, 15, 16, 46, 89, 94] rfl ?_
        refine G.ret Tryd.func79 rfl rfl ?_
        exact ⟨_, rfl, by rw [hng]; rfl, Ext0.only e2 x3 (Nat.le_refl _)⟩
      · refine G.skip rfl ?_
        refine G.seq rfl ?_
        refine xrd Tryd.func79 1 [0, 1, 3, 4, 10, 12, 13, 14, 15, 16, 46, 89, 94] rfl ?_
        refine G.cond rfl rfl (fun hc => absurd hc Bool.false_ne_true) (fun _ => ?_)
        refine G.skip rfl ?_
        refine xra Tryd.func79 1 rfl ?_
        refine xp rfl (OpP.sliceArrLo Tryd.underlying125 H.sz5 rfl rfl (i - 1) (by omega) (by omega)) ?_
        refine xp rfl (OpP.convBytes Tryd.underlying83 Tryd.underlying5 Tryd.underlying9 rfl (rowB_tail k2 hi (by decide))) ?_
        refine xqd 1 [0, 1, 3, 4, 10, 11, 12, 13, 14, 15, 16, 46, 89, 94] rfl ?_
        refine G.ret Tryd.func79 rfl rfl ?_
        exact ⟨_, rfl, by rw [hng]; rfl, e2⟩
   refine G.cond rfl rfl (fun hng => ?_) (fun hng => ?_)
   · rw [if_pos hng] at hu
     refine G.reg Tryd.func79 rfl ?_
     refine xqp 1 rfl rfl (OpP.neg rfl) ?_
     refine xqd 1 [0, 1, 2, 3, 4, 10, 11, 12, 13, 28, 30] rfl ?_
     exact nrm () _ _ ⟨rfl, by rw [hu]; rfl, rfl, rfl, rfl, rfl, rfl, rfl, trivial⟩ rfl
   · have hu : u = n := by simpa [hng] using hu
     subst hu
     refine G.skip rfl ?_
     exact nrm () _ _ ⟨rfl, rfl, rfl, rfl, rfl, rfl, rfl, rfl, trivial⟩ rfl
theorem wrap_u64 {i : Int} (h : 0 ≤ i ∧ i < 18446744073709551616) : IntKind.u64.wrap i = i := by
 have h8 : (2:Int) ^ 64 = 18446744073709551616 := rfl
 simp only [IntKind.wrap, IntKind.bits, IntKind.signed, h8, Bool.false_and, Bool.false_eq_true, if_false]
 omega
theorem wrap_u64n {i : Int} (h : -18446744073709551616 ≤ i ∧ i < 0) : IntKind.u64.wrap i = i + 18446744073709551616 := by
 have h8 : (2:Int) ^ 64 = 18446744073709551616 := rfl
 simp only [IntKind.wrap, IntKind.bits, IntKind.signed, h8, Bool.false_and, Bool.false_eq_true, if_false]
 omega
theorem fmtI_calls {h : Heap} (hT : TzAt h) (r : Int) (hr : -2147483648 ≤ r ∧ r < 2147483648) : CallsH Tryd.prog 66 #[.int .i64 r, .int .i64 16] h (Ret fun v h' => v = .string (bs (hexI r)) ∧ Ext0 h h') := by
 have hu : (if decide (r < 0) = true then IntKind.u64.wrap (0 - IntKind.u64.wrap r) else IntKind.u64.wrap r) = ((if r < 0 then (-r).toNat else r.toNat : Nat) : Int) := by
  by_cases h0 : r < 0
  · rw [if_pos (by simpa using h0), if_pos h0, wrap_u64n (i := r) (by omega), wrap_u64n (by omega)]; omega
  · rw [if_neg (by simpa using h0), if_neg h0, wrap_u64 (by omega)]; omega
 have he : (if decide (r < 0) = true then 45 :: hexP (if r < 0 then (-r).toNat else r.toNat) else hexP (if r < 0 then (-r).toNat else r.toNat)) = hexI r := by
  unfold hexI
  by_cases h0 : r < 0
  · simp [h0]
  · simp [h0]
 refine CallsH.of Tryd.func66 rfl rfl ?_
 refine xrd Tryd.func66 1 [0, 1, 4] rfl ?_
 refine G.seq rfl ?_
 refine xrd Tryd.func66 2 [0, 1, 4, 11] rfl ?_
 refine G.cond rfl rfl (fun hc => absurd hc (by decide)) (fun _ => ?_)
 refine G.skip rfl ?_
 refine xra Tryd.func66 1 rfl ?_
 refine xp rfl (OpP.convInt Tryd.underlying2 Tryd.underlying103 rfl) ?_
 refine xqm 3 rfl ?_
 refine xo rfl (OpX.call (vs := [_, _, _, _, _]) Tryd.func79 rfl H.nm79 rfl (CallsH.toX (fb_calls hT _ (by split <;> omega) (decide (r < 0)) _ hu))) ?_
 rintro _ h1 ⟨rfl, e1⟩
 refine xqd 5 [0, 1, 4, 9, 11] rfl ?_
 refine xrd Tryd.func66 2 [0, 1, 4, 9, 11] rfl ?_
 refine G.ret Tryd.func66 rfl rfl ?_
 rw [he]
 exact ⟨_, rfl, rfl, e1⟩
theorem fmt_calls {h : Heap} (hT : TzAt h) (r : Int) (hr : -2147483648 ≤ r ∧ r < 2147483648) : CallsH Tryd.prog 55 #[.int .i64 r, .int .i64 16] h (Ret fun v h' => v = .string (bs (hexI r)) ∧ Ext0 h h') := by
 refine CallsH.of Tryd.func55 rfl rfl ?_
 refine xrd Tryd.func55 1 [0, 1, 4] rfl ?_
 refine xra Tryd.func55 2 rfl ?_
 refine xo rfl (OpX.call (vs := [_, _]) Tryd.func66 rfl H.nm66 rfl (CallsH.toX (fmtI_calls hT r hr))) ?_
 rintro _ h1 ⟨rfl, e1⟩
 refine xqd 1 [0, 1, 4] rfl ?_
 refine G.ret Tryd.func55 rfl rfl ?_
 exact ⟨_, rfl, rfl, e1⟩
def lowP (c : Int) : Int := IntKind.u8.wrap (BitVec.ofInt IntKind.u8.bits c ||| BitVec.ofInt IntKind.u8.bits 32).toNat
theorem low_calls {h : Heap} (c : Int) : CallsH Tryd.prog 97 #[.int .u8 c] h (Ret fun r h' => r = .int .u8 (lowP c) ∧ h' = h) := by
 refine CallsH.of Tryd.func97 rfl rfl ?_
 refine xrd Tryd.func97 1 [0, 2] rfl ?_
 refine xra Tryd.func97 1 rfl ?_
 refine xp rfl (OpP.bits_or rfl rfl) ?_
 refine xqd 1 [0, 2] rfl ?_
 refine G.ret Tryd.func97 rfl rfl ?_
 exact ⟨_, rfl, rfl, rfl⟩
theorem u8_range (x : Int) : 0 ≤ IntKind.u8.wrap x ∧ IntKind.u8.wrap x < 256 := by
 have h8 : (2:Int) ^ 8 = 256 := rfl
 simp only [IntKind.wrap, IntKind.bits, IntKind.signed, h8, Bool.false_and, Bool.false_eq_true, if_false]
 omega
theorem hex_low : ∀ k, k < 16 → ¬ (48 ≤ (digP k).toNat ∧ (digP k).toNat ≤ 57) → (97 ≤ lowP (digP k).toNat ∧ lowP (digP k).toNat ≤ 122) ∧ IntKind.u8.wrap (IntKind.u8.wrap (lowP (digP k).toNat - 97) + 10) = valB (digP k) := by decide +kernel
def errI (k : Int) : Value := .iface 110 (.int .i64 k)
def PuR (s : By) (r : Value) : Prop := ∃ v e, r = .tuple #[.int .u64 v, e] ∧ (0 ≤ v ∧ v < 18446744073709551616) ∧ (e = .nilIface ∨ e = errI 1 ∨ e = errI 2) ∧ ∀ n, s = hexP n → n < 4294967296 → v = n ∧ e = .nilIface
theorem u64_of {m : Nat} {d : Int} (hm : m < 4294967296) (hd : 0 ≤ d ∧ d < 256) : IntKind.u64.wrap ((m : Int) * IntKind.u64.wrap 16) = (m * 16 : Nat) ∧ IntKind.u64.wrap (((m * 16 : Nat) : Int) + IntKind.u64.wrap d) = (m * 16 + d.toNat : Nat) := by
 rw [wrap_u64 (i := 16) (by decide), wrap_u64 (i := d) (by omega), wrap_u64 (by omega), wrap_u64 (by omega)]
 constructor <;> omega
theorem pu_calls {h : Heap} (s : By) (hs : s.length ≤ 1000000) : CallsH Tryd.prog 81 #[.string (bs s), .int .i64 16, .int .i64 32] h (Ret fun r h' => PuR s r ∧ Ext0 h h') := by
 have hz := bs_size s
 refine CallsH.of Tryd.func81 rfl rfl ?_
 refine xrd Tryd.func81 2 [0, 1, 2, 6, 7] rfl ?_
 refine G.seq rfl ?_
 refine xra Tryd.func81 1 rfl ?_
 refine xp rfl (OpP.eqlStr rfl rfl) ?_
 refine xd [0, 1, 2, 6, 7, 19] rfl ?_
 refine G.ite rfl rfl (fun h0 => ?_) (fun h0 => ?_)
 · have h0 := bs_inj (m := []) h0
   refine xr Tryd.func81 rfl ?_
   refine xp rfl (OpP.makeInterface H.cn110 rfl) ?_
   refine xqd 2 [0, 1, 2, 6, 7, 19] rfl ?_
   refine G.ret Tryd.func81 rfl rfl ?_
   exact ⟨_, rfl, ⟨0, _, rfl, by decide, .inr (.inr rfl), fun n e => absurd (e.symm.trans h0) (hexP_ne n)⟩, Ext.refl _ _⟩
 · refine G.skip rfl ?_
   refine xrd Tryd.func81 3 [0, 1, 2, 6, 7, 8, 19] rfl ?_
   refine xrd Tryd.func81 2 [0, 1, 2, 6, 7, 8, 9, 19] rfl ?_
   refine G.seq rfl ?_
   refine G.block rfl rfl ?_
   refine G.seq rfl ?_
   refine G.regTo1 [(25, .bool true)] [(0, _), (1, _), (2, _), (6, _), (7, _), (8, _), (9, _), (19, _)] ⟨rfl, rfl, rfl, rfl, rfl, rfl, rfl, rfl, trivial⟩ Tryd.func81 rfl ?_ ?_
   · refine xqm 3 rfl ?_
     refine RW.know (d := 28) (b' := true) rfl ((by decide)) ?_
     refine xqm 4 rfl ?_
     refine RW.done rfl ?_
     exact ⟨rfl, at_bool rfl (by decide), rfl, rfl, rfl, rfl, rfl, rfl, rfl, rfl, trivial⟩
   · refine G.cond rfl rfl (fun _ => ?_) (fun hc => absurd hc (by decide))
     refine G.skip rfl ?_
     refine G.blkEnd ?_
     refine G.seq rfl ?_
     refine xrd Tryd.func81 2 [0, 1, 2, 6, 7, 8, 9, 19, 25, 77] rfl ?_
     refine G.cond rfl rfl (fun hc => absurd hc (by decide)) (fun _ => ?_)
     refine G.seq rfl ?_
     refine G.regTo1 [(83, .bool false)] [(0, _), (1, _), (2, _), (6, _), (7, _), (8, _), (9, _), (19, _), (25, _), (77, _)] ⟨rfl, rfl, rfl, rfl, rfl, rfl, rfl, rfl, rfl, rfl, trivial⟩ Tryd.func81 rfl ?_ ?_
     · refine xqm 3 rfl ?_
       refine RW.know (d := 80) (b' := false) rfl ((by decide)) ?_
       refine xqm 3 rfl ?_
       refine RW.done rfl ?_
       exact ⟨rfl, at_bool rfl (by decide), rfl, rfl, rfl, rfl, rfl, rfl, rfl, rfl, rfl, rfl, trivial⟩
     · refine G.cond rfl rfl (fun hc => absurd hc (by decide)) (fun _ => ?_)
       refine G.skip rfl ?_
       refine xrd Tryd.func81 1 [0, 1, 2, 6, 7, 8, 9, 10, 19, 25, 77, 83] rfl ?_
       refine G.seq rfl ?_
       refine xrd Tryd.func81 1 [0, 1, 2, 6, 7, 8, 9, 10, 19, 25, 77, 83, 85] rfl ?_
       refine G.block rfl rfl ?_
       refine xrd Tryd.func81 2 [0, 1, 2, 6, 7, 8, 9, 10, 19, 25, 77, 83, 85, 90] rfl ?_
       refine G.cond rfl rfl (fun hc => absurd hc (by decide)) (fun _ => ?_)
       refine xrd Tryd.func81 2 [0, 1, 2, 6, 7, 8, 9, 10, 19, 25, 77, 83, 85, 90, 92] rfl ?_
       refine G.cond rfl rfl (fun _ => ?_) (fun hc => absurd hc (by decide))
       refine G.reg Tryd.func81 rfl ?_
       refine xqd 1 [0, 1, 2, 6, 7, 8, 9, 10, 19, 25, 77, 83, 85, 90, 92] rfl ?_
       refine G.blkEnd ?_
       refine xra Tryd.func81 1 rfl ?_
       refine xp rfl (OpP.convInt Tryd.underlying3 Tryd.underlying113 rfl) ?_
       refine xp rfl (OpP.shl rfl rfl (by decide)) ?_
       refine xp rfl (OpP.sub rfl rfl) ?_
       refine xqd 1 [0, 1, 2, 6, 7, 8, 9, 10, 11, 19, 25, 77, 83, 85, 90, 92] rfl ?_
       refine xrd Tryd.func81 1 [0, 1, 2, 6, 7, 8, 9, 10, 11, 12, 19, 25, 77, 83, 85, 90, 92] rfl ?_
       refine xrd Tryd.func81 1 [0, 1, 2, 6, 7, 8, 9, 10, 11, 12, 13, 19, 25, 77, 83, 85, 90, 92] rfl ?_
       refine G.seq rfl ?_
       refine xra Tryd.func81 1 rfl ?_
       refine xo rfl (OpX.strBytes Tryd.underlying9 Tryd.underlying83 Tryd.underlying5 rfl (by rw [hz]; simp only [maxLen]; omega)) ?_
       rintro v1 h1 ⟨hv, e1⟩
       rw [bs_list] at hv
       obtain ⟨oa, nn, cc, rfl, hsl⟩ := hv.open
       have hnn := hsl.len
       subst hnn
       refine xp rfl (OpP.lenSlice Tryd.underlying83 rfl) ?_
       refine xqd 1 [0, 1, 2, 6, 7, 8, 9, 10, 11, 12, 13, 19, 25, 77, 83, 85, 90, 92, 99, 100, 101] rfl ?_
       refine G.block rfl rfl ?_
       refine G.loop (σ := Nat × Nat) (fun q => [(0, .string (bs s)), (1, .int .i64 16), (2, .int .i64 32), (6, .int .u64 0), (7, .nilIface), (8, .bool false), (10, .int .u64 1152921504606846976), (11, .int .u64 4294967295), (12, .bool false), (13, .int .u64 (q.2 : Nat)), (99, .slice oa s.length cc), (100, .int .i64 (s.length : Nat)), (101, .int .i64 (q.1 : Nat))]) (fun q h' => (q.1 ≤ s.length ∧ q.2 < 4294967296 ∧ ∀ n, s = hexP n → q.2 = valP (s.take q.1)) ∧ h' = h1) (fun q => s.length - q.1) ((0, 0)) rfl ⟨rfl, rfl, rfl, rfl, rfl, rfl, rfl, rfl, rfl, rfl, rfl, rfl, rfl, trivial⟩ ⟨⟨Nat.zero_le _, by decide, fun n e => rfl⟩, rfl⟩ ?_
       rintro ⟨i, m⟩ g ⟨⟨hi, hm, hvm⟩, hg⟩ ih
       try dsimp only
       subst hg
       dsimp only at hi hm hvm
       refine xrd Tryd.func81 1 [0, 1, 2, 6, 7, 8, 10, 11, 12, 13, 99, 100, 101, 102] rfl ?_
       refine G.seq rfl ?_
       refine G.ite rfl rfl (fun hlt => ?_) (fun hlt => ?_)
       · have hil : i < s.length := by omega
         obtain ⟨c, hc⟩ : ∃ c, s[i]? = some c := ⟨_, List.getElem?_eq_getElem hil⟩
         have hcl := c.toNat_lt
         have hcd : ∀ n, s = hexP n → ∃ k, k < 16 ∧ c = digP k := fun n e => hexP_dig n c (by rw [← e]; exact List.mem_of_getElem? hc)
         have htk : valP (s.take (i + 1)) = 16 * valP (s.take i) + valB c := by rw [List.take_add_one, hc]; exact valP_push _ _
         obtain ⟨b, o, y, ha, _, hy, hrow⟩ := hsl.at hil
         rw [hc] at hy
         cases hy
         refine G.skip rfl ?_
         refine G.seq rfl ?_
         refine G.block rfl rfl ?_
         refine xr Tryd.func81 rfl ?_
         refine xp rfl (OpP.indexSlice Tryd.underlying83 H.sz5 rfl rfl i rfl ha (by omega)) ?_
         refine xp rfl (OpP.load H.ag5 rfl hrow) ?_
         refine xqd 1 [0, 1, 2, 6, 7, 8, 10, 11, 12, 13, 15, 99, 100, 101, 102] rfl ?_
         refine xrd Tryd.func81 1 [0, 1, 2, 6, 7, 8, 10, 11, 12, 13, 15, 16, 99, 100, 101, 102] rfl ?_
         refine G.seq rfl ?_
         refine G.block rfl rfl ?_
         refine G.seq rfl ?_
         have nx : ∀ (d : Int) (h' : Heap) (ρ' : Env), Sub [(0, .string (bs s)), (1, .int .i64 16), (2, .int .i64 32), (6, .int .u64 0), (7, .nilIface), (8, .bool false), (10, .int .u64 1152921504606846976), (11, .int .u64 4294967295), (12, .bool false), (13, .int .u64 (m : Nat)), (16, .int .u8 d), (99, .slice oa s.length cc), (100, .int .i64 (s.length : Nat)), (101, .int .i64 (i : Nat))] ρ' → h' = g → (0 ≤ d ∧ d < 256) → (∀ n, s = hexP n → d = valB c) → G Tryd.prog 81 Tryd.f81 [.code [1, 1, 1, 0, 0, 1, 1, 0, 0, 1, 0, 1, 1, 1, 1, 1, 1, 1, 1, 1, 1, 1], .blk 4, .code [1, 1, 1, 0, 0, 1, 0, 1, 1, 1, 1, 1, 1, 1, 1, 1, 1, 1], .loop [0, 0, 1, 0, 1, 1, 1, 1, 1, 1, 1, 1, 1, 1, 1], .blk 3, .code [1, 1, 1, 1, 1, 1, 1, 1, 1, 1, 1, 1]] ρ' h' (Ret fun r h' => PuR s r ∧ Ext0 h h') := by
          rintro d h1' ρ' hsub rfl hd hdv
          refine G.sub (ρ' := [(0, .string (bs s)), (1, .int .i64 16), (2, .int .i64 32), (6, .int .u64 0), (7, .nilIface), (8, .bool false), (10, .int .u64 1152921504606846976), (11, .int .u64 4294967295), (12, .bool false), (13, .int .u64 (m : Nat)), (16, .int .u8 d), (99, .slice oa s.length cc), (100, .int .i64 (s.length : Nat)), (101, .int .i64 (i : Nat))]) hsub ?_
          obtain ⟨w1, w2⟩ := u64_of hm hd
          have h16 : IntKind.u8.wrap 16 = 16 := wrap_u8 (by decide)
          refine G.seq rfl ?_
          refine xra Tryd.func81 2 rfl ?_
          refine xp rfl (OpP.convInt Tryd.underlying3 Tryd.underlying5 rfl) ?_
          refine xqd 1 [0, 1, 2, 6, 7, 8, 10, 11, 12, 13, 16, 99, 100, 101, 137] rfl ?_
          refine G.ite rfl rfl (fun hbig => ?_) (fun hbig => ?_)
          · refine xr Tryd.func81 rfl ?_
            refine xp rfl (OpP.makeInterface H.cn110 rfl) ?_
            refine xqd 2 [0, 1, 2, 6, 7, 8, 10, 11, 12, 13, 16, 99, 100, 101, 137] rfl ?_
            refine G.ret Tryd.func81 rfl rfl ?_
            exact ⟨_, rfl, ⟨0, _, rfl, by decide, .inr (.inr rfl), fun n e _ => by
             obtain ⟨k, hk, rfl⟩ := hcd n e
             have := hdv n e
             rw [val_dig hk] at this
             omega⟩, e1⟩
          · refine G.skip rfl ?_
            refine G.seq rfl ?_
            refine xrd Tryd.func81 3 [0, 1, 2, 6, 7, 8, 10, 11, 12, 13, 16, 99, 100, 101, 137, 141] rfl ?_
            refine G.cond rfl rfl (fun hc => absurd hc (by simp; omega)) (fun _ => ?_)
            refine G.skip rfl ?_
            refine xra Tryd.func81 2 rfl ?_
            refine xp rfl (OpP.convInt Tryd.underlying3 Tryd.underlying103 rfl) ?_
            refine xp rfl (OpP.mul rfl rfl) ?_
            refine xqd 1 [0, 1, 2, 6, 7, 8, 10, 11, 12, 13, 16, 99, 100, 101, 137, 141] rfl ?_
            refine xra Tryd.func81 2 rfl ?_
            refine xp rfl (OpP.convInt Tryd.underlying5 Tryd.underlying103 rfl) ?_
            refine xp rfl (OpP.add rfl rfl) ?_
            refine xqd 1 [0, 1, 2, 6, 7, 8, 10, 11, 12, 13, 16, 17, 99, 100, 101, 137, 141] rfl ?_
            refine G.seq rfl ?_
            refine G.seq rfl ?_
            rw [w1, w2]
            refine G.regTo1 [(159, .bool (decide (4294967295 < ((m * 16 + d.toNat : Nat) : Int))))] [(0, _), (1, _), (2, _), (6, _), (7, _), (8, _), (10, _), (11, _), (12, _), (13, _), (16, _), (17, _), (99, _), (100, _), (101, _), (137, _), (141, _)] ⟨rfl, rfl, rfl, rfl, rfl, rfl, rfl, rfl, rfl, rfl, rfl, rfl, rfl, rfl, rfl, rfl, rfl, trivial⟩ Tryd.func81 rfl ?_ ?_
            · refine xqm 4 rfl ?_
              refine RW.know (d := 155) (b' := false) rfl ((by simp; omega)) ?_
              refine xqm 4 rfl ?_
              refine RW.done rfl ?_
              exact ⟨rfl, at_bool rfl (by rfl), rfl, rfl, rfl, rfl, rfl, rfl, rfl, rfl, rfl, rfl, rfl, rfl, rfl, rfl, rfl, rfl, rfl, trivial⟩
            · refine G.ite rfl rfl (fun hov => ?_) (fun hov => ?_)
              · refine xra Tryd.func81 1 rfl ?_
                refine xp rfl (OpP.makeInterface H.cn110 rfl) ?_
                refine xqd 2 [0, 1, 2, 6, 7, 8, 10, 11, 12, 13, 16, 17, 99, 100, 101, 137, 141, 159] rfl ?_
                refine G.ret Tryd.func81 rfl rfl ?_
                exact ⟨_, rfl, ⟨4294967295, _, rfl, by decide, .inr (.inl rfl), fun n e hn => by
                 have h1 := valP_mono (s.take (i + 1)) (s.drop (i + 1))
                 rw [List.take_append_drop, htk, ← hvm n e] at h1
                 have h2 : valP s = n := by rw [e, val_hex]
                 have := hdv n e
                 exfalso
                 omega⟩, e1⟩
              · refine G.skip rfl ?_
                refine G.reg Tryd.func81 rfl ?_
                refine xqd 2 [0, 1, 2, 6, 7, 8, 10, 11, 12, 13, 16, 17, 99, 100, 101, 137, 141, 159] rfl ?_
                refine G.blkEnd ?_
                refine G.reg Tryd.func81 rfl ?_
                refine xp rfl (OpP.add64 rfl rfl ⟨by omega, by omega⟩) ?_
                refine xqd 1 [0, 1, 2, 6, 7, 8, 10, 11, 12, 13, 16, 17, 99, 100, 101, 137, 141, 159] rfl ?_
                exact ih (i + 1, m * 16 + d.toNat) _ _ ⟨rfl, rfl, rfl, rfl, rfl, rfl, rfl, rfl, rfl, rfl, rfl, rfl, rfl, trivial⟩ ⟨⟨by show i + 1 ≤ _; omega, by show m * 16 + d.toNat < _; omega, fun n e => by show m * 16 + d.toNat = valP (s.take (i + 1)); rw [htk, ← hvm n e]; have := hdv n e; omega⟩, rfl⟩ (by show s.length - (i + 1) < s.length - i; omega)
         refine G.regTo1 [(106, .bool false)] [(0, _), (1, _), (2, _), (6, _), (7, _), (8, _), (10, _), (11, _), (12, _), (13, _), (15, _), (16, _), (99, _), (100, _), (101, _), (102, _)] ⟨rfl, rfl, rfl, rfl, rfl, rfl, rfl, rfl, rfl, rfl, rfl, rfl, rfl, rfl, rfl, rfl, trivial⟩ Tryd.func81 rfl ?_ ?_
         · refine xqm 3 rfl ?_
           refine RW.split (d := 109) rfl (fun c95 => ?_) (fun c95 => ?_)
           · refine xqm 3 rfl ?_
             refine RW.done rfl ?_
             exact ⟨rfl, at_bool rfl (by rfl), rfl, rfl, rfl, rfl, rfl, rfl, rfl, rfl, rfl, rfl, rfl, rfl, rfl, rfl, rfl, rfl, trivial⟩
           · refine xqm 3 rfl ?_
             refine RW.done rfl ?_
             exact ⟨rfl, at_bool rfl (by rfl), rfl, rfl, rfl, rfl, rfl, rfl, rfl, rfl, rfl, rfl, rfl, rfl, rfl, rfl, rfl, rfl, trivial⟩
         · refine G.cond rfl rfl (fun hc => absurd hc (by decide)) (fun _ => ?_)
           refine G.seq rfl ?_
           refine G.regTo1 [(112, .bool (decide (48 ≤ c.toNat ∧ c.toNat ≤ 57)))] [(0, _), (1, _), (2, _), (6, _), (7, _), (8, _), (10, _), (11, _), (12, _), (13, _), (15, _), (16, _), (99, _), (100, _), (101, _), (102, _), (106, _)] ⟨rfl, rfl, rfl, rfl, rfl, rfl, rfl, rfl, rfl, rfl, rfl, rfl, rfl, rfl, rfl, rfl, rfl, trivial⟩ Tryd.func81 rfl ?_ ?_
           · refine xqm 3 rfl ?_
             refine RW.split (d := 115) rfl (fun c48 => ?_) (fun c48 => ?_)
             · have c48 := of_decide_eq_true c48
               refine xqm 4 rfl ?_
               refine RW.done rfl ?_
               exact ⟨rfl, at_bool rfl (by rw [decide_eq_decide]; omega), rfl, rfl, rfl, rfl, rfl, rfl, rfl, rfl, rfl, rfl, rfl, rfl, rfl, rfl, rfl, rfl, rfl, trivial⟩
             · have c48 := of_decide_eq_false c48
               refine xqm 4 rfl ?_
               refine RW.done rfl ?_
               exact ⟨rfl, at_bool rfl (by rw [eq_comm, decide_eq_false]; omega), rfl, rfl, rfl, rfl, rfl, rfl, rfl, rfl, rfl, rfl, rfl, rfl, rfl, rfl, rfl, rfl, rfl, trivial⟩
           · refine G.ite rfl rfl (fun hdg => ?_) (fun hdg => ?_)
             · refine G.reg Tryd.func81 rfl ?_
               refine xqp 1 rfl rfl (OpP.sub rfl rfl) ?_
               refine xqd 1 [0, 1, 2, 6, 7, 8, 10, 11, 12, 13, 15, 16, 99, 100, 101, 102, 106, 112] rfl ?_
               refine G.blkEnd ?_
               exact nx _ _ _ ⟨rfl, rfl, rfl, rfl, rfl, rfl, rfl, rfl, rfl, rfl, rfl, rfl, rfl, rfl, trivial⟩ rfl (u8_range _) (fun n e => by rw [wrap_u8 (by omega)]; unfold valB; rw [if_pos (by omega)]; omega)
             · refine G.seq rfl ?_
               refine G.regTo1 [(121, .bool (decide (97 ≤ lowP c.toNat ∧ lowP c.toNat ≤ 122)))] [(0, _), (1, _), (2, _), (6, _), (7, _), (8, _), (10, _), (11, _), (12, _), (13, _), (15, _), (16, _), (99, _), (100, _), (101, _), (102, _), (106, _), (112, _)] ⟨rfl, rfl, rfl, rfl, rfl, rfl, rfl, rfl, rfl, rfl, rfl, rfl, rfl, rfl, rfl, rfl, rfl, rfl, trivial⟩ Tryd.func81 rfl ?_ ?_
               · refine xqm 1 rfl ?_
                 refine xo rfl (OpX.call (vs := [_]) Tryd.func97 rfl H.nm97 rfl (CallsH.toX (low_calls _))) ?_
                 rintro _ _ ⟨rfl, rfl⟩
                 refine xqm 2 rfl ?_
                 refine RW.split (d := 125) rfl (fun c97 => ?_) (fun c97 => ?_)
                 · have c97 := of_decide_eq_true c97
                   refine xqm 1 rfl ?_
                   refine xo rfl (OpX.call (vs := [_]) Tryd.func97 rfl H.nm97 rfl (CallsH.toX (low_calls _))) ?_
                   rintro _ _ ⟨rfl, rfl⟩
                   refine xqm 3 rfl ?_
                   refine RW.done rfl ?_
                   exact ⟨rfl, at_bool rfl (by rw [decide_eq_decide]; omega), rfl, rfl, rfl, rfl, rfl, rfl, rfl, rfl, rfl, rfl, rfl, rfl, rfl, rfl, rfl, rfl, rfl, rfl, trivial⟩
                 · have c97 := of_decide_eq_false c97
                   refine xqm 5 rfl ?_
                   refine RW.done rfl ?_
                   exact ⟨rfl, at_bool rfl (by rw [eq_comm, decide_eq_false]; omega), rfl, rfl, rfl, rfl, rfl, rfl, rfl, rfl, rfl, rfl, rfl, rfl, rfl, rfl, rfl, rfl, rfl, rfl, trivial⟩
               · refine G.ite rfl rfl (fun hlo => ?_) (fun hlo => ?_)
                 · refine G.reg Tryd.func81 rfl ?_
                   refine xqm 1 rfl ?_
                   refine xo rfl (OpX.call (vs := [_]) Tryd.func97 rfl H.nm97 rfl (CallsH.toX (low_calls _))) ?_
                   rintro _ _ ⟨rfl, rfl⟩
                   refine xp rfl (OpP.sub rfl rfl) ?_
                   refine xp rfl (OpP.add rfl rfl) ?_
                   refine xqd 1 [0, 1, 2, 6, 7, 8, 10, 11, 12, 13, 15, 16, 99, 100, 101, 102, 106, 112, 121] rfl ?_
                   refine G.blkEnd ?_
                   exact nx _ _ _ ⟨rfl, rfl, rfl, rfl, rfl, rfl, rfl, rfl, rfl, rfl, rfl, rfl, rfl, rfl, trivial⟩ rfl (u8_range _) (fun n e => by obtain ⟨k, hk, rfl⟩ := hcd n e; exact (hex_low k hk hdg).2)
                 · refine xr Tryd.func81 rfl ?_
                   refine xp rfl (OpP.makeInterface H.cn110 rfl) ?_
                   refine xqd 2 [0, 1, 2, 6, 7, 8, 10, 11, 12, 13, 15, 16, 99, 100, 101, 102, 106, 112, 121] rfl ?_
                   refine G.ret Tryd.func81 rfl rfl ?_
                   exact ⟨_, rfl, ⟨0, _, rfl, by decide, .inr (.inr rfl), fun n e _ => by
                    obtain ⟨k, hk, rfl⟩ := hcd n e
                    exact absurd (hex_low k hk hdg).1 hlo⟩, e1⟩
       · have hie : i = s.length := by omega
         subst hie
         refine G.exit rfl rfl ?_
         refine G.seq rfl ?_
         refine G.seq rfl ?_
         refine G.regTo1 [(169, .bool false)] [(0, _), (1, _), (2, _), (6, _), (7, _), (8, _), (10, _), (11, _), (12, _), (13, _), (99, _), (100, _), (101, _), (102, _)] ⟨rfl, rfl, rfl, rfl, rfl, rfl, rfl, rfl, rfl, rfl, rfl, rfl, rfl, rfl, trivial⟩ Tryd.func81 rfl ?_ ?_
         · refine xqm 2 rfl ?_
           refine RW.know (d := 165) (b' := false) rfl ((by decide)) ?_
           refine xqm 4 rfl ?_
           refine RW.done rfl ?_
           exact ⟨rfl, at_bool rfl (by rfl), rfl, rfl, rfl, rfl, rfl, rfl, rfl, rfl, rfl, rfl, rfl, rfl, rfl, rfl, trivial⟩
         · refine G.cond rfl rfl (fun hc => absurd hc (by decide)) (fun _ => ?_)
           refine G.skip rfl ?_
           refine xrd Tryd.func81 3 [0, 1, 2, 6, 7, 8, 10, 11, 12, 13, 99, 100, 101, 102, 169] rfl ?_
           refine G.ret Tryd.func81 rfl rfl ?_
           exact ⟨_, rfl, ⟨m, _, rfl, by omega, .inl rfl, fun n e _ => ⟨by
            have := hvm n e
            rw [List.take_length, e, val_hex] at this
            omega, rfl⟩⟩, e1⟩
def PiR (s : By) (r : Value) : Prop := ∃ v e, r = .tuple #[.int .i64 v, e] ∧ (-9223372036854775808 ≤ v ∧ v < 9223372036854775808) ∧ (e = .nilIface ∨ e = errI 1 ∨ e = errI 2) ∧ ∀ n, s = hexP n → n < 2147483648 → v = n ∧ e = .nilIface
theorem i64_range (x : Int) : -9223372036854775808 ≤ IntKind.i64.wrap x ∧ IntKind.i64.wrap x < 9223372036854775808 := by
 have h8 : (2:Int) ^ 64 = 18446744073709551616 := rfl
 have h7 : (2:Int) ^ 63 = 9223372036854775808 := rfl
 simp only [IntKind.wrap, IntKind.bits, IntKind.signed, h8, h7, Bool.true_and]
 split <;> rename_i k <;> simp at k <;> omega
theorem wrap_i64 {i : Int} (h : -9223372036854775808 ≤ i ∧ i < 9223372036854775808) : IntKind.i64.wrap i = i := by
 have h8 : (2:Int) ^ 64 = 18446744073709551616 := rfl
 have h7 : (2:Int) ^ 63 = 9223372036854775808 := rfl
 simp only [IntKind.wrap, IntKind.bits, IntKind.signed, h8, h7, Bool.true_and]
 split <;> rename_i k <;> simp at k <;> omega
theorem cut31 : IntKind.u64.wrap (1 * 2 ^ min (IntKind.u64.wrap (32 - 1)).toNat IntKind.u64.bits) = 2147483648 := by decide +kernel
theorem hex_no : ∀ k, k < 16 → digP k ≠ 43 ∧ digP k ≠ 45 := by decide
theorem errInfo : ∃ i, Tryd.prog.info? 110 = some i ∧ i.comparable = true := ⟨_, rfl, rfl⟩
theorem pint_calls {h : Heap} (s : By) (hs : s.length ≤ 1000000) : CallsH Tryd.prog 68 #[.string (bs s), .int .i64 16, .int .i64 32] h (Ret fun r h' => PiR s r ∧ Ext0 h h') := by
 have hz := bs_size s
 obtain ⟨ei, hei, hec⟩ := errInfo
 refine CallsH.of Tryd.func68 rfl rfl ?_
 refine xrd Tryd.func68 2 [0, 1, 2, 6, 7] rfl ?_
 refine G.seq rfl ?_
 refine xra Tryd.func68 1 rfl ?_
 refine xp rfl (OpP.eqlStr rfl rfl) ?_
 refine xd [0, 1, 2, 6, 7, 13] rfl ?_
 refine G.ite rfl rfl (fun h0 => ?_) (fun h0 => ?_)
 · have h0 := bs_inj (m := []) h0
   refine xr Tryd.func68 rfl ?_
   refine xp rfl (OpP.makeInterface H.cn110 rfl) ?_
   refine xqd 2 [0, 1, 2, 6, 7, 13] rfl ?_
   refine G.ret Tryd.func68 rfl rfl ?_
   exact ⟨_, rfl, ⟨0, _, rfl, by decide, .inr (.inr rfl), fun n e => absurd (e.symm.trans h0) (hexP_ne n)⟩, Ext.refl _ _⟩
 · have h0' : s ≠ [] := fun e => h0 (by rw [e]; rfl)
   obtain ⟨c, t, rfl⟩ : ∃ c t, s = c :: t := by cases s with | nil => exact absurd rfl h0' | cons c t => exact ⟨c, t, rfl⟩
   have hcd : ∀ n, c :: t = hexP n → ∃ k, k < 16 ∧ c = digP k := fun n e => hexP_dig n c (by rw [← e]; exact List.mem_cons_self)
   have hcl := c.toNat_lt
   simp only [List.length_cons] at hs hz
   refine G.skip rfl ?_
   refine xrd Tryd.func68 1 [0, 1, 2, 6, 7, 8, 13] rfl ?_
   refine G.seq rfl ?_
   refine xra Tryd.func68 1 rfl ?_
   refine xp rfl (OpP.indexStr Tryd.underlying9 rfl rfl 0 rfl (bs_at (l := c :: t) rfl)) ?_
   refine xd [0, 1, 2, 6, 7, 8, 13, 16] rfl ?_
   refine G.block rfl rfl ?_
   refine xrd Tryd.func68 2 [0, 1, 2, 6, 7, 8, 13, 16, 17] rfl ?_
   have par : ∀ (s' : By) (ng : Bool) (h' : Heap) (ρ' : Env), Sub [(0, .string (bs s')), (1, .int .i64 16), (2, .int .i64 32), (6, .int .i64 0), (7, .nilIface), (8, .bool ng)] ρ' → h' = h → s'.length ≤ 1000000 → (∀ n, c :: t = hexP n → s' = c :: t ∧ ng = false) → G Tryd.prog 68 Tryd.f68 [.code [1, 1, 1, 1]] ρ' h' (Ret fun r h' => PiR (c :: t) r ∧ Ext0 h h') := by
    rintro s' ng h1' ρ' hsub rfl hs' hhx
    refine G.sub (ρ' := [(0, .string (bs s')), (1, .int .i64 16), (2, .int .i64 32), (6, .int .i64 0), (7, .nilIface), (8, .bool ng)]) hsub ?_
    refine xrd Tryd.func68 1 [0, 1, 2, 6, 7, 8, 9] rfl ?_
    refine xra Tryd.func68 3 rfl ?_
    refine xo rfl (OpX.call (vs := [_, _, _]) Tryd.func81 rfl H.nm81 rfl (CallsH.toX (pu_calls s' hs'))) ?_
    rintro _ h1 ⟨⟨v, e, rfl, hv, he, hvx⟩, e1⟩
    refine xqd 5 [0, 1, 2, 6, 7, 8, 9] rfl ?_
    refine G.seq rfl ?_
    refine G.seq rfl ?_
    have hfin : ∀ n, c :: t = hexP n → n < 2147483648 → ng = false ∧ v = n ∧ e = .nilIface := fun n q hn => ⟨(hhx n q).2, hvx n ((hhx n q).1.trans q) (by omega)⟩
    obtain ⟨bb, hbb⟩ : ∃ bb : Bool, (e = .nilIface ∧ bb = false) ∨ (e = errI 1 ∧ bb = false) ∨ (e = errI 2 ∧ bb = true) := by
     rcases he with k | k | k
     · exact ⟨_, .inl ⟨k, rfl⟩⟩
     · exact ⟨_, .inr (.inl ⟨k, rfl⟩)⟩
     · exact ⟨_, .inr (.inr ⟨k, rfl⟩)⟩
    refine G.regTo1 [(38, .bool bb)] [(0, _), (1, _), (2, _), (6, _), (7, _), (8, _), (9, _)] ⟨rfl, rfl, rfl, rfl, rfl, rfl, rfl, trivial⟩ Tryd.func68 rfl ?_ ?_
    · rcases hbb with ⟨rfl, rfl⟩ | hbb
      · refine xqp 1 rfl rfl (OpP.neqIface Tryd.underlying87 rfl (.inl rfl)) ?_
        refine xqm 1 rfl ?_
        refine RW.know (d := 34) (b' := false) rfl (rfl) ?_
        refine xqm 4 rfl ?_
        refine RW.done rfl ?_
        exact ⟨rfl, at_bool rfl (by rfl), rfl, rfl, rfl, rfl, rfl, rfl, rfl, trivial⟩
      · rcases hbb with ⟨rfl, rfl⟩ | ⟨rfl, rfl⟩
        · refine xqp 1 rfl rfl (OpP.neqIface Tryd.underlying87 rfl (.inr ⟨_, _, rfl⟩)) ?_
          refine xqm 1 rfl ?_
          refine RW.know (d := 34) (b' := true) rfl (rfl) ?_
          refine xqp 1 rfl rfl (OpP.makeInterface H.cn110 rfl) ?_
          refine xp rfl (OpP.neqIfaceI Tryd.underlying87 Tryd.underlying110 hei hec rfl rfl) ?_
          refine xqm 1 rfl ?_
          refine RW.done rfl ?_
          exact ⟨rfl, at_bool rfl (by rfl), rfl, rfl, rfl, rfl, rfl, rfl, rfl, trivial⟩
        · refine xqp 1 rfl rfl (OpP.neqIface Tryd.underlying87 rfl (.inr ⟨_, _, rfl⟩)) ?_
          refine xqm 1 rfl ?_
          refine RW.know (d := 34) (b' := true) rfl (rfl) ?_
          refine xqp 1 rfl rfl (OpP.makeInterface H.cn110 rfl) ?_
          refine xp rfl (OpP.neqIfaceI Tryd.underlying87 Tryd.underlying110 hei hec rfl rfl) ?_
          refine xqm 1 rfl ?_
          refine RW.done rfl ?_
          exact ⟨rfl, at_bool rfl (by rfl), rfl, rfl, rfl, rfl, rfl, rfl, rfl, trivial⟩
    · refine G.cond rfl rfl (fun hb2 => ?_) (fun hb2 => ?_)
      · have he2 : e = errI 2 := by
         rcases hbb with ⟨_, k⟩ | ⟨_, k⟩ | ⟨k, _⟩
         · exact absurd (hb2.symm.trans k) (by decide)
         · exact absurd (hb2.symm.trans k) (by decide)
         · exact k
        refine xrd Tryd.func68 3 [0, 1, 2, 6, 7, 8, 9, 38] rfl ?_
        refine G.ret Tryd.func68 rfl rfl ?_
        exact ⟨_, rfl, ⟨0, _, rfl, by decide, he, fun n q hn => by have := (hfin n q hn).2.2; rw [he2] at this; cases this⟩, e1⟩
      · refine G.skip rfl ?_
        refine G.seq rfl ?_
        refine xrd Tryd.func68 2 [0, 1, 2, 6, 7, 8, 9, 38, 41] rfl ?_
        refine G.cond rfl rfl (fun hc => absurd hc (by decide)) (fun _ => ?_)
        refine G.skip rfl ?_
        refine xra Tryd.func68 1 rfl ?_
        refine xp rfl (OpP.sub64 rfl rfl ⟨by omega, by omega⟩) ?_
        refine xp rfl (OpP.convInt Tryd.underlying3 Tryd.underlying113 rfl) ?_
        refine xp rfl (OpP.shl rfl rfl (by decide)) ?_
        refine xqd 1 [0, 1, 2, 6, 7, 8, 9, 10, 38, 41] rfl ?_
        refine G.seq rfl ?_
        refine G.seq rfl ?_
        rw [cut31]
        refine G.regTo1 [(52, .bool (decide (ng = false ∧ 2147483648 ≤ v)))] [(0, _), (1, _), (2, _), (6, _), (7, _), (8, _), (9, _), (10, _), (38, _), (41, _)] ⟨rfl, rfl, rfl, rfl, rfl, rfl, rfl, rfl, rfl, rfl, trivial⟩ Tryd.func68 rfl ?_ ?_
        · refine xqm 3 rfl ?_
          refine RW.split (d := 48) rfl (fun c => ?_) (fun c => ?_)
          · have hng : ng = false := by simpa using c
            refine xqm 4 rfl ?_
            refine RW.done rfl ?_
            exact ⟨rfl, at_bool rfl (by rw [decide_eq_decide]; simp [hng]), rfl, rfl, rfl, rfl, rfl, rfl, rfl, rfl, rfl, rfl, trivial⟩
          · have hng : ng = true := by simpa using c
            refine xqm 4 rfl ?_
            refine RW.done rfl ?_
            exact ⟨rfl, at_bool rfl (by simp [hng]), rfl, rfl, rfl, rfl, rfl, rfl, rfl, rfl, rfl, rfl, trivial⟩
        · refine G.ite rfl rfl (fun hA => ?_) (fun hA => ?_)
          · refine xra Tryd.func68 1 rfl ?_
            refine xp rfl (OpP.sub rfl rfl) ?_
            refine xp rfl (OpP.convInt Tryd.underlying103 Tryd.underlying2 rfl) ?_
            refine xp rfl (OpP.makeInterface H.cn110 rfl) ?_
            refine xqd 2 [0, 1, 2, 6, 7, 8, 9, 10, 38, 41, 52] rfl ?_
            refine G.ret Tryd.func68 rfl rfl ?_
            exact ⟨_, rfl, ⟨_, _, rfl, i64_range _, .inr (.inl rfl), fun n q hn => by have := hfin n q hn; omega⟩, e1⟩
          · refine G.skip rfl ?_
            refine G.seq rfl ?_
            refine G.seq rfl ?_
            refine G.regTo1 [(62, .bool (decide (ng = true ∧ 2147483648 < v)))] [(0, _), (1, _), (2, _), (6, _), (7, _), (8, _), (9, _), (10, _), (38, _), (41, _), (52, _)] ⟨rfl, rfl, rfl, rfl, rfl, rfl, rfl, rfl, rfl, rfl, rfl, trivial⟩ Tryd.func68 rfl ?_ ?_
            · refine xqm 2 rfl ?_
              refine RW.split (d := 58) rfl (fun c => ?_) (fun c => ?_)
              · refine xqm 4 rfl ?_
                refine RW.done rfl ?_
                exact ⟨rfl, at_bool rfl (by rw [decide_eq_decide]; simp [show ng = true from c]), rfl, rfl, rfl, rfl, rfl, rfl, rfl, rfl, rfl, rfl, rfl, trivial⟩
              · refine xqm 4 rfl ?_
                refine RW.done rfl ?_
                exact ⟨rfl, at_bool rfl (by simp [show ng = false from c]), rfl, rfl, rfl, rfl, rfl, rfl, rfl, rfl, rfl, rfl, rfl, trivial⟩
            · refine G.ite rfl rfl (fun hB => ?_) (fun hB => ?_)
              · refine xra Tryd.func68 1 rfl ?_
                refine xp rfl (OpP.convInt Tryd.underlying103 Tryd.underlying2 rfl) ?_
                refine xp rfl (OpP.neg rfl) ?_
                refine xp rfl (OpP.makeInterface H.cn110 rfl) ?_
                refine xqd 2 [0, 1, 2, 6, 7, 8, 9, 10, 38, 41, 52, 62] rfl ?_
                refine G.ret Tryd.func68 rfl rfl ?_
                exact ⟨_, rfl, ⟨_, _, rfl, i64_range _, .inr (.inl rfl), fun n q hn => absurd ((hfin n q hn).1.symm.trans hB.1) (by decide)⟩, e1⟩
              · refine G.skip rfl ?_
                refine xra Tryd.func68 1 rfl ?_
                refine xp rfl (OpP.convInt Tryd.underlying103 Tryd.underlying2 rfl) ?_
                refine xqd 1 [0, 1, 2, 6, 7, 8, 9, 10, 11, 38, 41, 52, 62] rfl ?_
                refine G.seq rfl ?_
                refine xrd Tryd.func68 1 [0, 1, 2, 6, 7, 8, 9, 10, 11, 38, 41, 52, 62, 69] rfl ?_
                refine G.cond rfl rfl (fun hng => ?_) (fun hng => ?_)
                · refine G.reg Tryd.func68 rfl ?_
                  refine xqp 1 rfl rfl (OpP.neg rfl) ?_
                  refine xqd 1 [0, 1, 2, 6, 7, 8, 9, 10, 11, 38, 41, 52, 62, 69] rfl ?_
                  refine xrd Tryd.func68 3 [0, 1, 2, 6, 7, 8, 9, 10, 11, 38, 41, 52, 62, 69] rfl ?_
                  refine G.ret Tryd.func68 rfl rfl ?_
                  exact ⟨_, rfl, ⟨_, _, rfl, i64_range _, .inl rfl, fun n q hn => absurd ((hfin n q hn).1.symm.trans hng) (by decide)⟩, e1⟩
                · refine G.skip rfl ?_
                  refine xrd Tryd.func68 3 [0, 1, 2, 6, 7, 8, 9, 10, 11, 38, 41, 52, 62, 69] rfl ?_
                  refine G.ret Tryd.func68 rfl rfl ?_
                  exact ⟨_, rfl, ⟨_, _, rfl, i64_range _, .inl rfl, fun n q hn => ⟨by rw [(hfin n q hn).2.1, wrap_i64 (by omega)], rfl⟩⟩, e1⟩
   refine G.ite rfl rfl (fun h43 => ?_) (fun h43 => ?_)
   · refine G.reg Tryd.func68 rfl ?_
     refine xqp 1 rfl rfl (OpP.sliceStrLo Tryd.underlying9 rfl rfl 1 rfl (by rw [hz]; omega)) ?_
     refine xqd 1 [0, 1, 2, 6, 7, 8, 13, 16, 17] rfl ?_
     refine G.blkEnd ?_
     rw [bs_drop]
     exact par _ false _ _ ⟨rfl, rfl, rfl, rfl, rfl, rfl, trivial⟩ rfl (by simp only [List.drop_succ_cons, List.drop_zero]; omega) (fun n e => by obtain ⟨k, hk, rfl⟩ := hcd n e; exact absurd (u8_is (k := 43) (d := 43) rfl |>.1 h43) (hex_no k hk).1)
   · refine xrd Tryd.func68 2 [0, 1, 2, 6, 7, 8, 13, 16, 17, 21] rfl ?_
     refine G.ite rfl rfl (fun h45 => ?_) (fun h45 => ?_)
     · refine xra Tryd.func68 1 rfl ?_
       refine xp rfl (OpP.sliceStrLo Tryd.underlying9 rfl rfl 1 rfl (by rw [hz]; omega)) ?_
       refine xqd 1 [0, 1, 2, 6, 7, 8, 13, 16, 17, 21] rfl ?_
       refine G.reg Tryd.func68 rfl ?_
       refine xqd 1 [0, 1, 2, 6, 7, 8, 13, 16, 17, 21] rfl ?_
       refine G.blkEnd ?_
       rw [bs_drop]
       exact par _ true _ _ ⟨rfl, rfl, rfl, rfl, rfl, rfl, trivial⟩ rfl (by simp only [List.drop_succ_cons, List.drop_zero]; omega) (fun n e => by obtain ⟨k, hk, rfl⟩ := hcd n e; exact absurd (u8_is (k := 45) (d := 45) rfl |>.1 h45) (hex_no k hk).2)
     · refine G.skip rfl ?_
       refine G.blkEnd ?_
       exact par (c :: t) false _ _ ⟨rfl, rfl, rfl, rfl, rfl, rfl, trivial⟩ rfl hs (fun n e => ⟨rfl, rfl⟩)
def ErrAt (h : Heap) (g : Nat) : Prop := ∃ ev, cellAt h ⟨g, 0, none⟩ = some ev ∧ (ev = .nilIface ∨ ∃ te pe, ev = .iface te pe)
structure StrG (h : Heap) : Prop where
 tz : TzAt h
 syn : ErrAt h 2
 rng : ErrAt h 3
 most : ∃ m, cellAt h ⟨4, 0, none⟩ = some (.int .i64 m)
theorem StrG.ext0 {h h' : Heap} (k : StrG h) (e : Ext0 h h') : StrG h' := by
 obtain ⟨h0, ⟨e1, h2, h2'⟩, ⟨e2, h3, h3'⟩, m, h1⟩ := k
 exact ⟨h0.ext0 e, ⟨e1, e.cell (fun k => k) h2, h2'⟩, ⟨e2, e.cell (fun k => k) h3, h3'⟩, m, e.cell (fun k => k) h1⟩
theorem toErr_calls {h : Heap} (hg : StrG h) (s : By) (hs : s.length ≤ 1000000) (k : Int) (hk : k = 1 ∨ k = 2) :
 CallsH Tryd.prog 69 #[.string (bs [80, 97, 114, 115, 101, 73, 110, 116]), .string (bs s), .int .i64 16, .int .i64 32, errI k] h (Ret fun r h' => (∃ te pe, r = .iface te pe) ∧ Ext0 h h') := by
 have hz := bs_size s
 refine CallsH.ofBelow fun w hw => ?_
 subst hw
 rcases hk with rfl | rfl
 · obtain ⟨ev, h1, h2⟩ := hg.rng
   refine (Tryd.strconv_toError_range _ (bs s) 16 32 ev w (by omega) h1 h2).mono ?_
   rintro e w' ⟨N, rfl, _, _, hb⟩
   exact ⟨_, rfl, ⟨⟨_, _, rfl⟩, Ext0.below hb⟩, hb.os, hb.tape, hb.output⟩
 · obtain ⟨ev, h1, h2⟩ := hg.syn
   refine (Tryd.strconv_toError_syntax _ (bs s) 16 32 ev w (by omega) h1 h2).mono ?_
   rintro e w' ⟨N, rfl, _, _, hb⟩
   exact ⟨_, rfl, ⟨⟨_, _, rfl⟩, Ext0.below hb⟩, hb.os, hb.tape, hb.output⟩
theorem ParseInt_calls {h : Heap} (hg : StrG h) (s : By) (hs : s.length ≤ 1000000) : CallsH Tryd.prog 60 #[.string (bs s), .int .i64 16, .int .i64 32] h (Ret fun r h' =>
 (∃ v e, r = .tuple #[.int .i64 v, e] ∧ (-9223372036854775808 ≤ v ∧ v < 9223372036854775808) ∧ (e = .nilIface ∨ ∃ te pe, e = .iface te pe) ∧ ∀ n, s = hexP n → n < 2147483648 → v = n ∧ e = .nilIface) ∧ Ext0 h h') := by
 refine CallsH.of Tryd.func60 rfl rfl ?_
 refine xrd Tryd.func60 2 [0, 1, 2, 6, 7] rfl ?_
 refine xra Tryd.func60 3 rfl ?_
 refine xo rfl (OpX.call (vs := [_, _, _]) Tryd.func68 rfl H.nm68 rfl (CallsH.toX (pint_calls s hs))) ?_
 rintro _ h1 ⟨⟨v, e, rfl, hv, he, hvx⟩, e1⟩
 refine xqd 5 [0, 1, 2, 6, 7, 8] rfl ?_
 refine G.seq rfl ?_
 refine xra Tryd.func60 1 rfl ?_
 have hi : e = .nilIface ∨ ∃ te pe, e = .iface te pe := by
  rcases he with k | k | k
  · exact .inl k
  · exact .inr ⟨_, _, k⟩
  · exact .inr ⟨_, _, k⟩
 refine xp rfl (OpP.neqIface Tryd.underlying87 rfl hi) ?_
 refine xd [0, 1, 2, 6, 7, 8, 17] rfl ?_
 refine G.cond rfl rfl (fun hne => ?_) (fun hne => ?_)
 · obtain ⟨k, hk, rfl⟩ : ∃ k, (k = 1 ∨ k = 2) ∧ e = errI k := by
    rcases he with q | q | q
    · rw [q] at hne; cases hne
    · exact ⟨1, .inl rfl, q⟩
    · exact ⟨2, .inr rfl, q⟩
   refine xra Tryd.func60 5 rfl ?_
   refine xo rfl (OpX.call (vs := [_, _, _, _, _]) Tryd.func69 rfl H.nm69 rfl (CallsH.toX (toErr_calls (hg.ext0 e1) s hs k hk))) ?_
   rintro _ h2 ⟨⟨te, pe, rfl⟩, e2⟩
   refine xqd 2 [0, 1, 2, 6, 7, 8, 17] rfl ?_
   refine G.ret Tryd.func60 rfl rfl ?_
   exact ⟨_, rfl, ⟨v, _, rfl, hv, .inr ⟨_, _, rfl⟩, fun n q hn => by have := (hvx n q hn).2; cases this⟩, e1.trans e2⟩
 · refine G.skip rfl ?_
   refine xrd Tryd.func60 3 [0, 1, 2, 6, 7, 8, 17] rfl ?_
   refine G.ret Tryd.func60 rfl rfl ?_
   exact ⟨_, rfl, ⟨v, _, rfl, hv, .inl rfl, fun n q hn => ⟨(hvx n q hn).1, rfl⟩⟩, e1⟩
def encKy (k : Ky) : List Value := [.int .i64 k.1, .int .i32 k.2.1, .string (bs k.2.2)]
def NamesAt (h : Heap) : Prop := ∀ n, n < 15 → cellAt h ⟨0, n, none⟩ = some (.string (bs (namesL.getD n [])))
structure MacG (h : Heap) : Prop where
 str : StrG h
 names : NamesAt h
theorem MacG.ext0 {h h' : Heap} (k : MacG h) (e : Ext0 h h') : MacG h' := ⟨k.str.ext0 e, fun n hn => e.cell (fun k => k) (k.names n hn)⟩
def R32 (r : Int) : Prop := -2147483648 ≤ r ∧ r < 2147483648
theorem enc_one : ∀ n, n < 127 → 32 < n → (Utf8.encode ((n : Nat) : Int)).data.toList = [UInt8.ofNat n] := by decide +kernel
theorem sign_enc {r : Int} (h : 32 < r ∧ r < 127) : Utf8.encode r = bs (signP r) := by
 obtain ⟨n, rfl⟩ : ∃ n : Nat, r = n := ⟨r.toNat, by omega⟩
 unfold signP
 rw [if_pos h, ← bs_of (Utf8.encode n), enc_one n (by omega) (by omega)]
 rfl
theorem hexI_len {r : Int} (h : R32 r) : (hexI r).length ≤ 10 := by
 unfold R32 at h
 unfold hexI
 split
 · have := hexP_len (-r).toNat 7 (by omega); simp only [List.length_cons]; omega
 · have := hexP_len r.toNat 7 (by omega); omega
theorem sign_calls {h : Heap} (hg : StrG h) (r : Int) (hr : R32 r) : CallsH Tryd.prog 35 #[.int .i32 r] h (Ret fun v h' => v = .string (bs (signP r)) ∧ Ext0 h h') := by
 have hlen := hexI_len hr
 have hz := bs_size (hexI r)
 refine CallsH.of Tryd.func35 rfl rfl ?_
 refine xrd Tryd.func35 1 [0, 2] rfl ?_
 refine G.seq rfl ?_
 refine G.seq rfl ?_
 refine G.regTo1 [(8, .bool (decide (32 < r ∧ r < 127)))] [(0, _), (2, _)] ⟨rfl, rfl, trivial⟩ Tryd.func35 rfl ?_ ?_
 · refine xqm 3 rfl ?_
   refine RW.split (d := 5) rfl (fun c => ?_) (fun c => ?_)
   · have c := of_decide_eq_true c
     refine xqm 3 rfl ?_
     refine RW.done rfl ?_
     exact ⟨rfl, at_bool rfl (by rw [decide_eq_decide]; omega), rfl, rfl, trivial⟩
   · have c := of_decide_eq_false c
     refine xqm 3 rfl ?_
     refine RW.done rfl ?_
     exact ⟨rfl, at_bool rfl (by rw [eq_comm, decide_eq_false]; omega), rfl, rfl, trivial⟩
 · refine G.ite rfl rfl (fun hs => ?_) (fun hs => ?_)
   · refine xra Tryd.func35 1 rfl ?_
     refine xp rfl (OpP.intStr Tryd.underlying21 Tryd.underlying9 rfl) ?_
     refine xqd 1 [0, 2, 8] rfl ?_
     refine G.ret Tryd.func35 rfl rfl ?_
     exact ⟨_, rfl, by rw [sign_enc hs]; rfl, Ext.refl _ _⟩
   · refine G.skip rfl ?_
     refine xra Tryd.func35 1 rfl ?_
     refine xp rfl (OpP.convIn Tryd.underlying21 Tryd.underlying2 rfl (wrap_i64 (by unfold R32 at hr; omega))) ?_
     refine xo rfl (OpX.call (vs := [_, _]) Tryd.func55 rfl H.nm55 rfl (CallsH.toX (fmt_calls hg.tz r hr))) ?_
     rintro _ h1 ⟨rfl, e1⟩
     refine xp rfl (OpP.addStr rfl rfl (by rw [hz]; show 2 + _ ≤ _; omega)) ?_
     refine xqd 1 [0, 2, 8] rfl ?_
     refine G.ret Tryd.func35 rfl rfl ?_
     exact ⟨_, rfl, by unfold signP; rw [if_neg hs, show (⟨#[85, 43]⟩ : ByteArray) = bs [85, 43] from rfl, bs_append]; rfl, e1⟩
theorem valid_calls {h : Heap} (r : Int) : CallsH Tryd.prog 54 #[.int .i32 r] h (Ret fun v h' => v = .bool (decide (goodP r)) ∧ h' = h) := by
 refine CallsH.of Tryd.func54 rfl rfl ?_
 refine xrd Tryd.func54 1 [0, 2] rfl ?_
 refine G.seq rfl ?_
 refine G.block rfl rfl ?_
 refine G.seq rfl ?_
 refine G.regTo1 [(3, .bool (decide (0 ≤ r ∧ r < 55296)))] [(0, _), (2, _)] ⟨rfl, rfl, trivial⟩ Tryd.func54 rfl ?_ ?_
 · refine xqm 3 rfl ?_
   refine RW.split (d := 6) rfl (fun c => ?_) (fun c => ?_)
   · have c := of_decide_eq_true c
     refine xqm 4 rfl ?_
     refine RW.done rfl ?_
     exact ⟨rfl, at_bool rfl (by rw [decide_eq_decide]; omega), rfl, rfl, trivial⟩
   · have c := of_decide_eq_false c
     refine xqm 4 rfl ?_
     refine RW.done rfl ?_
     exact ⟨rfl, at_bool rfl (by rw [eq_comm, decide_eq_false]; omega), rfl, rfl, trivial⟩
 · refine G.ite rfl rfl (fun h1 => ?_) (fun h1 => ?_)
   · refine xrd Tryd.func54 1 [0, 2, 3] rfl ?_
     refine G.ret Tryd.func54 rfl rfl ?_
     exact ⟨_, rfl, by rw [decide_eq_true (show goodP r from .inl h1)]; rfl, rfl⟩
   · refine G.seq rfl ?_
     refine G.regTo1 [(10, .bool (decide (57343 < r ∧ r ≤ 1114111)))] [(0, _), (2, _), (3, _)] ⟨rfl, rfl, rfl, trivial⟩ Tryd.func54 rfl ?_ ?_
     · refine xqm 3 rfl ?_
       refine RW.split (d := 13) rfl (fun c => ?_) (fun c => ?_)
       · have c := of_decide_eq_true c
         refine xqm 4 rfl ?_
         refine RW.done rfl ?_
         exact ⟨rfl, at_bool rfl (by rw [decide_eq_decide]; omega), rfl, rfl, rfl, trivial⟩
       · have c := of_decide_eq_false c
         refine xqm 4 rfl ?_
         refine RW.done rfl ?_
         exact ⟨rfl, at_bool rfl (by rw [eq_comm, decide_eq_false]; omega), rfl, rfl, rfl, trivial⟩
     · refine G.ite rfl rfl (fun h2 => ?_) (fun h2 => ?_)
       · refine xrd Tryd.func54 1 [0, 2, 3, 10] rfl ?_
         refine G.ret Tryd.func54 rfl rfl ?_
         exact ⟨_, rfl, by rw [decide_eq_true (show goodP r from .inr (by omega))]; rfl, rfl⟩
       · refine G.skip rfl ?_
         refine G.blkEnd ?_
         refine xrd Tryd.func54 1 [0, 2, 3, 10] rfl ?_
         refine G.ret Tryd.func54 rfl rfl ?_
         exact ⟨_, rfl, by rw [decide_eq_false (show ¬ goodP r by unfold goodP; omega)]; rfl, rfl⟩
theorem bInfo : ∃ j, Tryd.prog.info? 85 = some j ∧ j.size ≠ 0 := ⟨_, rfl, by decide⟩
theorem u8Info : ∃ i, Tryd.prog.info? 5 = some i ∧ i.zero = some (.int .u8 0) ∧ i.size = 1 ∧ i.bytes = 1 := ⟨_, rfl, rfl, rfl, rfl⟩
theorem bLies : liesAt Tryd.prog Tryd.prog.depth 85 (2 / Tryd.prog.cellsOf 85) 0 85 1 = true := by kernel_rfl
theorem u8Cells : Tryd.prog.cellsOf 5 = 1 := by kernel_rfl
theorem copyCheck_fresh {h : Heap} {b : Nat} {v : Value} (hb : Blk h b 85 [.pointer none, v]) :
 CallsH Tryd.prog 67 #[.pointer (some ⟨b, 0, none⟩)] h (Ret fun _ h' => Blk h' b 85 [.pointer (some ⟨b, 0, none⟩), v] ∧ Ext (fun i => i = b) h h' ∧ h'.size = h.size) := by
 obtain ⟨j, hj, hj0⟩ := bInfo
 refine CallsH.of Tryd.func67 rfl rfl ?_
 refine xra Tryd.func67 2 rfl ?_
 refine xp rfl (OpP.fieldAddr (off := 0) Tryd.underlying85 rfl rfl H.sz82 rfl) ?_
 refine xp rfl (OpP.load H.ag82 rfl (hb.cell (i := 0) rfl)) ?_
 refine xp rfl (OpP.eqlNil Tryd.underlying82 rfl rfl) ?_
 refine xd [0, 6] rfl ?_
 refine G.cond rfl rfl (fun _ => ?_) (fun hc => absurd hc (by decide))
 refine G.reg Tryd.func67 rfl ?_
 refine xqp 2 rfl rfl (OpP.toUnsafe Tryd.underlying82 Tryd.underlying108 hj hj0 hb (by simp) rfl) ?_
 refine xp rfl (OpP.noEscape Tryd.func80 (by decide +kernel) (by kernel_rfl) (by kernel_rfl) (by kernel_rfl) rfl) ?_
 refine xp rfl (OpP.fromUnsafe Tryd.underlying108 Tryd.underlying82 hj hb bLies rfl) ?_
 refine xqp 1 rfl rfl (OpP.fieldAddr (off := 0) Tryd.underlying85 rfl rfl H.sz82 rfl) ?_
 refine RW.op0 rfl rfl rfl (OpX.storeOne H.sz82 rfl rfl hb (by first | decide | exact of_decide_eq_true rfl | (simp; done) | (simp; omega)) rfl) ?_
 rintro _ h1 ⟨rfl, hb1, hx1, hs1⟩
 refine xd [0, 6] rfl ?_
 refine G.fall Tryd.func67 rfl ?_
 exact ⟨_, rfl, hb1, hx1, hs1⟩
theorem copyCheck_used {h : Heap} {b : Nat} {v : Value} (hb : Blk h b 85 [.pointer (some ⟨b, 0, none⟩), v]) :
 CallsH Tryd.prog 67 #[.pointer (some ⟨b, 0, none⟩)] h (Ret fun _ h' => Blk h' b 85 [.pointer (some ⟨b, 0, none⟩), v] ∧ Ext (fun i => i = b) h h' ∧ h'.size = h.size) := by
 obtain ⟨j, hj, hj0⟩ := bInfo
 refine CallsH.of Tryd.func67 rfl rfl ?_
 refine xra Tryd.func67 2 rfl ?_
 refine xp rfl (OpP.fieldAddr (off := 0) Tryd.underlying85 rfl rfl H.sz82 rfl) ?_
 refine xp rfl (OpP.load H.ag82 rfl (hb.cell (i := 0) rfl)) ?_
 refine xp rfl (OpP.eqlNil Tryd.underlying82 rfl rfl) ?_
 refine xd [0, 6] rfl ?_
 refine G.cond rfl rfl (fun hc => absurd hc Bool.false_ne_true) (fun _ => ?_)
 refine xra Tryd.func67 2 rfl ?_
 refine xp rfl (OpP.fieldAddr (off := 0) Tryd.underlying85 rfl rfl H.sz82 rfl) ?_
 refine xp rfl (OpP.load H.ag82 rfl (hb.cell (i := 0) rfl)) ?_
 refine xqp 1 rfl rfl (OpP.neqPtrSame Tryd.underlying82 hj rfl rfl) ?_
 refine xd [0, 6, 19] rfl ?_
 refine G.cond rfl rfl (fun hc => absurd hc Bool.false_ne_true) (fun _ => ?_)
 refine G.skip rfl ?_
 refine G.fall Tryd.func67 rfl ?_
 exact ⟨_, rfl, hb, Ext.refl _ _, rfl⟩
theorem copyCheck_calls {h : Heap} {b : Nat} {p v : Value} (hb : Blk h b 85 [p, v]) (hp : p = .pointer none ∨ p = .pointer (some ⟨b, 0, none⟩)) :
 CallsH Tryd.prog 67 #[.pointer (some ⟨b, 0, none⟩)] h (Ret fun _ h' => Blk h' b 85 [.pointer (some ⟨b, 0, none⟩), v] ∧ Ext (fun i => i = b) h h' ∧ h'.size = h.size) := by
 rcases hp with rfl | rfl
 · exact copyCheck_fresh hb
 · exact copyCheck_used hb
theorem writeString_calls {h : Heap} {b : Nat} {l : List UInt8} (s : ByteArray) (hb : BldH h b 85 5 l) (hl : l.length + s.size ≤ 140737488355328) :
 CallsH Tryd.prog 56 #[.pointer (some ⟨b, 0, none⟩), .string s] h (Ret fun r h' => r = .tuple #[.int .i64 s.size, .nilIface] ∧ BldH h' b 85 5 (l ++ s.data.toList) ∧ Ext (fun i => b ≤ i) h h') := by
 obtain ⟨i, hi, hi0, hi1, hi2⟩ := u8Info
 obtain ⟨p, v, hk, hp, hv⟩ := hb
 have hlt := hk.lt
 refine CallsH.of Tryd.func56 rfl rfl ?_
 refine xrd Tryd.func56 2 [0, 1, 4, 5] rfl ?_
 refine xra Tryd.func56 1 rfl ?_
 refine xo rfl (OpX.call (vs := [_]) Tryd.func67 rfl H.nm67 rfl (CallsH.toX (copyCheck_calls hk hp))) ?_
 rintro _ h1 ⟨hk1, hx1, hs1⟩
 refine xd [0, 1, 4, 5] rfl ?_
 refine xra Tryd.func56 3 rfl ?_
 refine xp rfl (OpP.fieldAddr (off := 1) Tryd.underlying85 rfl rfl H.sz83 rfl) ?_
 have hv1 : OwB h1 (b + 1) 5 v l := OwnH.ext hx1 hv (fun g hg => by have := own_ne hv g hg.symm; omega)
 refine xp rfl (OpP.load H.ag83 rfl (hk1.cell (i := 1) rfl)) ?_
 refine xqm 1 rfl ?_
 refine xo rfl (OpX.appendStr Tryd.underlying83 Tryd.underlying9 hi hi0 hi1 hi2 rfl rfl hv1 hl (by omega)) ?_
 rintro v2 h2 ⟨ho2, hx2⟩
 refine xqp 1 rfl rfl (OpP.fieldAddr (off := 1) Tryd.underlying85 rfl rfl H.sz83 rfl) ?_
 have hk2 := hk1.ext hx2 (fun hm => by have := own_ne hv1 b hm; omega)
 obtain ⟨oa2, c2, rfl, -⟩ := OwnH.open ho2
 refine RW.op0 rfl rfl rfl (OpX.storeOne H.sz83 rfl rfl hk2 (by first | decide | exact of_decide_eq_true rfl | (simp; done) | (simp; omega)) rfl) ?_
 rintro _ h3 ⟨rfl, hk3, hx3, hs3⟩
 refine xd [0, 1, 4, 5] rfl ?_
 refine xra Tryd.func56 1 rfl ?_
 refine xp rfl (OpP.lenString Tryd.underlying9 rfl) ?_
 refine xqd 2 [0, 1, 4, 5] rfl ?_
 refine G.ret Tryd.func56 rfl rfl ?_
 have ho3 : OwB h3 (b + 1) 5 _ (l ++ s.data.toList) := OwnH.ext hx3 ho2 (fun g hg => by have := own_ne ho2 g hg.symm; omega)
 exact ⟨_, rfl, rfl, ⟨_, _, hk3, .inr rfl, ho3⟩, ((hx1.mono (fun _ _ k => by show b ≤ _; omega)).trans (hx2.mono (fun g _ k => by have := own_ne hv1 g k; show b ≤ g; omega))).trans (hx3.mono (fun _ _ k => by show b ≤ _; omega))⟩
theorem writeString_at {h : Heap} {b : Nat} {l : List UInt8} {p v : Value} (s : ByteArray) (hk : Blk h b 85 [p, v]) (hp : p = .pointer none ∨ p = .pointer (some ⟨b, 0, none⟩)) (hv : OwB h (b + 1) 5 v l) (hl : l.length + s.size ≤ 140737488355328) :
 CallsH Tryd.prog 56 #[.pointer (some ⟨b, 0, none⟩), .string s] h (Ret fun r h' => r = .tuple #[.int .i64 s.size, .nilIface] ∧ BldH h' b 85 5 (l ++ s.data.toList) ∧ Ext (fun g => g = b ∨ but v.ownBlock g) h h') := by
 obtain ⟨i, hi, hi0, hi1, hi2⟩ := u8Info
 have hlt := hk.lt
 refine CallsH.of Tryd.func56 rfl rfl ?_
 refine xrd Tryd.func56 2 [0, 1, 4, 5] rfl ?_
 refine xra Tryd.func56 1 rfl ?_
 refine xo rfl (OpX.call (vs := [_]) Tryd.func67 rfl H.nm67 rfl (CallsH.toX (copyCheck_calls hk hp))) ?_
 rintro _ h1 ⟨hk1, hx1, hs1⟩
 refine xd [0, 1, 4, 5] rfl ?_
 refine xra Tryd.func56 3 rfl ?_
 refine xp rfl (OpP.fieldAddr (off := 1) Tryd.underlying85 rfl rfl H.sz83 rfl) ?_
 have hv1 : OwB h1 (b + 1) 5 v l := OwnH.ext hx1 hv (fun g hg => by have := own_ne hv g hg.symm; omega)
 refine xp rfl (OpP.load H.ag83 rfl (hk1.cell (i := 1) rfl)) ?_
 refine xqm 1 rfl ?_
 refine xo rfl (OpX.appendStr Tryd.underlying83 Tryd.underlying9 hi hi0 hi1 hi2 rfl rfl hv1 hl (by omega)) ?_
 rintro v2 h2 ⟨ho2, hx2⟩
 refine xqp 1 rfl rfl (OpP.fieldAddr (off := 1) Tryd.underlying85 rfl rfl H.sz83 rfl) ?_
 have hk2 := hk1.ext hx2 (fun hm => by have := own_ne hv1 b hm; omega)
 obtain ⟨oa2, c2, rfl, -⟩ := OwnH.open ho2
 refine RW.op0 rfl rfl rfl (OpX.storeOne H.sz83 rfl rfl hk2 (by first | decide | exact of_decide_eq_true rfl | (simp; done) | (simp; omega)) rfl) ?_
 rintro _ h3 ⟨rfl, hk3, hx3, hs3⟩
 refine xd [0, 1, 4, 5] rfl ?_
 refine xra Tryd.func56 1 rfl ?_
 refine xp rfl (OpP.lenString Tryd.underlying9 rfl) ?_
 refine xqd 2 [0, 1, 4, 5] rfl ?_
 refine G.ret Tryd.func56 rfl rfl ?_
 have ho3 : OwB h3 (b + 1) 5 _ (l ++ s.data.toList) := OwnH.ext hx3 ho2 (fun g hg => by have := own_ne ho2 g hg.symm; omega)
 exact ⟨_, rfl, rfl, ⟨_, _, hk3, .inr rfl, ho3⟩, ((hx1.mono (fun _ _ k => .inl k)).trans (hx2.mono (fun g _ k => .inr k))).trans (hx3.mono (fun _ _ k => .inl k))⟩
theorem bString_calls {h : Heap} {b : Nat} {l : List UInt8} (hb : BldH h b 85 5 l) (hl : l.length ≤ 140737488355328) :
 CallsH Tryd.prog 57 #[.pointer (some ⟨b, 0, none⟩)] h (Ret fun r h' => r = .string ⟨l.toArray⟩ ∧ Ext (fun i => b ≤ i) h h') := by
 obtain ⟨p, v, hk, hp, hv⟩ := hb
 obtain ⟨oa, c, rfl, hw⟩ := OwnH.open hv
 have hc1 := hk.cell (i := 1) rfl
 refine CallsH.of Tryd.func57 rfl rfl ?_
 refine xrd Tryd.func57 1 [0, 2] rfl ?_
 refine G.seq rfl ?_
 refine G.draw (fun i => b + 1 ≤ i) (fun i => Nat.blt i 12) (sz := 12) (listed := #[false, false, false, false, false, false, false, false, false, false, false, false]) Tryd.func57 H.mixed rfl rfl rfl ?_
 refine xtq 0 1 (by kernel_rfl) rfl ?_
 refine xtq 1 3 (by kernel_rfl) rfl ?_
 refine xtp 2 7 (by kernel_rfl) rfl (fun h' e => OpP.fieldAddr (off := 1) Tryd.underlying85 rfl rfl H.sz83 rfl) ?_
 refine xtp 3 15 (by kernel_rfl) rfl (fun h' e => OpP.load H.ag83 rfl (e.cell (by show ¬ b + 1 ≤ b; omega) hc1)) ?_
 refine xtq 5 47 (by kernel_rfl) rfl ?_
 refine xtq 6 111 (by kernel_rfl) rfl ?_
 refine xtp 7 239 (by kernel_rfl) rfl (fun h' e => OpP.fieldAddr (off := 1) Tryd.underlying85 rfl rfl H.sz83 rfl) ?_
 refine xtp 8 495 (by kernel_rfl) rfl (fun h' e => OpP.load H.ag83 rfl (e.cell (by show ¬ b + 1 ≤ b; omega) hc1)) ?_
 refine xtp 9 1007 (by kernel_rfl) rfl (fun h' e => OpP.lenSlice Tryd.underlying83 rfl) ?_
 refine xto 4 1023 (by kernel_rfl) rfl (OpX.sliceData Tryd.underlying97 rfl hv) ?_
 rintro u h1 ⟨⟨q, rfl, hs⟩, he⟩
 refine ⟨fun _ => he.of, ?_⟩
 refine xto 10 2047 (by kernel_rfl) rfl (OpX.unsafeString Tryd.underlying97 u8Cells rfl rfl hs hl) ?_
 rintro _ h2 ⟨rfl, hx2⟩
 refine ⟨fun _ => hx2, ?_⟩
 refine xtq 11 4095 (by kernel_rfl) rfl ?_
 refine RD.done (by kernel_rfl) ?_
 refine xu [0, 2] rfl ?_
 refine G.ret Tryd.func57 rfl rfl ?_
 exact ⟨_, rfl, rfl, (Ext0.of he).trans (hx2.mono (fun g _ k => by have : b + 1 ≤ g := k; show b ≤ g; omega))⟩
theorem may_rune {k : Ky} (h : k.1 = 1 ∨ k.1 = 6 ∨ k.1 = 7) : mayP k = decide (goodP k.2.1 ∧ k.2.2 = []) := by unfold mayP; rw [if_pos h]
theorem may_text {k : Ky} (h : k.1 = 15 ∨ k.1 = 0) : mayP k = decide (k.2.1 = 0) := by unfold mayP; rw [if_neg (by omega), if_pos h]
theorem may_spec {k : Ky} (h : ¬ (k.1 = 1 ∨ k.1 = 6 ∨ k.1 = 7)) (h2 : ¬ (k.1 = 15 ∨ k.1 = 0)) : mayP k = decide (specP k.1 ≠ [] ∧ k.2.1 = 0 ∧ k.2.2 = []) := by unfold mayP; rw [if_neg h, if_neg h2]
theorem spec_out {k : Int} (h : ¬ (0 < k ∧ k < 15)) : specP k = [] := by
 by_cases h0 : specP k = []
 · exact h0
 · obtain ⟨n, rfl, hn, e⟩ := specP_mem h0
   have : n = 0 := by omega
   subst this; rfl
theorem spec_in {k : Int} (h : 0 < k ∧ k < 15) : specP k = namesL.getD k.toNat [] := by unfold specP; rw [if_neg (by omega)]
theorem may_calls {h : Heap} (hg : MacG h) (k : Ky) : CallsH Tryd.prog 34 #[.agg (encKy k).toArray] h (Ret fun v h' => v = .bool (mayP k) ∧ Ext0 h h') := by
 obtain ⟨kd, r, t⟩ := k
 refine CallsH.of Tryd.func34 rfl rfl ?_
 refine xr Tryd.func34 rfl ?_
 refine xo rfl (OpX.boxN rfl) ?_
 rintro _ h1 ⟨rfl, k1, e1, z1⟩
 refine xqd 1 [0, 1, 2] rfl ?_
 refine G.seq rfl ?_
 refine xr Tryd.func34 rfl ?_
 refine xp rfl (OpP.fieldAddr (off := 0) Tryd.underlying27 rfl rfl H.sz3 rfl) ?_
 have k1 : Blk h1 h.size 27 [.int .i64 kd, .int .i32 r, .string (bs t)] := k1
 have hg1 := hg.ext0 e1
 refine xp rfl (OpP.load H.ag3 rfl (k1.cell (i := 0) rfl)) ?_
 refine xd [0, 1, 2, 4] rfl ?_
 refine G.block rfl rfl ?_
 refine G.seq rfl ?_
 refine xrd Tryd.func34 2 [0, 1, 2, 4, 5] rfl ?_
 refine G.ite rfl rfl (fun h1 => ?_) (fun h1 => ?_)
 · refine G.skip rfl ?_
   refine G.cond rfl rfl (fun _ => ?_) (fun hc => absurd hc (by simp [h1]))
   have hm : mayP (kd, r, t) = decide (goodP r ∧ t = []) := may_rune (k := (kd, r, t)) (by show kd = 1 ∨ kd = 6 ∨ kd = 7; omega)
   rw [hm]
   refine G.seq rfl ?_
   refine G.regTo1 [(2, .bool (decide (goodP r ∧ t = [])))] [(0, _), (1, _), (4, _), (5, _)] ⟨rfl, rfl, rfl, rfl, trivial⟩ Tryd.func34 rfl ?_ ?_
   · refine xp rfl (OpP.fieldAddr (off := 1) Tryd.underlying27 rfl rfl H.sz21 rfl) ?_
     refine xp rfl (OpP.load H.ag21 rfl (k1.cell (i := 1) rfl)) ?_
     refine xo rfl (OpX.call (vs := [_]) Tryd.func54 rfl H.nm54 rfl (CallsH.toX (valid_calls _))) ?_
     rintro _ _ ⟨rfl, rfl⟩
     refine xqm 1 rfl ?_
     refine RW.split (d := 12) rfl (fun c => ?_) (fun c => ?_)
     · have c := of_decide_eq_true c
       refine xp rfl (OpP.fieldAddr (off := 2) Tryd.underlying27 rfl rfl H.sz9 rfl) ?_
       refine xp rfl (OpP.load H.ag9 rfl (k1.cell (i := 2) rfl)) ?_
       refine xp rfl (OpP.eqlStr rfl rfl) ?_
       refine xqm 2 rfl ?_
       refine RW.done rfl ?_
       exact ⟨rfl, at_bool rfl (by rw [bs_nil, decide_eq_decide]; exact ⟨fun e => ⟨c, e⟩, fun e => e.2⟩), rfl, rfl, rfl, rfl, trivial⟩
     · have c := of_decide_eq_false c
       refine xqm 5 rfl ?_
       refine RW.done rfl ?_
       exact ⟨rfl, at_bool rfl (by rw [eq_comm, decide_eq_false]; exact fun e => c e.1), rfl, rfl, rfl, rfl, trivial⟩
   · refine G.ret Tryd.func34 rfl rfl ?_
     exact ⟨_, rfl, rfl, e1⟩
 · refine xrd Tryd.func34 2 [0, 1, 2, 4, 5] rfl ?_
   refine G.ite rfl rfl (fun h6 => ?_) (fun h6 => ?_)
   · refine G.skip rfl ?_
     refine G.cond rfl rfl (fun _ => ?_) (fun hc => absurd hc (by simp [h6]))
     have hm : mayP (kd, r, t) = decide (goodP r ∧ t = []) := may_rune (k := (kd, r, t)) (by show kd = 1 ∨ kd = 6 ∨ kd = 7; omega)
     rw [hm]
     refine G.seq rfl ?_
     refine G.regTo1 [(2, .bool (decide (goodP r ∧ t = [])))] [(0, _), (1, _), (4, _), (5, _)] ⟨rfl, rfl, rfl, rfl, trivial⟩ Tryd.func34 rfl ?_ ?_
     · refine xp rfl (OpP.fieldAddr (off := 1) Tryd.underlying27 rfl rfl H.sz21 rfl) ?_
       refine xp rfl (OpP.load H.ag21 rfl (k1.cell (i := 1) rfl)) ?_
       refine xo rfl (OpX.call (vs := [_]) Tryd.func54 rfl H.nm54 rfl (CallsH.toX (valid_calls _))) ?_
       rintro _ _ ⟨rfl, rfl⟩
       refine xqm 1 rfl ?_
       refine RW.split (d := 12) rfl (fun c => ?_) (fun c => ?_)
       · have c := of_decide_eq_true c
         refine xp rfl (OpP.fieldAddr (off := 2) Tryd.underlying27 rfl rfl H.sz9 rfl) ?_
         refine xp rfl (OpP.load H.ag9 rfl (k1.cell (i := 2) rfl)) ?_
         refine xp rfl (OpP.eqlStr rfl rfl) ?_
         refine xqm 2 rfl ?_
         refine RW.done rfl ?_
         exact ⟨rfl, at_bool rfl (by rw [bs_nil, decide_eq_decide]; exact ⟨fun e => ⟨c, e⟩, fun e => e.2⟩), rfl, rfl, rfl, rfl, trivial⟩
       · have c := of_decide_eq_false c
         refine xqm 5 rfl ?_
         refine RW.done rfl ?_
         exact ⟨rfl, at_bool rfl (by rw [eq_comm, decide_eq_false]; exact fun e => c e.1), rfl, rfl, rfl, rfl, trivial⟩
     · refine G.ret Tryd.func34 rfl rfl ?_
       exact ⟨_, rfl, rfl, e1⟩
   · refine G.reg Tryd.func34 rfl ?_
     refine xqd 2 [0, 1, 2, 4, 5] rfl ?_
     refine G.ite rfl rfl (fun h7 => ?_) (fun h7 => ?_)
     · have hm : mayP (kd, r, t) = decide (goodP r ∧ t = []) := may_rune (k := (kd, r, t)) (by show kd = 1 ∨ kd = 6 ∨ kd = 7; omega)
       rw [hm]
       refine G.seq rfl ?_
       refine G.regTo1 [(2, .bool (decide (goodP r ∧ t = [])))] [(0, _), (1, _), (4, _), (5, _)] ⟨rfl, rfl, rfl, rfl, trivial⟩ Tryd.func34 rfl ?_ ?_
       · refine xp rfl (OpP.fieldAddr (off := 1) Tryd.underlying27 rfl rfl H.sz21 rfl) ?_
         refine xp rfl (OpP.load H.ag21 rfl (k1.cell (i := 1) rfl)) ?_
         refine xo rfl (OpX.call (vs := [_]) Tryd.func54 rfl H.nm54 rfl (CallsH.toX (valid_calls _))) ?_
         rintro _ _ ⟨rfl, rfl⟩
         refine xqm 1 rfl ?_
         refine RW.split (d := 12) rfl (fun c => ?_) (fun c => ?_)
         · have c := of_decide_eq_true c
           refine xp rfl (OpP.fieldAddr (off := 2) Tryd.underlying27 rfl rfl H.sz9 rfl) ?_
           refine xp rfl (OpP.load H.ag9 rfl (k1.cell (i := 2) rfl)) ?_
           refine xp rfl (OpP.eqlStr rfl rfl) ?_
           refine xqm 2 rfl ?_
           refine RW.done rfl ?_
           exact ⟨rfl, at_bool rfl (by rw [bs_nil, decide_eq_decide]; exact ⟨fun e => ⟨c, e⟩, fun e => e.2⟩), rfl, rfl, rfl, rfl, trivial⟩
         · have c := of_decide_eq_false c
           refine xqm 5 rfl ?_
           refine RW.done rfl ?_
           exact ⟨rfl, at_bool rfl (by rw [eq_comm, decide_eq_false]; exact fun e => c e.1), rfl, rfl, rfl, rfl, trivial⟩
       · refine G.ret Tryd.func34 rfl rfl ?_
         exact ⟨_, rfl, rfl, e1⟩
     · refine G.seq rfl ?_
       refine xrd Tryd.func34 2 [0, 1, 2, 4, 5, 17] rfl ?_
       refine G.ite rfl rfl (fun h15 => ?_) (fun h15 => ?_)
       · refine G.skip rfl ?_
         refine G.cond rfl rfl (fun _ => ?_) (fun hc => absurd hc (by simp [h15]))
         refine xr Tryd.func34 rfl ?_
         refine xp rfl (OpP.fieldAddr (off := 1) Tryd.underlying27 rfl rfl H.sz21 rfl) ?_
         refine xp rfl (OpP.load H.ag21 rfl (k1.cell (i := 1) rfl)) ?_
         refine xqd 2 [0, 1, 2, 4, 5, 17] rfl ?_
         refine G.ret Tryd.func34 rfl rfl ?_
         exact ⟨_, rfl, by rw [may_text (k := (kd, r, t)) (by show kd = 15 ∨ kd = 0; omega)]; rfl, e1⟩
       · refine G.reg Tryd.func34 rfl ?_
         refine xqd 2 [0, 1, 2, 4, 5, 17] rfl ?_
         refine G.ite rfl rfl (fun h0 => ?_) (fun h0 => ?_)
         · refine xr Tryd.func34 rfl ?_
           refine xp rfl (OpP.fieldAddr (off := 1) Tryd.underlying27 rfl rfl H.sz21 rfl) ?_
           refine xp rfl (OpP.load H.ag21 rfl (k1.cell (i := 1) rfl)) ?_
           refine xqd 2 [0, 1, 2, 4, 5, 17] rfl ?_
           refine G.ret Tryd.func34 rfl rfl ?_
           exact ⟨_, rfl, by rw [may_text (k := (kd, r, t)) (by show kd = 15 ∨ kd = 0; omega)]; rfl, e1⟩
         · refine G.skip rfl ?_
           refine G.blkEnd ?_
           refine G.seq rfl ?_
           have hm := may_spec (k := (kd, r, t)) (by show ¬ (kd = 1 ∨ kd = 6 ∨ kd = 7); omega) (by show ¬ (kd = 15 ∨ kd = 0); omega)
           simp only at hm
           rw [hm]
           refine G.regTo1 [(2, .bool (decide (specP kd ≠ [] ∧ r = 0 ∧ t = [])))] [(0, _), (1, _), (4, _), (5, _), (17, _)] ⟨rfl, rfl, rfl, rfl, rfl, trivial⟩ Tryd.func34 rfl ?_ ?_
           · refine xp rfl (OpP.fieldAddr (off := 0) Tryd.underlying27 rfl rfl H.sz3 rfl) ?_
             refine xp rfl (OpP.load H.ag3 rfl (k1.cell (i := 0) rfl)) ?_
             refine xqm 2 rfl ?_
             refine RW.split (d := 26) rfl (fun c => ?_) (fun c => ?_)
             · have c := of_decide_eq_true c
               refine xp rfl (OpP.fieldAddr (off := 0) Tryd.underlying27 rfl rfl H.sz3 rfl) ?_
               refine xp rfl (OpP.load H.ag3 rfl (k1.cell (i := 0) rfl)) ?_
               refine xqm 3 rfl ?_
               refine RW.split (d := 31) rfl (fun d => ?_) (fun d => ?_)
               · have d := of_decide_eq_true d
                 have hsp := spec_in (k := kd) ⟨c, d⟩
                 refine xp rfl (OpP.fieldAddr (off := 0) Tryd.underlying27 rfl rfl H.sz3 rfl) ?_
                 refine xp rfl (OpP.load H.ag3 rfl (k1.cell (i := 0) rfl)) ?_
                 refine xp rfl (OpP.indexArr Tryd.underlying64 H.sz9 rfl rfl kd.toNat (by omega) (by omega)) ?_
                 refine xp rfl (OpP.load H.ag9 rfl (by rw [Nat.mul_one, Nat.zero_add]; exact hg1.names _ (by omega))) ?_
                 refine xp rfl (OpP.neqStr rfl rfl) ?_
                 refine xqm 2 rfl ?_
                 refine RW.split (d := 38) rfl (fun f => ?_) (fun f => ?_)
                 · have f : specP kd ≠ [] := fun e => of_decide_eq_true f (by rw [← hsp, e]; rfl)
                   refine xp rfl (OpP.fieldAddr (off := 1) Tryd.underlying27 rfl rfl H.sz21 rfl) ?_
                   refine xp rfl (OpP.load H.ag21 rfl (k1.cell (i := 1) rfl)) ?_
                   refine xqm 3 rfl ?_
                   refine RW.split (d := 43) rfl (fun g => ?_) (fun g => ?_)
                   · have g := of_decide_eq_true g
                     refine xp rfl (OpP.fieldAddr (off := 2) Tryd.underlying27 rfl rfl H.sz9 rfl) ?_
                     refine xp rfl (OpP.load H.ag9 rfl (k1.cell (i := 2) rfl)) ?_
                     refine xp rfl (OpP.eqlStr rfl rfl) ?_
                     refine xqm 2 rfl ?_
                     refine RW.done rfl ?_
                     exact ⟨rfl, at_bool rfl (by rw [bs_nil, decide_eq_decide]; exact ⟨fun e => ⟨f, g, e⟩, fun e => e.2.2⟩), rfl, rfl, rfl, rfl, rfl, trivial⟩
                   · have g := of_decide_eq_false g
                     refine xqm 5 rfl ?_
                     refine RW.done rfl ?_
                     exact ⟨rfl, at_bool rfl (by rw [eq_comm, decide_eq_false]; exact fun e => g e.2.1), rfl, rfl, rfl, rfl, rfl, trivial⟩
                 · have f : specP kd = [] := bs_inj (by rw [hsp]; exact Classical.not_not.1 (of_decide_eq_false f))
                   refine xqm 10 rfl ?_
                   refine RW.done rfl ?_
                   exact ⟨rfl, at_bool rfl (by rw [eq_comm, decide_eq_false]; exact fun e => e.1 f), rfl, rfl, rfl, rfl, rfl, trivial⟩
               · have d := of_decide_eq_false d
                 refine xqm 17 rfl ?_
                 refine RW.done rfl ?_
                 exact ⟨rfl, at_bool rfl (by rw [eq_comm, decide_eq_false]; exact fun e => e.1 (spec_out (by omega))), rfl, rfl, rfl, rfl, rfl, trivial⟩
             · have c := of_decide_eq_false c
               refine xqm 22 rfl ?_
               refine RW.done rfl ?_
               exact ⟨rfl, at_bool rfl (by rw [eq_comm, decide_eq_false]; exact fun e => e.1 (spec_out (by omega))), rfl, rfl, rfl, rfl, rfl, trivial⟩
           · refine G.ret Tryd.func34 rfl rfl ?_
             exact ⟨_, rfl, rfl, e1⟩
def digsB : By := [48, 49, 50, 51, 52, 53, 54, 55, 56, 57, 97, 98, 99, 100, 101, 102]
theorem digs_at : ∀ d, d < 16 → digsB[d]? = some (digP d) := by decide
theorem bytes_push (t : By) (b : UInt8) : bytesP (t ++ [b]) = bytesP t ++ [digP (b.toNat / 16), digP (b.toNat % 16)] := by simp [bytesP]
theorem bytes2_made (h : Heap) (t : TypeId) (a b : UInt8) : SlR .byte (h.push (.cells #[.int .u8 a.toNat, .int .u8 b.toNat] t)) (fun x => x ≠ h.size) (.slice (some ⟨h.size, 0, none⟩) 2 2) [a, b] :=
 ⟨_, _, _, rfl, rfl, Nat.le_refl _, by decide, fun i x hx => ⟨h.size, 0, [.int .u8 x.toNat], rfl, fun k => k rfl, (Blk.new h [.int .u8 a.toNat, .int .u8 b.toNat] t).part _ (fun j v hv => by
  have hi := (List.getElem?_eq_some_iff.1 hx).1
  cases j with
  | succ j => simp at hv
  | zero =>
   cases hv
   show ([a, b].map fun y => Value.int .u8 y.toNat)[0 + i * 1 + 0]? = _
   rw [Nat.mul_one, Nat.zero_add, Nat.add_zero, List.getElem?_map, hx]; rfl), rfl⟩⟩
theorem hi_dig (c : UInt8) : IntKind.u8.wrap ((c.toNat : Int).tdiv 16) = ((c.toNat / 16 : Nat) : Int) := by
 have := c.toNat_lt
 rw [Int.tdiv_eq_ediv_of_nonneg (by omega), wrap_u8 (by omega)]
 omega
theorem lo_dig (c : UInt8) : (c.toNat : Int).tmod 16 = ((c.toNat % 16 : Nat) : Int) := by
 rw [Int.tmod_eq_emod_of_nonneg (by omega)]
 omega
theorem bytes_calls {h : Heap} (t : By) (ht : t.length ≤ 1000000) : CallsH Tryd.prog 36 #[.string (bs t)] h (Ret fun v h' => v = .string (bs (bytesP t)) ∧ Ext0 h h') := by
 have hz := bs_size t
 have hdg : ∀ d, d < 16 → (bs digsB).data[d]? = some (digP d) := fun d hd => bs_at (digs_at d hd)
 refine CallsH.of Tryd.func36 rfl rfl ?_
 refine xrd Tryd.func36 1 [0, 2] rfl ?_
 refine xr Tryd.func36 rfl ?_
 refine xo rfl (OpX.allocN H.zr85) ?_
 rintro _ h0 ⟨rfl, hk0, he0, hs0⟩
 refine xd [0, 2, 3] rfl ?_
 refine G.seq rfl ?_
 refine xra Tryd.func36 1 rfl ?_
 refine xp rfl (OpP.lenString Tryd.underlying9 rfl) ?_
 refine xqd 1 [0, 2, 3, 6, 7] rfl ?_
 refine G.block rfl rfl ?_
 have hb0 : BldH h0 h.size 85 5 [] := BldH.fresh hk0
 rw [hz]
 refine G.loop (σ := Nat) (fun i => [(0, .string (bs t)), (3, .pointer (some ⟨h.size, 0, none⟩)), (6, .int .i64 (t.length : Nat)), (7, .int .i64 (i : Nat))]) (fun i h' => i ≤ t.length ∧ Ext0 h h' ∧ BldH h' h.size 85 5 (bytesP (t.take i)) ∧ h0.size ≤ h'.size) (fun i => t.length - i) (0) rfl ⟨rfl, rfl, rfl, rfl, trivial⟩ ⟨Nat.zero_le _, he0, hb0, Nat.le_refl _⟩ ?_
 rintro i g ⟨hi, eg, hbg, hgz⟩ ih
 have hlen := bytes_len (t.take i)
 rw [List.length_take] at hlen
 refine xrd Tryd.func36 1 [0, 3, 6, 7, 8] rfl ?_
 refine G.seq rfl ?_
 refine G.ite rfl rfl (fun hlt => ?_) (fun hlt => ?_)
 · obtain ⟨c, hc⟩ : ∃ c, t[i]? = some c := ⟨_, List.getElem?_eq_getElem (show i < t.length by omega)⟩
   have hcl := c.toNat_lt
   have hnx : bytesP (t.take (i + 1)) = bytesP (t.take i) ++ [digP (c.toNat / 16), digP (c.toNat % 16)] := by rw [List.take_add_one, hc]; exact bytes_push _ _
   obtain ⟨p, v, hk, hp, hv⟩ := hbg
   have hkl := hk.lt
   have hvl : ∀ x, but v.ownBlock x → x < g.size := fun x k => (OwnH.lt hv k.symm).2
   have hvg := own_ne hv
   refine G.skip rfl ?_
   refine G.seq rfl ?_
   refine G.block rfl rfl ?_
   refine xrd Tryd.func36 2 [0, 3, 4, 6, 7, 8] rfl ?_
   refine G.draw (fun b => Array.size h ≤ b ∧ b ≠ Array.size g) (fun i => Nat.blt i 13) (sz := 13) (listed := #[false, false, false, false, false, false, false, false, false, false, false, false, false]) Tryd.func36 H.mixed rfl rfl rfl ?_
   refine xtq 0 1 (by kernel_rfl) rfl ?_
   refine xtq 1 3 (by kernel_rfl) rfl ?_
   refine xtp 2 7 (by kernel_rfl) rfl (fun h' e => OpP.indexStr Tryd.underlying9 rfl rfl i rfl (bs_at hc)) ?_
   refine xtp 3 15 (by kernel_rfl) rfl (fun h' e => OpP.quo rfl rfl (by decide)) ?_
   refine xtp 4 31 (by kernel_rfl) rfl (fun h' e => OpP.indexStr Tryd.underlying9 rfl rfl (c.toNat / 16) (hi_dig c) (hdg _ (by omega))) ?_
   refine xtq 5 63 (by kernel_rfl) rfl ?_
   refine xtq 6 127 (by kernel_rfl) rfl ?_
   refine xtp 7 255 (by kernel_rfl) rfl (fun h' e => OpP.indexStr Tryd.underlying9 rfl rfl i rfl (bs_at hc)) ?_
   refine xtp 8 511 (by kernel_rfl) rfl (fun h' e => OpP.rem rfl rfl (by decide)) ?_
   refine xtp 9 1023 (by kernel_rfl) rfl (fun h' e => OpP.indexStr Tryd.underlying9 rfl rfl (c.toNat % 16) (lo_dig c) (hdg _ (by omega))) ?_
   refine xto 10 2047 (by kernel_rfl) rfl (OpX.buildOnes (us := [_, _]) Tryd.underlying83 H.el5 rfl rfl (by decide) (by simp [Value.oneCell'])) ?_
   rintro _ w1 ⟨rfl, hw1⟩
   refine ⟨fun _ => by rw [hw1]; exact Ext.push _ _ _, ?_⟩
   refine xtp 11 4095 (by kernel_rfl) rfl (fun h' e => OpP.convBytes Tryd.underlying83 Tryd.underlying5 Tryd.underlying9 rfl (SlR.mv (O' := fun _ => False) (show SlR .byte w1 (fun x => x ≠ g.size) _ [digP (c.toNat / 16), digP (c.toNat % 16)] by rw [hw1]; exact bytes2_made g 5 _ _) (Mv.ofExt e fun x _ k => ⟨fun q => q.2 (Classical.not_not.1 k), fun q => q⟩))) ?_
   refine xto 12 8191 (by kernel_rfl) rfl (OpX.call (vs := [_, _]) Tryd.func56 rfl H.nm56 rfl (CallsH.toX (writeString_at (bs [digP (c.toNat / 16), digP (c.toNat % 16)]) (hk.ext0 (by rw [hw1]; exact Ext.push _ _ _)) hp (OwE.ext0 hv (by rw [hw1]; exact Ext.push _ _ _)) (by rw [bs_size]; simp only [List.length_cons, List.length_nil]; omega)))) ?_
   rintro _ g2 ⟨rfl, hb2, hx2⟩
   refine ⟨fun _ => hx2.mono (fun x _ k => by rcases k with k | k; (exact ⟨by omega, by omega⟩); have := hvg x k; have := hvl x k; exact ⟨by omega, by omega⟩), ?_⟩
   refine RD.done (by kernel_rfl) ?_
   refine xu [0, 3, 4, 6, 7, 8] rfl ?_
   refine G.blkEnd ?_
   refine G.reg Tryd.func36 rfl ?_
   refine xp rfl (OpP.add64 rfl rfl ⟨by omega, by omega⟩) ?_
   refine xqd 1 [0, 3, 4, 6, 7, 8] rfl ?_
   rw [bs_list, ← hnx] at hb2
   have e1 : Ext0 g w1 := by rw [hw1]; exact Ext.push _ _ _
   have z1 := e1.size
   have z2 := hx2.size
   exact ih (i + 1) _ _ ⟨rfl, rfl, rfl, rfl, trivial⟩ ⟨by omega, Ext0.above (eg.trans e1) (hx2.mono (fun x _ k => by rcases k with k | k; (show _ ≤ _; omega); have := hvg x k; show _ ≤ _; omega)) (Nat.le_refl _), hb2, by omega⟩ (by omega)
 · have hie : t.take i = t := List.take_of_length_le (by omega)
   rw [hie] at hbg
   have hkl := bytes_len t
   refine G.exit rfl rfl ?_
   refine xr Tryd.func36 rfl ?_
   refine xo rfl (OpX.call (vs := [_]) Tryd.func57 rfl H.nm57 rfl (CallsH.toX (bString_calls hbg (by omega)))) ?_
   rintro _ g1 ⟨rfl, hx1⟩
   refine xqd 1 [0, 2, 3, 6, 7, 8] rfl ?_
   refine G.ret Tryd.func36 rfl rfl ?_
   exact ⟨_, rfl, rfl, Ext0.above eg hx1 (Nat.le_refl _)⟩
def KyOk (k : Ky) : Prop := R32 k.2.1 ∧ k.2.2.length ≤ 100000
theorem Name_calls {h : Heap} (hg : MacG h) (k : Ky) (hk : KyOk k) : CallsH Tryd.prog 11 #[.agg (encKy k).toArray] h (Ret fun v h' => v = .string (bs (nameP k)) ∧ Ext0 h h') := by
 have hmc := may_calls hg k
 obtain ⟨kd, r, t⟩ := k
 obtain ⟨hr, ht⟩ := hk
 simp only at hr ht
 have hsl := bs_size (signP r)
 have hbl := bs_size (bytesP t)
 have hbl2 := bytes_len t
 have hs12 : (signP r).length ≤ 12 := by
  have := hexI_len hr
  unfold signP; split
  · simp
  · simp only [List.length_cons]; omega
 refine CallsH.of Tryd.func11 rfl rfl ?_
 refine xr Tryd.func11 rfl ?_
 refine xo rfl (OpX.boxN rfl) ?_
 rintro _ h1 ⟨rfl, k1, e1, z1⟩
 refine xqd 1 [0, 1, 2] rfl ?_
 refine G.seq rfl ?_
 refine xr Tryd.func11 rfl ?_
 have k1 : Blk h1 h.size 27 [.int .i64 kd, .int .i32 r, .string (bs t)] := k1
 have hg1 := hg.ext0 e1
 unfold nameP
 refine xp rfl (OpP.loadRowN H.ag27 H.sz27 rfl k1.row (by first | rfl | (simp; done) | (simp; omega))) ?_
 refine xo rfl (OpX.call (vs := [_]) Tryd.func34 rfl H.nm34 rfl (CallsH.toX (may_calls hg1 (kd, r, t)))) ?_
 rintro _ h2 ⟨rfl, e2⟩
 refine xqd 1 [0, 1, 2, 5] rfl ?_
 have k2 := k1.ext0 e2
 have hg2 := hg1.ext0 e2
 have e02 := e1.trans e2
 refine G.cond rfl rfl (fun hm => ?_) (fun hm => ?_)
 · have hm : mayP (kd, r, t) = false := by simpa using hm
   rw [hm, if_neg (by decide)]
   refine xrd Tryd.func11 1 [0, 1, 2, 5] rfl ?_
   refine G.ret Tryd.func11 rfl rfl ?_
   exact ⟨_, rfl, rfl, e02⟩
 · have hm : mayP (kd, r, t) = true := by simpa using hm
   rw [if_pos hm]
   refine G.skip rfl ?_
   refine G.seq rfl ?_
   refine xr Tryd.func11 rfl ?_
   refine xp rfl (OpP.fieldAddr (off := 0) Tryd.underlying27 rfl rfl H.sz3 rfl) ?_
   refine xp rfl (OpP.load H.ag3 rfl (k2.cell (i := 0) rfl)) ?_
   refine xd [0, 1, 2, 5, 7] rfl ?_
   refine G.block rfl rfl ?_
   refine xrd Tryd.func11 2 [0, 1, 2, 5, 7, 8] rfl ?_
   refine G.ite rfl rfl (fun h1 => ?_) (fun h1 => ?_)
   · subst h1
     refine xr Tryd.func11 rfl ?_
     refine xp rfl (OpP.fieldAddr (off := 1) Tryd.underlying27 rfl rfl H.sz21 rfl) ?_
     refine xp rfl (OpP.load H.ag21 rfl (k2.cell (i := 1) rfl)) ?_
     refine xo rfl (OpX.call (vs := [_]) Tryd.func35 rfl H.nm35 rfl (CallsH.toX (sign_calls hg2.str r hr))) ?_
     rintro _ h3 ⟨rfl, e3⟩
     refine xp rfl (OpP.addStr rfl rfl (by rw [hsl]; show (bs []).size + _ ≤ _; rw [bs_size]; simp only [List.length_cons, List.length_nil]; omega)) ?_
     refine xqd 1 [0, 1, 2, 5, 7, 8] rfl ?_
     refine G.ret Tryd.func11 rfl rfl ?_
     exact ⟨_, rfl, congrArg Value.string (bs_append [] (signP r)), e02.trans e3⟩
   · refine xrd Tryd.func11 2 [0, 1, 2, 5, 7, 8, 14] rfl ?_
     refine G.ite rfl rfl (fun h6 => ?_) (fun h6 => ?_)
     · subst h6
       refine xr Tryd.func11 rfl ?_
       refine xp rfl (OpP.fieldAddr (off := 1) Tryd.underlying27 rfl rfl H.sz21 rfl) ?_
       refine xp rfl (OpP.load H.ag21 rfl (k2.cell (i := 1) rfl)) ?_
       refine xo rfl (OpX.call (vs := [_]) Tryd.func35 rfl H.nm35 rfl (CallsH.toX (sign_calls hg2.str r hr))) ?_
       rintro _ h3 ⟨rfl, e3⟩
       refine xp rfl (OpP.addStr rfl rfl (by rw [hsl]; show (bs [67, 45]).size + _ ≤ _; rw [bs_size]; simp only [List.length_cons, List.length_nil]; omega)) ?_
       refine xqd 1 [0, 1, 2, 5, 7, 8, 14] rfl ?_
       refine G.ret Tryd.func11 rfl rfl ?_
       exact ⟨_, rfl, congrArg Value.string (bs_append [67, 45] (signP r)), e02.trans e3⟩
     · refine xrd Tryd.func11 2 [0, 1, 2, 5, 7, 8, 14, 20] rfl ?_
       refine G.ite rfl rfl (fun h7 => ?_) (fun h7 => ?_)
       · subst h7
         refine xr Tryd.func11 rfl ?_
         refine xp rfl (OpP.fieldAddr (off := 1) Tryd.underlying27 rfl rfl H.sz21 rfl) ?_
         refine xp rfl (OpP.load H.ag21 rfl (k2.cell (i := 1) rfl)) ?_
         refine xo rfl (OpX.call (vs := [_]) Tryd.func35 rfl H.nm35 rfl (CallsH.toX (sign_calls hg2.str r hr))) ?_
         rintro _ h3 ⟨rfl, e3⟩
         refine xp rfl (OpP.addStr rfl rfl (by rw [hsl]; show (bs [77, 45]).size + _ ≤ _; rw [bs_size]; simp only [List.length_cons, List.length_nil]; omega)) ?_
         refine xqd 1 [0, 1, 2, 5, 7, 8, 14, 20] rfl ?_
         refine G.ret Tryd.func11 rfl rfl ?_
         exact ⟨_, rfl, congrArg Value.string (bs_append [77, 45] (signP r)), e02.trans e3⟩
       · refine xrd Tryd.func11 2 [0, 1, 2, 5, 7, 8, 14, 20, 26] rfl ?_
         refine G.ite rfl rfl (fun h15 => ?_) (fun h15 => ?_)
         · subst h15
           refine xr Tryd.func11 rfl ?_
           refine xp rfl (OpP.fieldAddr (off := 2) Tryd.underlying27 rfl rfl H.sz9 rfl) ?_
           refine xp rfl (OpP.load H.ag9 rfl (k2.cell (i := 2) rfl)) ?_
           refine xo rfl (OpX.call (vs := [_]) Tryd.func36 rfl H.nm36 rfl (CallsH.toX (bytes_calls t (by omega)))) ?_
           rintro _ h3 ⟨rfl, e3⟩
           refine xp rfl (OpP.addStr rfl rfl (by rw [hbl]; show (bs [80, 97, 115, 116, 101, 58]).size + _ ≤ _; rw [bs_size]; simp only [List.length_cons, List.length_nil]; omega)) ?_
           refine xqd 1 [0, 1, 2, 5, 7, 8, 14, 20, 26] rfl ?_
           refine G.ret Tryd.func11 rfl rfl ?_
           exact ⟨_, rfl, congrArg Value.string (bs_append [80, 97, 115, 116, 101, 58] (bytesP t)), e02.trans e3⟩
         · refine xrd Tryd.func11 2 [0, 1, 2, 5, 7, 8, 14, 20, 26, 32] rfl ?_
           refine G.ite rfl rfl (fun h0 => ?_) (fun h0 => ?_)
           · subst h0
             refine xr Tryd.func11 rfl ?_
             refine xp rfl (OpP.fieldAddr (off := 2) Tryd.underlying27 rfl rfl H.sz9 rfl) ?_
             refine xp rfl (OpP.load H.ag9 rfl (k2.cell (i := 2) rfl)) ?_
             refine xo rfl (OpX.call (vs := [_]) Tryd.func36 rfl H.nm36 rfl (CallsH.toX (bytes_calls t (by omega)))) ?_
             rintro _ h3 ⟨rfl, e3⟩
             refine xp rfl (OpP.addStr rfl rfl (by rw [hbl]; show (bs [73, 110, 118, 97, 108, 105, 100, 58]).size + _ ≤ _; rw [bs_size]; simp only [List.length_cons, List.length_nil]; omega)) ?_
             refine xqd 1 [0, 1, 2, 5, 7, 8, 14, 20, 26, 32] rfl ?_
             refine G.ret Tryd.func11 rfl rfl ?_
             exact ⟨_, rfl, congrArg Value.string (bs_append [73, 110, 118, 97, 108, 105, 100, 58] (bytesP t)), e02.trans e3⟩
           · rw [may_spec (k := (kd, r, t)) (by show ¬ (kd = 1 ∨ kd = 6 ∨ kd = 7); omega) (by show ¬ (kd = 15 ∨ kd = 0); omega)] at hm
             have hsp := (of_decide_eq_true hm).1
             have hin : 0 < kd ∧ kd < 15 := Classical.not_not.1 fun q => hsp (spec_out q)
             refine G.skip rfl ?_
             refine G.blkEnd ?_
             refine xr Tryd.func11 rfl ?_
             refine xp rfl (OpP.fieldAddr (off := 0) Tryd.underlying27 rfl rfl H.sz3 rfl) ?_
             refine xp rfl (OpP.load H.ag3 rfl (k2.cell (i := 0) rfl)) ?_
             refine xp rfl (OpP.indexArr Tryd.underlying64 H.sz9 rfl rfl kd.toNat (by omega) (by omega)) ?_
             refine xp rfl (OpP.load H.ag9 rfl (by rw [Nat.mul_one, Nat.zero_add]; exact hg2.names _ (by omega))) ?_
             refine xqd 1 [0, 1, 2, 5, 7, 8, 14, 20, 26, 32] rfl ?_
             refine G.ret Tryd.func11 rfl rfl ?_
             exact ⟨_, rfl, by unfold wordK; rw [if_neg h1, if_neg h6, if_neg h7, if_neg h15, if_neg h0, spec_in hin]; rfl, e02⟩
theorem pre_spec (s p : By) : (Lib.hasPrefix s p = true ∧ s = p ++ Lib.trimPrefix s p) ∨ (Lib.hasPrefix s p = false ∧ Lib.trimPrefix s p = s ∧ ∀ t, s ≠ p ++ t) := by
 unfold Lib.trimPrefix
 cases hp : Lib.hasPrefix s p with
 | true =>
  obtain ⟨t, ht⟩ := List.isPrefixOf_iff_prefix.1 hp
  refine .inl ⟨rfl, ?_⟩
  rw [if_pos rfl, ← ht]
  simp
 | false =>
  refine .inr ⟨rfl, by simp, fun t e => ?_⟩
  have : Lib.hasPrefix s p = true := List.isPrefixOf_iff_prefix.2 ⟨t, e.symm⟩
  rw [hp] at this; cases this
theorem cutPre_calls {h : Heap} (s p : By) : CallsH Tryd.prog 42 #[.string (bs s), .string (bs p)] h (Ret fun r h' => (∃ t f, r = .tuple #[.string (bs t), .bool f] ∧ t.length ≤ s.length ∧ ((f = true ∧ s = p ++ t) ∨ (f = false ∧ t = s ∧ ∀ t, s ≠ p ++ t))) ∧ h' = h) := by
 refine CallsH.ofBelow fun w hw => ?_
 subst hw
 refine (Tryd.strings_CutPrefix (bs s) (bs p) w).mono ?_
 rintro e w' ⟨rfl, rfl⟩
 rw [bs_list, bs_list]
 exact ⟨_, rfl, ⟨⟨_, _, rfl, Lib.trimPrefix_le s p, pre_spec s p⟩, rfl⟩, rfl, rfl, rfl⟩
def oneS : By → Bool
 | [c] => decide (32 < c.toNat ∧ c.toNat < 127)
 | _ => false
theorem oneS_no {s : By} (h : ¬ s.length = 1) : oneS s = false := by
 match s, h with
 | [], _ => rfl
 | [c], h => exact absurd rfl h
 | _ :: _ :: _, _ => rfl
theorem oneS_yes {s : By} (h : oneS s = true) : ∃ c : UInt8, s = [c] ∧ 32 < c.toNat ∧ c.toNat < 127 := by
 match s, h with
 | [], h => cases h
 | [c], h => exact ⟨c, rfl, of_decide_eq_true h⟩
 | _ :: _ :: _, h => cases h
theorem wrap_i32 {i : Int} (h : -2147483648 ≤ i ∧ i < 2147483648) : IntKind.i32.wrap i = i := by
 have h8 : (2:Int) ^ 32 = 4294967296 := rfl
 have h7 : (2:Int) ^ 31 = 2147483648 := rfl
 simp only [IntKind.wrap, IntKind.bits, IntKind.signed, h8, h7, Bool.true_and]
 split <;> rename_i k <;> simp at k <;> omega
theorem i32_range (x : Int) : R32 (IntKind.i32.wrap x) := by
 have h8 : (2:Int) ^ 32 = 4294967296 := rfl
 have h7 : (2:Int) ^ 31 = 2147483648 := rfl
 unfold R32
 simp only [IntKind.wrap, IntKind.bits, IntKind.signed, h8, h7, Bool.true_and]
 split <;> rename_i k <;> simp at k <;> omega
def UnsR (s : By) (v : Int) (ok : Bool) : Prop := R32 v ∧ ((ok = true ∧ goodP v ∧ signP v = s) ∨ (ok = false ∧ ∀ v', goodP v' → signP v' ≠ s))
theorem unsign_calls {h : Heap} (hg : StrG h) (s : By) (hs : s.length ≤ 1000000) : CallsH Tryd.prog 40 #[.string (bs s)] h (Ret fun r h' => (∃ v ok, r = .tuple #[.int .i32 v, .bool ok] ∧ UnsR s v ok) ∧ Ext0 h h') := by
 have hz := bs_size s
 refine CallsH.of Tryd.func40 rfl rfl ?_
 refine xrd Tryd.func40 2 [0, 2, 3] rfl ?_
 refine G.seq rfl ?_
 refine G.seq rfl ?_
 refine G.regTo1 [(21, .bool (oneS s))] [(0, _), (2, _), (3, _)] ⟨rfl, rfl, rfl, trivial⟩ Tryd.func40 rfl ?_ ?_
 · refine xqp 1 rfl rfl (OpP.lenString Tryd.underlying9 rfl) ?_
   refine xqm 2 rfl ?_
   refine RW.split (d := 12) rfl (fun c => ?_) (fun c => ?_)
   · have c1 : s.length = 1 := by have := of_decide_eq_true c; omega
     obtain ⟨x, rfl⟩ : ∃ x, s = [x] := List.length_eq_one_iff.1 c1
     refine xqp 1 rfl rfl (OpP.indexStr Tryd.underlying9 rfl rfl 0 rfl (bs_at (l := [x]) rfl)) ?_
     refine xqm 3 rfl ?_
     refine RW.split (d := 17) rfl (fun d => ?_) (fun d => ?_)
     · have d := of_decide_eq_true d
       refine xqp 1 rfl rfl (OpP.indexStr Tryd.underlying9 rfl rfl 0 rfl (bs_at (l := [x]) rfl)) ?_
       refine xqm 2 rfl ?_
       refine RW.done rfl ?_
       exact ⟨rfl, at_bool rfl (by rw [show oneS [x] = decide (32 < x.toNat ∧ x.toNat < 127) from rfl, decide_eq_decide]; omega), rfl, rfl, rfl, trivial⟩
     · have d := of_decide_eq_false d
       refine xqm 4 rfl ?_
       refine RW.done rfl ?_
       exact ⟨rfl, at_bool rfl (by rw [eq_comm, show oneS [x] = decide (32 < x.toNat ∧ x.toNat < 127) from rfl, decide_eq_false]; omega), rfl, rfl, rfl, trivial⟩
   · have c := of_decide_eq_false c
     refine xqm 9 rfl ?_
     refine RW.done rfl ?_
     exact ⟨rfl, at_bool rfl (by rw [oneS_no (by omega)]), rfl, rfl, rfl, trivial⟩
 · refine G.cond rfl rfl (fun hc => ?_) (fun hc => ?_)
   · obtain ⟨c, rfl, hc1, hc2⟩ := oneS_yes hc
     refine xra Tryd.func40 1 rfl ?_
     refine xp rfl (OpP.indexStr Tryd.underlying9 rfl rfl 0 rfl (bs_at (l := [c]) rfl)) ?_
     refine xp rfl (OpP.convIn Tryd.underlying5 Tryd.underlying21 rfl (wrap_i32 (by omega))) ?_
     refine xqd 2 [0, 2, 3, 21] rfl ?_
     refine G.ret Tryd.func40 rfl rfl ?_
     exact ⟨_, rfl, ⟨_, _, rfl, by unfold R32; omega, .inl ⟨rfl, .inl (by omega), by unfold signP; rw [if_pos (by omega)]; simp⟩⟩, Ext.refl _ _⟩
   · refine G.skip rfl ?_
     refine xra Tryd.func40 1 rfl ?_
     refine xo rfl (OpX.call (vs := [_, _]) Tryd.func42 rfl H.nm42 rfl (CallsH.toX (cutPre_calls s [85, 43]))) ?_
     rintro _ h0 ⟨⟨t, f, rfl, htl, hf⟩, hh0⟩
     refine xqd 5 [0, 2, 3, 4, 5, 21] rfl ?_
     refine xra Tryd.func40 1 rfl ?_
     subst hh0
     refine xo rfl (OpX.call (vs := [_, _, _]) Tryd.func60 rfl H.nm60 rfl (CallsH.toX (ParseInt_calls hg t (by omega)))) ?_
     rintro _ h1 ⟨⟨v, e, rfl, hv, he, hvx⟩, e1⟩
     refine xqd 5 [0, 2, 3, 4, 5, 6, 7, 21] rfl ?_
     refine xra Tryd.func40 1 rfl ?_
     refine xp rfl (OpP.convInt Tryd.underlying2 Tryd.underlying21 rfl) ?_
     refine xqd 1 [0, 2, 3, 4, 5, 6, 7, 8, 21] rfl ?_
     refine G.seq rfl ?_
     have hall : ∀ v', goodP v' → signP v' = s → f = true ∧ e = .nilIface ∧ IntKind.i32.wrap v = v' := by
      intro v' hv' e'
      have hr := good_ge hv'
      unfold signP at e'
      split at e'
      · rename_i k
        rw [← e'] at hc
        exact absurd (of_decide_eq_false hc) (fun z => z ⟨by rw [UInt8.toNat_ofNat']; omega, by rw [UInt8.toNat_ofNat']; omega⟩)
      · rw [hexI_good hr.1] at e'
        rcases hf with ⟨h1, h2⟩ | ⟨_, _, h3⟩
        · have ht : t = hexP v'.toNat := by
           have := e'.trans h2
           exact (List.cons.inj (List.cons.inj this).2).2.symm
          obtain ⟨k1, k2⟩ := hvx v'.toNat ht (by omega)
          refine ⟨h1, k2, ?_⟩
          rw [k1, wrap_i32 (by omega)]; omega
        · exact absurd e'.symm (h3 _)
     have hfalse : ∀ b : Bool, b = false → (¬ (f = true ∧ e = .nilIface ∧ signP (IntKind.i32.wrap v) = s ∧ goodP (IntKind.i32.wrap v))) → UnsR s (IntKind.i32.wrap v) b := fun b hb hn => ⟨i32_range _, .inr ⟨hb, fun v' hv' e' => by
      obtain ⟨k1, k2, k3⟩ := hall v' hv' e'
      exact hn ⟨k1, k2, by rw [k3]; exact e', by rw [k3]; exact hv'⟩⟩⟩
     have hg1 := hg.ext0 e1
     refine G.reg Tryd.func40 rfl ?_
     refine xqm 3 rfl ?_
     refine RW.split (d := 39) rfl (fun c => ?_) (fun c => ?_)
     · have c : f = true := c
       refine xqp 1 rfl rfl (OpP.eqlIface Tryd.underlying87 rfl he) ?_
       refine xqm 2 rfl ?_
       refine RW.split (d := 43) rfl (fun d => ?_) (fun d => ?_)
       · refine xqm 1 rfl ?_
         refine xo rfl (OpX.call (vs := [_]) Tryd.func35 rfl H.nm35 rfl (CallsH.toX (sign_calls hg1 _ (i32_range v)))) ?_
         rintro _ h2 ⟨rfl, e2⟩
         refine xqp 1 rfl rfl (OpP.eqlStr rfl rfl) ?_
         refine xqm 2 rfl ?_
         refine RW.split (d := 49) rfl (fun k => ?_) (fun k => ?_)
         · have k : signP (IntKind.i32.wrap v) = s := bs_inj (of_decide_eq_true k)
           refine xqm 1 rfl ?_
           refine xo rfl (OpX.call (vs := [_]) Tryd.func54 rfl H.nm54 rfl (CallsH.toX (valid_calls _))) ?_
           rintro _ _ ⟨rfl, rfl⟩
           refine xqd 3 [0, 2, 3, 4, 5, 6, 7, 8, 21] rfl ?_
           refine G.ret Tryd.func40 rfl rfl ?_
           refine ⟨_, rfl, ⟨_, _, rfl, ?_⟩, e1.trans e2⟩
           by_cases q : goodP (IntKind.i32.wrap v)
           · exact ⟨i32_range _, .inl ⟨decide_eq_true q, q, k⟩⟩
           · exact hfalse _ (decide_eq_false q) (fun z => q z.2.2.2)
         · have k : signP (IntKind.i32.wrap v) ≠ s := fun z => of_decide_eq_false k (by rw [z])
           refine xqd 5 [0, 2, 3, 4, 5, 6, 7, 8, 21] rfl ?_
           refine G.ret Tryd.func40 rfl rfl ?_
           exact ⟨_, rfl, ⟨_, _, rfl, hfalse _ rfl (fun z => k z.2.2.1)⟩, e1.trans e2⟩
       · have d : e ≠ .nilIface := fun z => by rw [z] at d; cases d
         refine xqd 11 [0, 2, 3, 4, 5, 6, 7, 8, 21] rfl ?_
         refine G.ret Tryd.func40 rfl rfl ?_
         exact ⟨_, rfl, ⟨_, _, rfl, hfalse _ rfl (fun z => d z.2.1)⟩, e1⟩
     · have c : f = false := c
       refine xqd 15 [0, 2, 3, 4, 5, 6, 7, 8, 21] rfl ?_
       refine G.ret Tryd.func40 rfl rfl ?_
       exact ⟨_, rfl, ⟨_, _, rfl, hfalse _ rfl (fun z => by rw [c] at z; cases z.1)⟩, e1⟩
def idxB (c : UInt8) : Int := Lib.indexByte digsB c
def unbX (a b : UInt8) : UInt8 := UInt8.ofNat (IntKind.u8.wrap (16 * idxB a + idxB b)).toNat
def unbG : By → By
 | a :: b :: r => unbX a b :: unbG r
 | _ => []
theorem idx_dig : ∀ d, d < 16 → idxB (digP d) = d := by decide +kernel
theorem idx_all : ∀ n, n < 256 → -1 ≤ idxB (UInt8.ofNat n) ∧ idxB (UInt8.ofNat n) < 16 := by decide +kernel
theorem idx_range (c : UInt8) : -1 ≤ idxB c ∧ idxB c < 16 := by
 have := idx_all c.toNat c.toNat_lt
 rwa [UInt8.ofNat_toNat] at this
theorem unbX_int (a b : UInt8) : ((unbX a b).toNat : Int) = IntKind.u8.wrap (16 * idxB a + idxB b) := by
 have := u8_range (16 * idxB a + idxB b)
 unfold unbX
 rw [UInt8.toNat_ofNat']
 omega
theorem unbG_bytes : ∀ t : By, unbG (bytesP t) = t
 | [] => rfl
 | b :: t => by
  have := b.toNat_lt
  rw [bytes_cons, unbG, unbG_bytes t]
  unfold unbX
  rw [idx_dig _ (by omega), idx_dig _ (by omega), wrap_u8 (by omega), show (16 * ((b.toNat / 16 : Nat) : Int) + ((b.toNat % 16 : Nat) : Int)).toNat = b.toNat by omega, UInt8.ofNat_toNat]
theorem unbG_len : ∀ s : By, 2 * (unbG s).length ≤ s.length
 | [] => by simp [unbG]
 | [_] => by simp [unbG]
 | _ :: _ :: r => by have := unbG_len r; simp only [unbG, List.length_cons]; omega
theorem unbG_short {s : By} (h : s.length ≤ 1) : unbG s = [] := by
 match s, h with
 | [], _ => rfl
 | [_], _ => rfl
theorem idxB_calls {h : Heap} (c : UInt8) : CallsH Tryd.prog 62 #[.string (bs digsB), .int .u8 c.toNat] h (Ret fun r h' => r = .int .i64 (idxB c) ∧ h' = h) := by
 have k := indexByte_calls (h := h) (bs digsB) (c.toNat : Int)
 rw [bs_list] at k
 have e : ((c.toNat : Int).toNat.toUInt8) = c := by simp
 rw [e] at k
 exact k
theorem unbytes_calls {h : Heap} (s : By) (hs : s.length ≤ 1000000) : CallsH Tryd.prog 43 #[.string (bs s)] h (Ret fun r h' => r = .tuple #[.string (bs (unbG s)), .bool (decide (bytesP (unbG s) = s))] ∧ Ext0 h h') := by
 have hz := bs_size s
 refine CallsH.of Tryd.func43 rfl rfl ?_
 refine xrd Tryd.func43 2 [0, 2, 3] rfl ?_
 refine xrd Tryd.func43 1 [0, 2, 3, 4] rfl ?_
 refine G.seq rfl ?_
 refine xrd Tryd.func43 1 [0, 2, 3, 4, 5] rfl ?_
 refine G.block rfl rfl ?_
 refine G.loop (σ := Nat × Value × By) (fun q => [(0, .string (bs s)), (4, q.2.1), (5, .int .i64 (q.1 : Nat))]) (fun q h' => (q.1 ≤ s.length + 1 ∧ q.2.2 ++ unbG (s.drop q.1) = unbG s) ∧ OwB h' h.size 5 q.2.1 q.2.2 ∧ Ext0 h h') (fun q => s.length + 2 - q.1) ((0, .slice none 0 0, [])) rfl ⟨rfl, rfl, rfl, trivial⟩ ⟨⟨Nat.zero_le _, rfl⟩, OwE.nil _ _ _ _, Ext.refl _ _⟩ ?_
 rintro ⟨i, v, acc⟩ g ⟨⟨hi, hx⟩, hv, eg⟩ ih
 try dsimp only
 dsimp only at hi hx hv
 have zg := eg.size
 have hal : acc.length ≤ s.length := by
  have h1 := unbG_len s
  have := congrArg List.length hx
  rw [List.length_append] at this
  omega
 refine G.seq rfl ?_
 refine xra Tryd.func43 1 rfl ?_
 refine xp rfl (OpP.add64 rfl rfl ⟨by omega, by omega⟩) ?_
 refine xqp 1 rfl rfl (OpP.lenString Tryd.underlying9 rfl) ?_
 refine xqd 1 [0, 4, 5, 10] rfl ?_
 refine G.ite rfl rfl (fun hlt => ?_) (fun hlt => ?_)
 · have hil : i + 1 < s.length := by omega
   obtain ⟨a, ha⟩ : ∃ a, s[i]? = some a := ⟨_, List.getElem?_eq_getElem (show i < s.length by omega)⟩
   obtain ⟨b, hb⟩ : ∃ b, s[i + 1]? = some b := ⟨_, List.getElem?_eq_getElem hil⟩
   have hd : s.drop i = a :: b :: s.drop (i + 2) := by
    rw [List.drop_eq_getElem_cons (show i < s.length by omega), List.drop_eq_getElem_cons hil]
    rw [List.getElem?_eq_getElem (show i < s.length by omega)] at ha
    rw [List.getElem?_eq_getElem hil] at hb
    cases ha; cases hb; rfl
   have ra := idx_range a
   have rb := idx_range b
   refine G.skip rfl ?_
   refine G.seq rfl ?_
   refine G.block rfl rfl ?_
   refine G.draw (fun x => but v.ownBlock x ∨ Array.size g ≤ x) (fun i => Nat.blt i 16) (sz := 16) (listed := #[false, false, false, false, false, false, false, false, false, false, false, false, false, false, false, false]) Tryd.func43 H.mixed rfl rfl rfl ?_
   refine xtq 0 1 (by kernel_rfl) rfl ?_
   refine xtq 1 3 (by kernel_rfl) rfl ?_
   refine xtq 2 7 (by kernel_rfl) rfl ?_
   refine xtp 3 15 (by kernel_rfl) rfl (fun h' e => OpP.indexStr Tryd.underlying9 rfl rfl i rfl (bs_at ha)) ?_
   refine xtq 6 79 (by kernel_rfl) rfl ?_
   refine xtq 7 207 (by kernel_rfl) rfl ?_
   refine xtp 8 463 (by kernel_rfl) rfl (fun h' e => OpP.add64 rfl rfl ⟨by omega, by omega⟩) ?_
   refine xtp 9 975 (by kernel_rfl) rfl (fun h' e => OpP.indexStr Tryd.underlying9 rfl rfl (i + 1) (by omega) (bs_at hb)) ?_
   refine xto 4 991 (by kernel_rfl) rfl (OpX.call (vs := [_, _]) Tryd.func62 rfl H.nm62 rfl (CallsH.toX (idxB_calls a))) ?_
   rintro _ g ⟨rfl, rfl⟩
   refine ⟨fun _ => Ext.refl _ _, ?_⟩
   refine xtp 5 1023 (by kernel_rfl) rfl (fun h' e => OpP.mul64 rfl rfl ⟨by omega, by omega⟩) ?_
   refine xto 10 2047 (by kernel_rfl) rfl (OpX.call (vs := [_, _]) Tryd.func62 rfl H.nm62 rfl (CallsH.toX (idxB_calls b))) ?_
   rintro _ g ⟨rfl, rfl⟩
   refine ⟨fun _ => Ext.refl _ _, ?_⟩
   refine xtp 11 4095 (by kernel_rfl) rfl (fun h' e => OpP.add64 rfl rfl ⟨by omega, by omega⟩) ?_
   refine xtp 12 8191 (by kernel_rfl) rfl (fun h' e => OpP.convInt Tryd.underlying3 Tryd.underlying5 rfl) ?_
   refine xto 13 16383 (by kernel_rfl) rfl (OpX.buildOnes (us := [_]) Tryd.underlying83 H.el5 rfl rfl (by decide) (by simp [Value.oneCell'])) ?_
   rintro _ _ ⟨rfl, rfl⟩
   refine ⟨fun _ => by first | exact Ext.push _ _ _ | assumption, ?_⟩
   refine xto 14 32767 (by kernel_rfl) rfl (OpX.appendNew Tryd.underlying83 H.el5 rfl rfl (hv) rfl rfl (by first | decide | simp [Value.oneCell']) (by omega) (by decide) (by omega)) ?_
   rintro v2 g2 ⟨ho2, hx2, hx2', hv2⟩
   refine ⟨fun _ => hx2'.mono (fun _ _ k => .inl k), ?_⟩
   refine xtq 15 65535 (by kernel_rfl) rfl ?_
   refine RD.done (by kernel_rfl) ?_
   refine xu [0, 4, 5, 10] rfl ?_
   refine G.blkEnd ?_
   refine G.reg Tryd.func43 rfl ?_
   refine xqp 1 rfl rfl (OpP.add64 rfl rfl ⟨by omega, by omega⟩) ?_
   refine xqd 1 [0, 4, 5, 10] rfl ?_
   have hv3 : OwB g2 h.size 5 v2 (acc ++ [unbX a b]) := by
    show OwnH _ _ _ _ _ _ _
    rw [List.length_append, List.map_append]
    have e : [unbX a b].map encB = [Value.int .u8 (IntKind.u8.wrap (16 * idxB a + idxB b))] := by simp only [List.map_cons, List.map_nil, encB, unbX_int]
    rw [e]
    exact ho2
   have e3 := OwE.grown eg hv (Nat.le_refl _) hx2
   exact ih (i + 2, v2, acc ++ [unbX a b]) _ _ ⟨rfl, rfl, rfl, trivial⟩ ⟨⟨by show i + 2 ≤ _; omega, by rw [← hx, hd, unbG, List.append_assoc]; rfl⟩, hv3, e3⟩ (by show s.length + 2 - (i + 2) < s.length + 2 - i; omega)
 · have hdn : unbG (s.drop i) = [] := unbG_short (by rw [List.length_drop]; omega)
   rw [hdn, List.append_nil] at hx
   subst hx
   have hsl : SlR .byte g (fun x => ¬ h.size ≤ x) v (unbG s) := OwE.read (h1 := fun _ => rfl) hv (fun b hb k => k hb)
   have hul := unbG_len s
   refine G.exit rfl rfl ?_
   refine G.seq rfl ?_
   refine G.draw (fun _ => False) (fun i => Nat.blt i 9) (sz := 9) (listed := #[false, false, false, false, false, false, false, false, false]) Tryd.func43 H.mixed rfl rfl rfl ?_
   refine xtq 0 1 (by kernel_rfl) rfl ?_
   refine xtp 1 3 (by kernel_rfl) rfl (fun h' e => OpP.convBytes Tryd.underlying83 Tryd.underlying5 Tryd.underlying9 rfl (hsl.mv (Mv.ext0 e))) ?_
   refine xtq 2 7 (by kernel_rfl) rfl ?_
   refine xtp 3 15 (by kernel_rfl) rfl (fun h' e => OpP.convBytes Tryd.underlying83 Tryd.underlying5 Tryd.underlying9 rfl (hsl.mv (Mv.ext0 e))) ?_
   refine xtq 5 47 (by kernel_rfl) rfl ?_
   refine xto 4 63 (by kernel_rfl) rfl (OpX.call (vs := [_]) Tryd.func36 rfl H.nm36 rfl (CallsH.toX (bytes_calls (unbG s) (by omega)))) ?_
   rintro _ g2 ⟨rfl, e2⟩
   refine ⟨fun _ => e2, ?_⟩
   refine xtp 6 127 (by kernel_rfl) rfl (fun h' e => OpP.eqlStr rfl rfl) ?_
   refine xtq 7 255 (by kernel_rfl) rfl ?_
   refine xtq 8 511 (by kernel_rfl) rfl ?_
   refine RD.done (by kernel_rfl) ?_
   refine xu [0, 2, 3, 4, 5, 10] rfl ?_
   refine G.ret Tryd.func43 rfl rfl ?_
   exact ⟨_, rfl, by rw [← bs_eq]; rfl, eg.trans e2⟩
theorem may_cases {k : Ky} (h : mayP k = true) : (goodP k.2.1 ∧ k.2.2 = [] ∧ ((k.1 = 1 ∧ wordK k = signP k.2.1) ∨ (k.1 = 6 ∧ wordK k = [67, 45] ++ signP k.2.1) ∨ (k.1 = 7 ∧ wordK k = [77, 45] ++ signP k.2.1))) ∨
 (k.2.1 = 0 ∧ ((k.1 = 15 ∧ wordK k = pasteB ++ bytesP k.2.2) ∨ (k.1 = 0 ∧ wordK k = invalB ++ bytesP k.2.2))) ∨ ∃ n : Nat, k.1 = n ∧ n < 15 ∧ k.2.1 = 0 ∧ k.2.2 = [] ∧ namesL.getD n [] ≠ [] ∧ wordK k = namesL.getD n [] := by
 unfold wordK
 by_cases h3 : k.1 = 1 ∨ k.1 = 6 ∨ k.1 = 7
 · rw [may_rune h3] at h
   have h := of_decide_eq_true h
   refine .inl ⟨h.1, h.2, ?_⟩
   rcases h3 with e | e | e <;> simp [e]
 · by_cases h2 : k.1 = 15 ∨ k.1 = 0
   · rw [may_text h2] at h
     refine .inr (.inl ⟨of_decide_eq_true h, ?_⟩)
     rcases h2 with e | e <;> simp [e]
   · rw [may_spec h3 h2] at h
     have h := of_decide_eq_true h
     obtain ⟨n, e, hn, e2⟩ := specP_mem h.1
     refine .inr (.inr ⟨n, e, hn, h.2.1, h.2.2, by rw [← e2]; exact h.1, ?_⟩)
     rw [if_neg (fun q => h3 (.inl q)), if_neg (fun q => h3 (.inr (.inl q))), if_neg (fun q => h3 (.inr (.inr q))), if_neg (fun q => h2 (.inl q)), if_neg (fun q => h2 (.inr q)), e2]
theorem no_key {s : By} (h1 : ∀ v, goodP v → signP v ≠ s) (h2 : ∀ n, n < 15 → namesL.getD n [] ≠ [] → namesL.getD n [] ≠ s) (h6 : ∀ v, goodP v → [67, 45] ++ signP v ≠ s) (h7 : ∀ v, goodP v → [77, 45] ++ signP v ≠ s)
 (h15 : ∀ t, pasteB ++ bytesP t ≠ s) (h0 : ∀ t, invalB ++ bytesP t ≠ s) : ∀ k, mayP k = true → wordK k ≠ s := by
 intro k hk e
 rcases may_cases hk with ⟨g, _, ⟨_, w⟩ | ⟨_, w⟩ | ⟨_, w⟩⟩ | ⟨_, ⟨_, w⟩ | ⟨_, w⟩⟩ | ⟨n, _, hn, _, _, hne, w⟩
 · exact h1 _ g (w ▸ e)
 · exact h6 _ g (w ▸ e)
 · exact h7 _ g (w ▸ e)
 · exact h15 _ (w ▸ e)
 · exact h0 _ (w ▸ e)
 · exact h2 n hn hne (w ▸ e)
theorem key_rune {v : Int} (h : goodP v) : mayP (1, v, []) = true ∧ wordK (1, v, []) = signP v := ⟨by rw [may_rune (.inl rfl)]; exact decide_eq_true ⟨h, rfl⟩, rfl⟩
theorem key_name : ∀ n, n < 15 → namesL.getD n [] ≠ [] → mayP ((n : Nat), 0, []) = true ∧ wordK ((n : Nat), 0, []) = namesL.getD n [] := by decide
def namesZ : List ByteArray := namesL.map bs
theorem namesZ_at (j : Nat) (hj : j < 15) : namesZ.getD j ByteArray.empty = bs (namesL.getD j []) := by
 unfold namesZ
 rw [List.getD_eq_getElem?_getD, List.getElem?_map, List.getD_eq_getElem?_getD, List.getElem?_eq_getElem (show j < namesL.length from hj)]
 rfl
def IdxR (s : By) (i : Int) : Prop := (∃ n : Nat, i = n ∧ n < 15 ∧ namesL.getD n [] = s) ∨ (i < 0 ∧ ∀ n, n < 15 → namesL.getD n [] ≠ s)
theorem idx_spec (s : By) : IdxR s (Lib.idxOfS (namesZ.take 15) (bs s)) := by
 by_cases h : ∃ n, n < 15 ∧ namesL.getD n [] = s
 · have hd : ∃ n, n < 15 ∧ namesL.getD n [] = s ∧ ∀ j, j < n → namesL.getD j [] ≠ s := by
    obtain ⟨n, hn, e⟩ := h
    induction n using Nat.strongRecOn with
    | ind n ih =>
     by_cases q : ∃ j, j < n ∧ namesL.getD j [] = s
     · obtain ⟨j, hj, e'⟩ := q
       exact ih j hj (by omega) e'
     · exact ⟨n, hn, e, fun j hj e' => q ⟨j, hj, e'⟩⟩
   obtain ⟨n, hn, e, hm⟩ := hd
   refine .inl ⟨n, ?_, hn, e⟩
   exact Lib.idxOfS_hit namesZ 15 n (bs s) hn (by decide) (by rw [namesZ_at n hn, e]) (fun j hj k => hm j hj (bs_inj (by rw [← namesZ_at j (by omega)]; exact k)))
 · refine .inr ⟨?_, fun n hn e => h ⟨n, hn, e⟩⟩
   rw [Lib.idxOfS_miss namesZ 15 (bs s) (fun j hj k => h ⟨j, hj, bs_inj (by rw [← namesZ_at j hj]; exact k)⟩)]
   decide
theorem index_calls {h : Heap} (hg : NamesAt h) (s : By) : CallsH Tryd.prog 41 #[.slice (some ⟨0, 0, none⟩) 15 15, .string (bs s)] h (Ret fun r h' => (∃ i, r = .int .i64 i ∧ IdxR s i) ∧ h' = h) := by
 refine CallsH.ofBelow fun w hw => ?_
 subst hw
 refine (Tryd.slices_Index_string 0 0 15 15 namesZ (bs s) w (by decide) (by decide) (fun j hj => ?_)).mono ?_
 · have hj : j < 15 := hj
   rw [namesZ_at j hj, Nat.zero_add]
   exact hg j hj
 · rintro e w' ⟨rfl, rfl⟩
   exact ⟨_, rfl, ⟨⟨_, rfl, idx_spec s⟩, rfl⟩, rfl, rfl, rfl⟩
end Go.Proofs.YteicdopggikieaaDoor
namespace Go.Proofs.YteicdopggikieaaDoor
open Go
def valR (b : UInt8) : Nat := if 48 ≤ b.toNat ∧ b.toNat < 58 then b.toNat - 48 else if 97 ≤ b.toNat ∧ b.toNat < 103 then b.toNat - 87 else 0
def numR (l : By) : Nat := l.foldl (fun a b => 16 * a + valR b) 0
def unsR (w : By) : Nat := if w.length = 1 then (w.headD 0).toNat else numR ((w.take 9).drop 2)
def unbR : By → By
 | a :: b :: l => UInt8.ofNat (16 * valR a + valR b) :: unbR l
 | _ => []
def candL (w : By) : List Ky :=
 [((1 : Int), (unsR w : Int), [])] ++ (if 2 < w.length then [((6 : Int), (unsR (w.drop 2) : Int), []), ((7 : Int), (unsR (w.drop 2) : Int), [])] else []) ++
  (if 5 < w.length then [((15 : Int), (0 : Int), unbR (w.drop 6))] else []) ++ (if 7 < w.length then [((0 : Int), (0 : Int), unbR (w.drop 8))] else []) ++ (List.range 15).map fun (n : Nat) => ((n : Int), (0 : Int), ([] : By))
def findK (w : By) : List Ky → Option Ky
 | [] => none
 | k :: l => if w ≠ [] ∧ nameP k = w then some k else findK w l
end Go.Proofs.YteicdopggikieaaDoor
namespace Go.Lw
section
variable {P : Program} {ρ : Env} {h : Heap} {dst : Option Nat} {ty : TypeId} {pos : String} {after : Array Edge} {guard : Option (Nat × Bool)} {X : List PanicEntry → Heap → Prop}
theorem OpX.buildEmpty {t e : TypeId} {size bytes : Nat} (ht : P.underlying t = some (.slice e)) (he : ElemT P e size bytes) :
 OpX P ⟨dst, .buildSlice t 0 #[], ty, pos, after, guard⟩ ρ h (fun u g => u = .slice (some ⟨h.size, 0, none⟩) 0 0 ∧ g = h.push (.cells #[] e)) X :=
 OpX.buildSlice (vs := []) (cells := #[]) ht he rfl (by omega) (fun z _ => by simp [Instr.fill])
end
theorem OwnH.empty (h : Heap) (t : TypeId) (size base : Nat) (hb : base ≤ h.size) : OwnH (h.push (.cells #[] t)) base t size (.slice (some ⟨h.size, 0, none⟩) 0 0) 0 [] :=
 ⟨by simp, .inr ⟨h.size, 0, #[], rfl, hb, by simp, Nat.le_refl _, by simp [maxLen], by simp, by simp⟩⟩
theorem Sl.rowR {α : Type} {sz : Nat} {pos : 0 < sz} {enc : α → List Value} {hl : ∀ x, (enc x).length = sz} {h1 : ∀ x, ∀ v ∈ enc x, v.oneCell' = true} {h : Heap} {O : Nat → Prop} {oa : Option Addr} {n c : Nat} {xs : List α} (k : Sl (.record sz pos enc hl h1) h O oa n c xs) :
 n = 0 ∨ ∃ b o, oa = some ⟨b, o, none⟩ ∧ rowAt h b o (xs.flatMap enc) := by
 rcases Nat.eq_zero_or_pos n with h0 | h0
 · exact .inl h0
 · obtain ⟨b, o, x, ha, _, _, _⟩ := k.recd h0
   refine .inr ⟨b, o, ha, fun j v hv => ?_⟩
   have hj : j < (xs.flatMap enc).length := (List.getElem?_eq_some_iff.1 hv).1
   rw [flatMap_len hl, k.len] at hj
   have hjn : j / sz < n := Nat.div_lt_of_lt_mul (by rw [Nat.mul_comm]; exact hj)
   obtain ⟨b', o', x', ha', _, hx', hr'⟩ := k.recd hjn
   rw [ha] at ha'
   cases ha'
   have hm : j % sz < (enc x').length := by rw [hl]; exact Nat.mod_lt _ pos
   have h2 := flatMap_at hl xs (j / sz) x' (j % sz) _ hx' (List.getElem?_eq_getElem hm)
   rw [Nat.div_add_mod' j sz, hv] at h2
   obtain rfl := Option.some.inj h2
   have h3 := hr' (j % sz) _ (List.getElem?_eq_getElem hm)
   rw [Nat.add_assoc, Nat.div_add_mod' j sz] at h3
   exact h3
end Go.Lw
namespace Go.Lw
theorem fill_rec {off : Nat} : ∀ (cs : List Value) (k : Nat) (pre tl : List Value) (rest : List Value), pre.length = off + k → tl.length = cs.length →
 (cs.zipIdx k).foldl (fun (a : Array Value) (p : Value × Nat) => a.setIfInBounds (off + p.2) p.1) (pre ++ (tl ++ rest)).toArray = (pre ++ (cs ++ rest)).toArray
 | [], k, pre, tl, rest, _, hl => by
  have : tl = [] := List.eq_nil_of_length_eq_zero (by simpa using hl)
  subst this; rfl
 | c :: cs, k, pre, [], rest, hp, hl => by simp at hl
 | c :: cs, k, pre, t :: tl, rest, hp, hl => by
  rw [List.zipIdx_cons, List.foldl_cons]
  have hset : (pre ++ (t :: tl ++ rest)).toArray.setIfInBounds (off + k) c = ((pre ++ [c]) ++ (tl ++ rest)).toArray := by
   rw [← hp]
   simp [List.set_append_right]
  simp only [hset]
  rw [fill_rec cs (k + 1) (pre ++ [c]) tl rest (by simp [hp]; omega) (by simpa using hl)]
  simp
theorem fill_recs {sz : Nat} : ∀ (css : List (List Value)), (∀ c ∈ css, c.length = sz) → ∀ (k : Nat) (pre tl : List Value), pre.length = k * sz → tl.length = css.length * sz →
 Instr.fill (fun i => some (i * sz, sz)) (pre ++ tl).toArray (css.zipIdx k |>.map fun p => (p.2, Value.agg p.1.toArray)) = some (pre ++ css.flatten).toArray
 | [], _, k, pre, tl, _, hl => by
  have : tl = [] := List.eq_nil_of_length_eq_zero (by simpa using hl)
  subst this; simp [Instr.fill]
 | c :: css, h1, k, pre, tl, hp, hl => by
  have hc : c.length = sz := h1 c (by simp)
  have hl' : tl.length = sz + css.length * sz := by rw [hl, List.length_cons, Nat.add_mul]; omega
  have ih := fill_recs css (fun v hv => h1 v (by simp [hv])) (k + 1) (pre ++ c) (tl.drop sz) (by rw [List.length_append, hp, hc, Nat.add_mul]; omega) (by rw [List.length_drop]; omega)
  simp only [List.zipIdx_cons, List.map_cons, Instr.fill, Value.cells]
  have htl : tl = tl.take sz ++ tl.drop sz := (List.take_append_drop sz tl).symm
  have hf := fill_rec (off := k * sz) c 0 pre (tl.take sz) (tl.drop sz) (by rw [hp]; omega) (by rw [List.length_take]; omega)
  rw [← htl] at hf
  have h2 : ¬ (c.toArray.size ≠ sz ∨ k * sz + c.toArray.size > (pre ++ tl).toArray.size) := by simp; omega
  have hz : c.toArray.zipIdx.foldl (fun (cs : Array Value) (p : Value × Nat) => cs.setIfInBounds (k * sz + p.2) p.1) (pre ++ tl).toArray = (pre ++ (c ++ tl.drop sz)).toArray := by
   rw [← hf]
   simp
  simp only [Bool.or_eq_true, decide_eq_true_eq, if_neg h2]
  rw [if_neg (by simpa using h2)]
  rw [hz, ← List.append_assoc, ih]
  simp
section
variable {P : Program} {ρ : Env} {h : Heap} {dst : Option Nat} {ty : TypeId} {pos : String} {after : Array Edge} {guard : Option (Nat × Bool)} {X : List PanicEntry → Heap → Prop}
theorem OpX.buildRecs {t e : TypeId} {size bytes len : Nat} {ps : Array (Nat × Operand)} (ht : P.underlying t = some (.slice e)) (he : ElemT P e size bytes) (css : List (List Value))
 (hps : ps.toList.map (fun p => (p.1, opd ρ p.2)) = (css.zipIdx.map fun p => (p.2, Value.agg p.1.toArray)).map (fun p => (p.1, some p.2))) (hl : css.length = len) (hlen : len * size ≤ 16777216) (h1 : ∀ c ∈ css, c.length = size) :
 OpX P ⟨dst, .buildSlice t len ps, ty, pos, after, guard⟩ ρ h (fun u g => u = .slice (some ⟨h.size, 0, none⟩) len len ∧ g = h.push (.cells css.flatten.toArray e)) X := by
 refine OpX.buildSlice ht he hps hlen fun z hz => ?_
 have := fill_recs css h1 0 [] ((List.range (len * size)).map (fun j => z[j % z.size]!)) (by simp) (by simp [hl])
 rw [List.nil_append, List.nil_append] at this
 rw [← this]
 congr 1
 apply Array.ext'; simp
end
theorem recs_made {α : Type} {sz : Nat} {pos : 0 < sz} {enc : α → List Value} {hl : ∀ x, (enc x).length = sz} {h1 : ∀ x, ∀ v ∈ enc x, v.oneCell' = true} (h : Heap) (xs : List α) (t : TypeId) (n : Nat) (hn : xs.length = n) (hm : n ≤ maxLen) {us : List Value} (hu : us = xs.flatMap enc) : SlR (.record sz pos enc hl h1) (h.push (.cells us.toArray t)) (fun _ => False) (.slice (some ⟨h.size, 0, none⟩) n n) xs := by
 subst hn hu
 have hfl := flatMap_len hl xs
 have k : OwnH (h.push (.cells (xs.flatMap enc).toArray t)) 0 t sz (.slice (some ⟨h.size, 0, none⟩) xs.length xs.length) xs.length (xs.flatMap enc) :=
  ⟨hfl, .inr ⟨h.size, xs.length, (xs.flatMap enc).toArray, rfl, Nat.zero_le _, by simp, Nat.le_refl _, hm, by simpa using hfl, by rw [← hfl]; exact List.take_length⟩⟩
 exact OwnH.shutR k (fun _ _ k => k)
end Go.Lw
namespace Go.Proofs.YteicdopggikieaaDoor
open Go Go.Lw
set_option maxRecDepth 20000
def encAh (x : By × Int) : List Value := [.string (bs x.1), .int .i64 x.2]
abbrev eAh : Elt (By × Int) := .record 2 (by decide) encAh (fun _ => rfl) (fun x v hv => by simp [encAh] at hv; rcases hv with rfl | rfl <;> rfl)
def aheadL : List (By × Int) := [([67, 45], 6), ([77, 45], 7), (pasteB, 15), (invalB, 0)]
theorem ahead_no {p : By} {kd : Int} {s t : By} (hm : (p, kd) ∈ aheadL) (hs : s = p ++ t) (h1 : ∀ v, goodP v → signP v ≠ s) (h2 : ∀ n, n < 15 → namesL.getD n [] ≠ [] → namesL.getD n [] ≠ s)
 (hq : kd = 6 ∨ kd = 7 → ∀ v, goodP v → signP v ≠ t) (hq2 : ¬ (kd = 6 ∨ kd = 7) → ∀ t', bytesP t' ≠ t) : ∀ k, mayP k = true → wordK k ≠ s := by
 subst hs
 simp only [aheadL, List.mem_cons, List.not_mem_nil, or_false, Prod.mk.injEq] at hm
 rcases hm with ⟨rfl, rfl⟩ | ⟨rfl, rfl⟩ | ⟨rfl, rfl⟩ | ⟨rfl, rfl⟩
 · exact no_key h1 h2 (fun v hv e => hq (.inl rfl) v hv (by simpa using e)) (fun v hv e => by simp at e) (fun t e => by simp [pasteB] at e) (fun t e => by simp [invalB] at e)
 · exact no_key h1 h2 (fun v hv e => by simp at e) (fun v hv e => hq (.inr rfl) v hv (by simpa using e)) (fun t e => by simp [pasteB] at e) (fun t e => by simp [invalB] at e)
 · exact no_key h1 h2 (fun v hv e => by simp [pasteB] at e) (fun v hv e => by simp [pasteB] at e) (fun t e => hq2 (by decide) t (by simpa using e)) (fun t e => by simp [pasteB, invalB] at e)
 · exact no_key h1 h2 (fun v hv e => by simp [invalB] at e) (fun v hv e => by simp [invalB] at e) (fun t e => by simp [pasteB, invalB] at e) (fun t e => hq2 (by decide) t (by simpa using e))
theorem ahead_out {s : By} (h1 : ∀ v, goodP v → signP v ≠ s) (h2 : ∀ n, n < 15 → namesL.getD n [] ≠ [] → namesL.getD n [] ≠ s) (ho : ∀ x ∈ aheadL, ∀ t, s ≠ x.1 ++ t) : ∀ k, mayP k = true → wordK k ≠ s :=
 no_key h1 h2 (fun v _ e => ho ([67, 45], 6) (by simp [aheadL]) _ e.symm) (fun v _ e => ho ([77, 45], 7) (by simp [aheadL]) _ e.symm) (fun t e => ho (pasteB, 15) (by simp [aheadL]) _ e.symm) (fun t e => ho (invalB, 0) (by simp [aheadL]) _ e.symm)
theorem ahead_rune {p : By} {kd : Int} {v : Int} (hm : (p, kd) ∈ aheadL) (h : kd = 6 ∨ kd = 7) (hv : goodP v) : mayP (kd, v, []) = true ∧ wordK (kd, v, []) = p ++ signP v := by
 refine ⟨by rw [may_rune (.inr h)]; exact decide_eq_true ⟨hv, rfl⟩, ?_⟩
 simp only [aheadL, List.mem_cons, List.not_mem_nil, or_false, Prod.mk.injEq] at hm
 rcases hm with ⟨rfl, rfl⟩ | ⟨rfl, rfl⟩ | ⟨rfl, rfl⟩ | ⟨rfl, rfl⟩
 · rfl
 · rfl
 · omega
 · omega
theorem ahead_text {p : By} {kd : Int} {t : By} (hm : (p, kd) ∈ aheadL) (h : ¬ (kd = 6 ∨ kd = 7)) : mayP (kd, 0, t) = true ∧ wordK (kd, 0, t) = p ++ bytesP t := by
 simp only [aheadL, List.mem_cons, List.not_mem_nil, or_false, Prod.mk.injEq] at hm
 rcases hm with ⟨rfl, rfl⟩ | ⟨rfl, rfl⟩ | ⟨rfl, rfl⟩ | ⟨rfl, rfl⟩
 · omega
 · omega
 · exact ⟨rfl, rfl⟩
 · exact ⟨rfl, rfl⟩
theorem Key_calls {h : Heap} (hg : MacG h) (s : By) (hs : s.length ≤ 100000) : CallsH Tryd.prog 13 #[.string (bs s)] h (Ret fun r h' => (∃ k ok, r = .tuple #[.agg (encKy k).toArray, .bool ok] ∧ KeyR s k ok) ∧ Ext0 h h') := by
 refine CallsH.of Tryd.func13 rfl rfl ?_
 refine xr Tryd.func13 rfl ?_
 refine xo rfl (OpX.allocN H.zr27) ?_
 rintro _ h1 ⟨rfl, k1, e1, z1⟩
 refine xqd 1 [0, 2, 3] rfl ?_
 refine G.seq rfl ?_
 refine xra Tryd.func13 1 rfl ?_
 have k1 : Blk h1 h.size 27 (encKy (0, 0, [])) := k1
 have hg1 := hg.ext0 e1
 refine xo rfl (OpX.call (vs := [_]) Tryd.func40 rfl H.nm40 rfl (CallsH.toX (unsign_calls hg1.str s (by omega)))) ?_
 rintro _ h2 ⟨⟨v, ok, rfl, hv, huns⟩, e2⟩
 refine xqd 5 [0, 2, 3, 4, 5] rfl ?_
 refine xrd Tryd.func13 1 [0, 2, 3, 4, 5, 19] rfl ?_
 have k2 := k1.ext0 e2
 have e02 := e1.trans e2
 have hg2 := hg1.ext0 e2
 refine G.cond rfl rfl (fun hok => ?_) (fun hok => ?_)
 · obtain ⟨g1, g2⟩ : goodP v ∧ signP v = s := by
    rcases huns with ⟨_, a, b⟩ | ⟨a, _⟩
    · exact ⟨a, b⟩
    · exact absurd (hok.symm.trans a) (by decide)
   refine xra Tryd.func13 1 rfl ?_
   refine xp rfl (OpP.build (H.bd27_0_1 _ _) rfl) ?_
   refine RW.op0 rfl rfl rfl (OpX.storeBlk H.sz27 rfl rfl k2 (by first | rfl | (simp; done) | (simp; omega)) (by first | decide | exact of_decide_eq_true rfl | (simp; done) | (simp; omega)) (by first | decide | simp [Value.oneCell'])) ?_
   rintro _ h3 ⟨rfl, k3, x3, z3⟩
   refine xqd 1 [0, 2, 3, 4, 5, 19] rfl ?_
   have k3 : Blk h3 h.size 27 (encKy (1, v, [])) := k3
   refine G.retC Tryd.func13 rfl (.cons (ResOk.rowN H.ag27 H.sz27 rfl (k3.row) (by first | rfl | (simp; done) | (simp; omega))) (.cons (ResOk.tmp rfl) (.nil))) ?_
   exact ⟨_, rfl, ⟨_, _, rfl, .inl ⟨rfl, (key_rune g1).1, (key_rune g1).2.trans g2⟩⟩, Ext0.only e02 x3 (Nat.le_refl _)⟩
 · have hn1 : ∀ v, goodP v → signP v ≠ s := by
    rcases huns with ⟨a, _⟩ | ⟨_, b⟩
    · exact absurd (hok.symm.trans a) (by decide)
    · exact b
   refine G.skip rfl ?_
   refine G.seq rfl ?_
   refine xr Tryd.func13 rfl ?_
   refine xp rfl (OpP.sliceArrAll Tryd.underlying64 H.sz9 rfl  ) ?_
   refine xqm 1 rfl ?_
   refine xo rfl (OpX.call (vs := [_, _]) Tryd.func41 rfl H.nm41 rfl (CallsH.toX (index_calls hg2.names s))) ?_
   rintro _ h2 ⟨⟨ix, rfl, hix⟩, rfl⟩
   refine xqd 1 [0, 2, 3, 4, 5, 6, 19] rfl ?_
   refine G.seq rfl ?_
   refine G.regTo1 [(30, .bool (decide (0 ≤ ix ∧ s ≠ [])))] [(0, _), (2, _), (3, _), (4, _), (5, _), (6, _), (19, _)] ⟨rfl, rfl, rfl, rfl, rfl, rfl, rfl, trivial⟩ Tryd.func13 rfl ?_ ?_
   · refine xqm 3 rfl ?_
     refine RW.split (d := 27) rfl (fun c => ?_) (fun c => ?_)
     · have c := of_decide_eq_true c
       refine xqp 1 rfl rfl (OpP.neqStr rfl rfl) ?_
       refine xqm 1 rfl ?_
       refine RW.done rfl ?_
       exact ⟨rfl, at_bool rfl (by rw [decide_eq_decide]; exact ⟨fun e => ⟨c, fun q => e (by rw [q]; rfl)⟩, fun e q => e.2 (bs_inj (m := []) q)⟩), rfl, rfl, rfl, rfl, rfl, rfl, rfl, trivial⟩
     · have c := of_decide_eq_false c
       refine xqm 3 rfl ?_
       refine RW.done rfl ?_
       exact ⟨rfl, at_bool rfl (by rw [eq_comm, decide_eq_false]; exact fun e => c e.1), rfl, rfl, rfl, rfl, rfl, rfl, rfl, trivial⟩
   · refine G.ite rfl rfl (fun hnm => ?_) (fun hnm => ?_)
     · obtain ⟨n, rfl, hn, hns⟩ : ∃ n : Nat, ix = n ∧ n < 15 ∧ namesL.getD n [] = s := by
        rcases hix with q | ⟨q, _⟩
        · exact q
        · omega
       have hkn := key_name n hn (by rw [hns]; exact hnm.2)
       refine xra Tryd.func13 1 rfl ?_
       refine xp rfl (OpP.build (H.bd27_0 _) rfl) ?_
       refine RW.op0 rfl rfl rfl (OpX.storeBlk H.sz27 rfl rfl k2 (by first | rfl | (simp; done) | (simp; omega)) (by first | decide | exact of_decide_eq_true rfl | (simp; done) | (simp; omega)) (by first | decide | simp [Value.oneCell'])) ?_
       rintro _ h3 ⟨rfl, k3, x3, z3⟩
       refine xqd 1 [0, 2, 3, 4, 5, 6, 19, 30] rfl ?_
       have k3 : Blk h3 h.size 27 (encKy ((n : Nat), 0, [])) := k3
       refine G.retC Tryd.func13 rfl (.cons (ResOk.rowN H.ag27 H.sz27 rfl (k3.row) (by first | rfl | (simp; done) | (simp; omega))) (.cons (ResOk.tmp rfl) (.nil))) ?_
       exact ⟨_, rfl, ⟨_, _, rfl, .inl ⟨rfl, hkn.1, hkn.2.trans hns⟩⟩, Ext0.only e02 x3 (Nat.le_refl _)⟩
     · have hn2 : ∀ n, n < 15 → namesL.getD n [] ≠ [] → namesL.getD n [] ≠ s := fun n hn hne e => by
        rcases hix with ⟨m, rfl, _, _⟩ | ⟨_, q⟩
        · exact hnm ⟨by omega, by rw [← e]; exact hne⟩
        · exact q n hn e
       refine G.skip rfl ?_
       refine G.seq rfl ?_
       refine xr Tryd.func13 rfl ?_
       refine xp rfl (OpP.build (H.bd69_0_1 _ _) rfl) ?_
       refine xp rfl (OpP.build (H.bd69_0_1 _ _) rfl) ?_
       refine xp rfl (OpP.build (H.bd69_0_1 _ _) rfl) ?_
       refine xp rfl (OpP.build (H.bd69_0_1 _ _) rfl) ?_
       refine xo rfl (OpX.buildRecs Tryd.underlying70 H.el69 ([encAh ([67, 45], 6), encAh ([77, 45], 7), encAh (pasteB, 15), encAh (invalB, 0)]) rfl rfl (by decide) (by simp <;> repeat' (first | rfl | constructor))) ?_
       rintro _ h5 ⟨rfl, hh5⟩
       have e25 : Ext0 h2 h5 := by rw [hh5]; exact Ext.push _ _ _
       have hsl0 : SlR eAh h5 (fun _ => False) (.slice (some ⟨h2.size, 0, none⟩) 4 4) aheadL := by rw [hh5]; exact recs_made h2 aheadL _ 4 rfl (by decide) rfl
       obtain ⟨oa, rn, rc, hoa, hsl⟩ := hsl0.open
       cases hoa
       have k5 := k2.ext0 e25
       have e05 := e02.trans e25
       refine xp rfl (OpP.lenSlice Tryd.underlying70 rfl) ?_
       refine xqd 1 [0, 2, 3, 4, 5, 6, 19, 30, 37, 38, 39] rfl ?_
       refine G.block rfl rfl ?_
       refine G.loop (σ := Nat) (fun i => [(0, .string (bs s)), (2, .pointer (some ⟨h.size, 0, none⟩)), (3, .bool false), (37, .slice (some ⟨h2.size, 0, none⟩) 4 4), (38, .int .i64 4), (39, .int .i64 (i : Nat))]) (fun i h' => (i ≤ 4 ∧ ∀ j, j < i → ∀ x, aheadL[j]? = some x → ∀ t, s ≠ x.1 ++ t) ∧ Blk h' h.size 27 (encKy (0, 0, [])) ∧ Ext0 h5 h') (fun i => 4 - i) (0) rfl ⟨rfl, rfl, rfl, rfl, rfl, rfl, trivial⟩ ⟨⟨Nat.zero_le _, fun j hj => absurd hj (Nat.not_lt_zero _)⟩, k5, Ext.refl _ _⟩ ?_
       rintro i g ⟨⟨hi, hno⟩, kg, eg⟩ ih
       have hgg := hg2.ext0 (e25.trans eg)
       have e0g := e05.trans eg
       have zg := e0g.size
       have hkl := kg.lt
       refine xrd Tryd.func13 1 [0, 2, 3, 37, 38, 39, 40] rfl ?_
       refine G.seq rfl ?_
       refine G.ite rfl rfl (fun hlt => ?_) (fun hlt => ?_)
       · have hi4 : i < 4 := by omega
         obtain ⟨b, o, ⟨p, kd⟩, ha, _, hx, hrow⟩ := (hsl.mv (Mv.ext0 eg)).recd hi4
         have hmem : (p, kd) ∈ aheadL := List.mem_of_getElem? hx
         refine G.skip rfl ?_
         refine G.seq rfl ?_
         refine G.block rfl rfl ?_
         refine xr Tryd.func13 rfl ?_
         refine xp rfl (OpP.indexSlice Tryd.underlying70 H.sz69 rfl rfl i rfl ha (by omega)) ?_
         refine xp rfl (OpP.loadRowN H.ag69 H.sz69 rfl hrow (by first | rfl | (simp; done) | (simp; omega))) ?_
         refine xo rfl (OpX.allocN H.zr69) ?_
         rintro _ h6 ⟨rfl, k6, e6, z6⟩
         refine RW.op0 rfl rfl rfl (OpX.storeBlk H.sz69 rfl rfl k6 (by first | rfl | (simp; done) | (simp; omega)) (by first | decide | exact of_decide_eq_true rfl | (simp; done) | (simp; omega)) (fun v hv => by simp [encAh] at hv; rcases hv with rfl | rfl <;> rfl)) ?_
         rintro _ h7 ⟨rfl, k7, x7, z7⟩
         refine xd [0, 2, 3, 8, 37, 38, 39, 40] rfl ?_
         refine xra Tryd.func13 1 rfl ?_
         refine xp rfl (OpP.fieldAddr (off := 0) Tryd.underlying69 rfl rfl H.sz9 rfl) ?_
         have k7 : Blk h7 g.size _ [.string (bs p), .int .i64 kd] := k7
         have kz := (kg.ext0 e6).ext x7 (show ¬ h.size = g.size by omega)
         have e07 := Ext0.only (e0g.trans e6) x7 (show h.size ≤ g.size by omega)
         have e57 := Ext0.only (eg.trans e6) x7 (show h5.size ≤ g.size from eg.size)
         have hg7 := hgg.ext0 (Ext0.only e6 x7 (Nat.le_refl _))
         refine xp rfl (OpP.load H.ag9 rfl (k7.cell (i := 0) rfl)) ?_
         refine xo rfl (OpX.call (vs := [_, _]) Tryd.func42 rfl H.nm42 rfl (CallsH.toX (cutPre_calls s p))) ?_
         rintro _ h7 ⟨⟨t, f, rfl, htl, hf⟩, rfl⟩
         refine xqd 5 [0, 2, 3, 8, 9, 10, 37, 38, 39, 40] rfl ?_
         refine G.seq rfl ?_
         refine xrd Tryd.func13 2 [0, 2, 3, 8, 9, 10, 37, 38, 39, 40, 51] rfl ?_
         refine G.cond rfl rfl (fun hnf => ?_) (fun hnf => ?_)
         · have hf' : ∀ t, s ≠ p ++ t := by
            rcases hf with ⟨q, _⟩ | ⟨_, _, q⟩
            · rw [q] at hnf; cases hnf
            · exact q
           refine G.exit rfl rfl ?_
           refine G.reg Tryd.func13 rfl ?_
           refine xp rfl (OpP.add64 rfl rfl ⟨by omega, by omega⟩) ?_
           refine xqd 1 [0, 2, 3, 8, 9, 10, 37, 38, 39, 40, 51] rfl ?_
           exact ih (i + 1) _ _ ⟨rfl, rfl, rfl, rfl, rfl, rfl, trivial⟩ ⟨⟨by omega, fun j hj x hx' => by
            by_cases q : j < i
            · exact hno j q x hx'
            · have : j = i := by omega
              subst this
              rw [hx] at hx'; cases hx'
              exact hf'⟩, kz, e57⟩ (by omega)
         · have hsp : s = p ++ t := by
            rcases hf with ⟨_, q⟩ | ⟨q, _⟩
            · exact q
            · rw [q] at hnf; cases hnf
           refine G.skip rfl ?_
           refine G.seq rfl ?_
           refine G.seq rfl ?_
           refine G.regTo1 [(59, .bool (decide (kd = 6 ∨ kd = 7)))] [(0, _), (2, _), (3, _), (8, _), (9, _), (10, _), (37, _), (38, _), (39, _), (40, _), (51, _)] ⟨rfl, rfl, rfl, rfl, rfl, rfl, rfl, rfl, rfl, rfl, rfl, trivial⟩ Tryd.func13 rfl ?_ ?_
           · refine xp rfl (OpP.fieldAddr (off := 1) Tryd.underlying69 rfl rfl H.sz3 rfl) ?_
             refine xp rfl (OpP.load H.ag3 rfl (k7.cell (i := 1) rfl)) ?_
             refine xqm 2 rfl ?_
             refine RW.split (d := 55) rfl (fun c => ?_) (fun c => ?_)
             · have c := of_decide_eq_true c
               refine xqm 4 rfl ?_
               refine RW.done rfl ?_
               exact ⟨rfl, at_bool rfl (by rw [eq_comm, decide_eq_true]; exact .inl c), rfl, rfl, rfl, rfl, rfl, rfl, rfl, rfl, rfl, rfl, rfl, trivial⟩
             · have c := of_decide_eq_false c
               refine xp rfl (OpP.fieldAddr (off := 1) Tryd.underlying69 rfl rfl H.sz3 rfl) ?_
               refine xp rfl (OpP.load H.ag3 rfl (k7.cell (i := 1) rfl)) ?_
               refine xqm 2 rfl ?_
               refine RW.done rfl ?_
               exact ⟨rfl, at_bool rfl (by rw [decide_eq_decide]; exact ⟨.inr, fun q => q.resolve_left c⟩), rfl, rfl, rfl, rfl, rfl, rfl, rfl, rfl, rfl, rfl, rfl, trivial⟩
           · refine G.ite rfl rfl (fun h67 => ?_) (fun h67 => ?_)
             · refine xra Tryd.func13 1 rfl ?_
               refine xo rfl (OpX.call (vs := [_]) Tryd.func40 rfl H.nm40 rfl (CallsH.toX (unsign_calls hg7.str t (by omega)))) ?_
               rintro _ h8 ⟨⟨v8, ok8, rfl, hv8, hu8⟩, e8⟩
               refine xqd 5 [0, 2, 3, 8, 9, 10, 11, 12, 37, 38, 39, 40, 51, 59] rfl ?_
               refine G.seq rfl ?_
               refine xrd Tryd.func13 2 [0, 2, 3, 8, 9, 10, 11, 12, 37, 38, 39, 40, 51, 59, 66] rfl ?_
               have kz8 := kz.ext0 e8
               have k78 := k7.ext0 e8
               have e08 := e07.trans e8
               refine G.cond rfl rfl (fun hb8 => ?_) (fun hb8 => ?_)
               · have hb8 : ok8 = false := by simpa using hb8
                 have hnk := ahead_no hmem hsp hn1 hn2 (fun _ => by
                  rcases hu8 with ⟨q, _⟩ | ⟨_, q⟩
                  · exact absurd (hb8.symm.trans q) (by decide)
                  · exact q) (fun q => absurd h67 q)
                 refine xr Tryd.func13 rfl ?_
                 refine xp rfl (OpP.build (H.bd27_ ) rfl) ?_
                 refine RW.op0 rfl rfl rfl (OpX.storeBlk H.sz27 rfl rfl kz8 (by first | rfl | (simp; done) | (simp; omega)) (by first | decide | exact of_decide_eq_true rfl | (simp; done) | (simp; omega)) (by first | decide | simp [Value.oneCell'])) ?_
                 rintro _ h9 ⟨rfl, k9, x9, z9⟩
                 refine xqd 1 [0, 2, 3, 8, 9, 10, 11, 12, 37, 38, 39, 40, 51, 59, 66] rfl ?_
                 have k9 : Blk h9 h.size 27 (encKy (0, 0, [])) := k9
                 refine G.retC Tryd.func13 rfl (.cons (ResOk.rowN H.ag27 H.sz27 rfl (k9.row) (by first | rfl | (simp; done) | (simp; omega))) (.cons (ResOk.tmp rfl) (.nil))) ?_
                 exact ⟨_, rfl, ⟨_, _, rfl, .inr ⟨rfl, rfl, hnk⟩⟩, Ext0.only e08 x9 (Nat.le_refl _)⟩
               · have hb8 : ok8 = true := by simpa using hb8
                 obtain ⟨g1, g2⟩ : goodP v8 ∧ signP v8 = t := by
                  rcases hu8 with ⟨_, a, b⟩ | ⟨a, _⟩
                  · exact ⟨a, b⟩
                  · exact absurd (hb8.symm.trans a) (by decide)
                 have hk := ahead_rune hmem h67 g1
                 refine G.skip rfl ?_
                 refine xr Tryd.func13 rfl ?_
                 refine xp rfl (OpP.fieldAddr (off := 1) Tryd.underlying69 rfl rfl H.sz3 rfl) ?_
                 refine xp rfl (OpP.load H.ag3 rfl (k78.cell (i := 1) rfl)) ?_
                 refine xqp 1 rfl rfl (OpP.build (H.bd27_0_1 _ _) rfl) ?_
                 refine RW.op0 rfl rfl rfl (OpX.storeBlk H.sz27 rfl rfl kz8 (by first | rfl | (simp; done) | (simp; omega)) (by first | decide | exact of_decide_eq_true rfl | (simp; done) | (simp; omega)) (by first | decide | simp [Value.oneCell'])) ?_
                 rintro _ h9 ⟨rfl, k9, x9, z9⟩
                 refine xqd 1 [0, 2, 3, 8, 9, 10, 11, 12, 37, 38, 39, 40, 51, 59, 66] rfl ?_
                 have k9 : Blk h9 h.size 27 (encKy (kd, v8, [])) := k9
                 refine G.retC Tryd.func13 rfl (.cons (ResOk.rowN H.ag27 H.sz27 rfl (k9.row) (by first | rfl | (simp; done) | (simp; omega))) (.cons (ResOk.tmp rfl) (.nil))) ?_
                 exact ⟨_, rfl, ⟨_, _, rfl, .inl ⟨rfl, hk.1, by rw [hk.2, g2, hsp]⟩⟩, Ext0.only e08 x9 (Nat.le_refl _)⟩
             · refine G.skip rfl ?_
               refine xra Tryd.func13 1 rfl ?_
               refine xo rfl (OpX.call (vs := [_]) Tryd.func43 rfl H.nm43 rfl (CallsH.toX (unbytes_calls t (by omega)))) ?_
               rintro _ h8 ⟨rfl, e8⟩
               refine xqd 5 [0, 2, 3, 8, 9, 10, 13, 37, 38, 39, 40, 51, 59] rfl ?_
               refine G.seq rfl ?_
               refine xrd Tryd.func13 2 [0, 2, 3, 8, 9, 10, 13, 37, 38, 39, 40, 51, 59, 78] rfl ?_
               have kz8 := kz.ext0 e8
               have k78 := k7.ext0 e8
               have e08 := e07.trans e8
               refine G.cond rfl rfl (fun hb8 => ?_) (fun hb8 => ?_)
               · have hb8 : bytesP (unbG t) ≠ t := by simpa using hb8
                 have hnk := ahead_no hmem hsp hn1 hn2 (fun q => absurd q h67) (fun _ t' e => hb8 (by rw [← e, unbG_bytes]))
                 refine xr Tryd.func13 rfl ?_
                 refine xp rfl (OpP.build (H.bd27_ ) rfl) ?_
                 refine RW.op0 rfl rfl rfl (OpX.storeBlk H.sz27 rfl rfl kz8 (by first | rfl | (simp; done) | (simp; omega)) (by first | decide | exact of_decide_eq_true rfl | (simp; done) | (simp; omega)) (by first | decide | simp [Value.oneCell'])) ?_
                 rintro _ h9 ⟨rfl, k9, x9, z9⟩
                 refine xqd 1 [0, 2, 3, 8, 9, 10, 13, 37, 38, 39, 40, 51, 59, 78] rfl ?_
                 have k9 : Blk h9 h.size 27 (encKy (0, 0, [])) := k9
                 refine G.retC Tryd.func13 rfl (.cons (ResOk.rowN H.ag27 H.sz27 rfl (k9.row) (by first | rfl | (simp; done) | (simp; omega))) (.cons (ResOk.tmp rfl) (.nil))) ?_
                 exact ⟨_, rfl, ⟨_, _, rfl, .inr ⟨rfl, rfl, hnk⟩⟩, Ext0.only e08 x9 (Nat.le_refl _)⟩
               · have hb8 : bytesP (unbG t) = t := by simpa using hb8
                 have hk := ahead_text (t := unbG t) hmem h67
                 refine G.skip rfl ?_
                 refine xr Tryd.func13 rfl ?_
                 refine xp rfl (OpP.fieldAddr (off := 1) Tryd.underlying69 rfl rfl H.sz3 rfl) ?_
                 refine xp rfl (OpP.load H.ag3 rfl (k78.cell (i := 1) rfl)) ?_
                 refine xqp 1 rfl rfl (OpP.build (H.bd27_0_2 _ _) rfl) ?_
                 refine RW.op0 rfl rfl rfl (OpX.storeBlk H.sz27 rfl rfl kz8 (by first | rfl | (simp; done) | (simp; omega)) (by first | decide | exact of_decide_eq_true rfl | (simp; done) | (simp; omega)) (by first | decide | simp [Value.oneCell'])) ?_
                 rintro _ h9 ⟨rfl, k9, x9, z9⟩
                 refine xqd 1 [0, 2, 3, 8, 9, 10, 13, 37, 38, 39, 40, 51, 59, 78] rfl ?_
                 have k9 : Blk h9 h.size 27 (encKy (kd, 0, unbG t)) := k9
                 refine G.retC Tryd.func13 rfl (.cons (ResOk.rowN H.ag27 H.sz27 rfl (k9.row) (by first | rfl | (simp; done) | (simp; omega))) (.cons (ResOk.tmp rfl) (.nil))) ?_
                 exact ⟨_, rfl, ⟨_, _, rfl, .inl ⟨rfl, hk.1, by rw [hk.2, hb8, hsp]⟩⟩, Ext0.only e08 x9 (Nat.le_refl _)⟩
       · have hnk := ahead_out hn1 hn2 (fun x hx t => by
          obtain ⟨j, hj⟩ := List.getElem?_of_mem hx
          have : j < 4 := (List.getElem?_eq_some_iff.1 hj).1
          exact hno j (by omega) x hj t)
         refine G.exit rfl rfl ?_
         refine xr Tryd.func13 rfl ?_
         refine xp rfl (OpP.build (H.bd27_ ) rfl) ?_
         refine RW.op0 rfl rfl rfl (OpX.storeBlk H.sz27 rfl rfl kg (by first | rfl | (simp; done) | (simp; omega)) (by first | decide | exact of_decide_eq_true rfl | (simp; done) | (simp; omega)) (by first | decide | simp [Value.oneCell'])) ?_
         rintro _ h6 ⟨rfl, k6, x6, z6⟩
         refine xqd 1 [0, 2, 3, 37, 38, 39, 40] rfl ?_
         have k6 : Blk h6 h.size 27 (encKy (0, 0, [])) := k6
         refine G.retC Tryd.func13 rfl (.cons (ResOk.rowN H.ag27 H.sz27 rfl (k6.row) (by first | rfl | (simp; done) | (simp; omega))) (.cons (ResOk.tmp rfl) (.nil))) ?_
         exact ⟨_, rfl, ⟨_, _, rfl, .inr ⟨rfl, rfl, hnk⟩⟩, Ext0.only e0g x6 (Nat.le_refl _)⟩
end Go.Proofs.YteicdopggikieaaDoor
