/- limnerref27.hex, Quote, value. -/
import Derived.Test.YtmbikkapabljfaaDoorScr1
namespace Go.Proofs.YtmbikkapabljfaaDoor
open Go Go.Lw
set_option maxRecDepth 20000

def bs (l : Bs) : ByteArray := ⟨l.toArray⟩
theorem bs_list (l : Bs) : (bs l).data.toList = l := by simp [bs]
theorem bs_of (s : ByteArray) : bs s.data.toList = s := by simp [bs]
theorem bs_size (l : Bs) : (bs l).size = l.length := by simp [bs, ByteArray.size]
theorem bs_append (l m : Bs) : bs l ++ bs m = bs (l ++ m) := by
  have h : ((bs l ++ bs m)).data = (bs (l ++ m)).data := by rw [ByteArray.data_append]; simp [bs]
  cases hx : bs l ++ bs m
  rw [hx] at h
  simp only at h
  rw [h]
theorem bs_inj {l m : Bs} (h : bs l = bs m) : l = m := by have := congrArg (fun x => x.data.toList) h; simpa [bs] using this
theorem bs_eq (l m : Bs) : decide (bs l = bs m) = decide (l = m) := by
  rw [decide_eq_decide]
  exact ⟨bs_inj, fun h => by rw [h]⟩

theorem wrap_u8 {i : Int} (h : 0 ≤ i ∧ i ≤ 255) : IntKind.u8.wrap i = i := by
  simp [IntKind.wrap, IntKind.bits, IntKind.signed]; omega

theorem extract_one {s : ByteArray} {k : Nat} {c : UInt8} (hc : s.data[k]? = some c) : s.extract k (k + 1) = bs [c] := by
  have hk : k < s.data.size := (Array.getElem?_eq_some_iff.1 hc).1
  have h2 : s.data[k] = c := (Array.getElem?_eq_some_iff.1 hc).2
  have : (s.extract k (k + 1)).data = (bs [c]).data := by
    rw [ByteArray.data_extract]
    apply Array.ext
    · simp [bs]; simp at hk; omega
    · intro i h1 h3
      have : i = 0 := by simp [bs] at h3; omega
      subst this
      simp [bs, h2]
  cases hx : s.extract k (k + 1)
  rw [hx] at this
  simp only at this
  rw [this]

theorem hex_fin : ∀ n : Fin 16, digB.extract n.val (n.val + 1) = bs [hexd n.val] := by decide +kernel

theorem hex_calls {h : Heap} (n : Nat) (hn : n < 16) : CallsH Tryd.prog 49 #[.int .u8 n] h (Ret fun r h' => r = .string (bs [hexd n]) ∧ h' = h) := by
  refine CallsH.of Tryd.func49 rfl rfl ?_
  refine G.seq rfl ?_
  refine G.reg Tryd.func49 rfl ?_
  refine RW.pureS rfl rfl rfl rfl (OpP.assign rfl) ?_
  refine RW.done rfl ?_
  refine G.sub (ρ' := [(0, _), (2, _)]) ⟨rfl, rfl, trivial⟩ ?_
  refine G.seq rfl ?_
  refine G.reg Tryd.func49 rfl ?_
  refine RW.pureS rfl rfl rfl rfl (OpP.move rfl) ?_
  refine RW.pureS rfl rfl rfl rfl (OpP.move rfl) ?_
  refine RW.pureS rfl rfl rfl rfl (OpP.add rfl rfl) ?_
  refine RW.pureS rfl rfl rfl rfl (OpP.sliceStr Tryd.underlying9 rfl rfl n rfl rfl (n + 1) (by rw [wrap_u8 ⟨by omega, by omega⟩]; rfl) (by omega) (by have : digB.size = 16 := rfl; show n + 1 ≤ digB.size; omega)) ?_
  refine RW.pureS rfl rfl rfl rfl (OpP.assign rfl) ?_
  refine RW.done rfl ?_
  refine G.sub (ρ' := [(0, _), (2, _)]) ⟨rfl, rfl, trivial⟩ ?_
  refine G.ret Tryd.func49 rfl rfl ?_
  exact ⟨_, rfl, by rw [← hex_fin ⟨n, hn⟩]; rfl, rfl⟩

theorem hex_at {h : Heap} {i : Int} (n : Nat) (hn : n < 16) (hi : i = n) : CallsH Tryd.prog 49 #[.int .u8 i] h (Ret fun r h' => r = .string (bs [hexd n]) ∧ h' = h) := by
  subst hi; exact hex_calls n hn

theorem div16 (c : UInt8) : IntKind.u8.wrap (((c.toNat : Int)).tdiv 16) = ((c.toNat / 16 : Nat) : Int) := by
  have := c.toNat_lt
  rw [Int.tdiv_eq_ediv_of_nonneg (by omega), wrap_u8 (by omega)]; omega
theorem mod16 (c : UInt8) : ((c.toNat : Int)).tmod 16 = ((c.toNat % 16 : Nat) : Int) := by
  rw [Int.tmod_eq_emod_of_nonneg (by omega)]; omega

theorem quoteR_calls {h : Heap} (s : ByteArray) (hs : s.size ≤ 100000000) :
    CallsH Tryd.prog 27 #[.string s] h (Ret fun r h' => r = .string (bs (quoteL s.data.toList)) ∧ h' = h) := by
  refine CallsH.of Tryd.func27 rfl rfl ?_
  refine G.seq rfl ?_
  refine G.reg Tryd.func27 rfl ?_
  refine RW.pureS rfl rfl rfl rfl (OpP.assign rfl) ?_
  refine RW.done rfl ?_
  refine G.sub (ρ' := [(0, _), (2, _)]) ⟨rfl, rfl, trivial⟩ ?_
  refine G.seq rfl ?_
  refine G.reg Tryd.func27 rfl ?_
  refine RW.pureS rfl rfl rfl rfl (OpP.assign rfl) ?_
  refine RW.done rfl ?_
  refine G.sub (ρ' := [(0, _), (2, _), (3, _)]) ⟨rfl, rfl, rfl, trivial⟩ ?_
  refine G.seq rfl ?_
  refine G.seq rfl ?_
  refine G.reg Tryd.func27 rfl ?_
  refine RW.pureS rfl rfl rfl rfl (OpP.assign rfl) ?_
  refine RW.done rfl ?_
  refine G.sub (ρ' := [(0, _), (2, _), (3, _), (4, _)]) ⟨rfl, rfl, rfl, rfl, trivial⟩ ?_
  refine G.block rfl rfl ?_
  refine G.loop (σ := Nat × ByteArray) (fun q => [(0, .string s), (3, .string q.2), (4, .int .i64 q.1)]) (fun q h' => h' = h ∧ q.1 ≤ s.size ∧ q.2 = bs (34 :: (s.data.toList.take q.1).flatMap esc)) (fun q => s.size - q.1) ((0, ⟨#[34]⟩)) rfl ⟨rfl, rfl, rfl, trivial⟩ ⟨rfl, Nat.zero_le _, rfl⟩ ?_
  rintro ⟨k, out⟩ h1 ⟨rfl, hk, hv⟩ ih
  try dsimp only
  dsimp only at hk hv
  refine G.seq rfl ?_
  refine G.seq rfl ?_
  refine G.reg Tryd.func27 rfl ?_
  refine RW.pureS rfl rfl rfl rfl (OpP.move rfl) ?_
  refine RW.pureS rfl rfl rfl rfl (OpP.move rfl) ?_
  refine RW.pureS rfl rfl rfl rfl (OpP.lenString Tryd.underlying9 rfl) ?_
  refine RW.pureS rfl rfl rfl rfl (OpP.lss rfl rfl) ?_
  refine RW.done rfl ?_
  refine G.sub (ρ' := [(0, _), (3, _), (4, _), (9, _)]) ⟨rfl, rfl, rfl, rfl, trivial⟩ ?_
  refine G.ite rfl rfl (fun hlt => ?_) (fun hlt => ?_)
  · have hlt' : k < s.size := by omega
    obtain ⟨c, hc⟩ := at_of_lt hlt'
    have htake := take_next hc
    have hcl := c.toNat_lt
    have hlen : out.size ≤ 3 * k + 1 := by
      have := escs_len (s.data.toList.take k)
      have : (s.data.toList.take k).length ≤ k := by simp; omega
      rw [hv, bs_size, List.length_cons]; omega
    have hnext : bs (34 :: (s.data.toList.take (k + 1)).flatMap esc) = out ++ bs (esc c) := by rw [htake, List.flatMap_append, hv, bs_append]; simp
    refine G.skip rfl ?_
    refine G.seq rfl ?_
    refine G.block rfl rfl ?_
    refine G.seq rfl ?_
    refine G.reg Tryd.func27 rfl ?_
    refine RW.pureS rfl rfl rfl rfl (OpP.move rfl) ?_
    refine RW.pureS rfl rfl rfl rfl (OpP.move rfl) ?_
    refine RW.pureS rfl rfl rfl rfl (OpP.indexStr Tryd.underlying9 rfl rfl k rfl hc) ?_
    refine RW.pureS rfl rfl rfl rfl (OpP.assign rfl) ?_
    refine RW.done rfl ?_
    refine G.sub (ρ' := [(0, _), (3, _), (4, _), (5, _), (9, _)]) ⟨rfl, rfl, rfl, rfl, rfl, trivial⟩ ?_
    refine G.seq rfl ?_
    refine G.regTo1 [(28, .bool (okB c))] [(0, _), (3, _), (4, _), (5, _), (9, _)] ⟨rfl, rfl, rfl, rfl, rfl, trivial⟩ Tryd.func27 rfl ?_ ?_
    · refine RW.pureS rfl rfl rfl rfl (OpP.move rfl) ?_
      refine RW.pureS rfl rfl rfl rfl (OpP.gtr rfl rfl) ?_
      refine RW.pureS rfl rfl rfl rfl (OpP.move rfl) ?_
      refine RW.split (d := 17) rfl (fun hg1 => ?_) (fun hg1 => ?_)
      · refine RW.pureS rfl rfl rfl rfl (OpP.move rfl) ?_
        refine RW.pureS rfl rfl rfl rfl (OpP.lss rfl rfl) ?_
        refine RW.pureS rfl rfl rfl rfl (OpP.pickT rfl rfl) ?_
        refine RW.pureS rfl rfl rfl rfl (OpP.move rfl) ?_
        refine RW.split (d := 21) rfl (fun hg2 => ?_) (fun hg2 => ?_)
        · refine RW.pureS rfl rfl rfl rfl (OpP.move rfl) ?_
          refine RW.pureS rfl rfl rfl rfl (OpP.neqInt rfl rfl) ?_
          refine RW.pureS rfl rfl rfl rfl (OpP.pickT rfl rfl) ?_
          refine RW.pureS rfl rfl rfl rfl (OpP.move rfl) ?_
          refine RW.split (d := 25) rfl (fun hg3 => ?_) (fun hg3 => ?_)
          · refine RW.pureS rfl rfl rfl rfl (OpP.move rfl) ?_
            refine RW.pureS rfl rfl rfl rfl (OpP.neqInt rfl rfl) ?_
            refine RW.pureS rfl rfl rfl rfl (OpP.pickT rfl rfl) ?_
            refine RW.done rfl ?_
            exact ⟨rfl, at_bool rfl (by have := of_decide_eq_true hg1; have := of_decide_eq_true hg2; have := of_decide_eq_true hg3; simp only [okB, decide_eq_decide]; omega), rfl, rfl, rfl, rfl, rfl, trivial⟩
          · refine RW.skipS rfl rfl rfl rfl ?_
            refine RW.skipS rfl rfl rfl rfl ?_
            refine RW.pureS rfl rfl rfl rfl (OpP.pickF rfl rfl) ?_
            refine RW.done rfl ?_
            exact ⟨rfl, at_bool rfl (by have := of_decide_eq_false hg3; simp only [okB, eq_comm (a := false), decide_eq_false_iff_not]; omega), rfl, rfl, rfl, rfl, rfl, trivial⟩
        · refine RW.skipS rfl rfl rfl rfl ?_
          refine RW.skipS rfl rfl rfl rfl ?_
          refine RW.pureS rfl rfl rfl rfl (OpP.pickF rfl rfl) ?_
          refine RW.pureS rfl rfl rfl rfl (OpP.move rfl) ?_
          refine RW.skipS rfl rfl rfl rfl ?_
          refine RW.skipS rfl rfl rfl rfl ?_
          refine RW.pureS rfl rfl rfl rfl (OpP.pickF rfl rfl) ?_
          refine RW.done rfl ?_
          exact ⟨rfl, at_bool rfl (by have := of_decide_eq_false hg2; simp only [okB, eq_comm (a := false), decide_eq_false_iff_not]; omega), rfl, rfl, rfl, rfl, rfl, trivial⟩
      · refine RW.skipS rfl rfl rfl rfl ?_
        refine RW.skipS rfl rfl rfl rfl ?_
        refine RW.pureS rfl rfl rfl rfl (OpP.pickF rfl rfl) ?_
        refine RW.pureS rfl rfl rfl rfl (OpP.move rfl) ?_
        refine RW.skipS rfl rfl rfl rfl ?_
        refine RW.skipS rfl rfl rfl rfl ?_
        refine RW.pureS rfl rfl rfl rfl (OpP.pickF rfl rfl) ?_
        refine RW.pureS rfl rfl rfl rfl (OpP.move rfl) ?_
        refine RW.skipS rfl rfl rfl rfl ?_
        refine RW.skipS rfl rfl rfl rfl ?_
        refine RW.pureS rfl rfl rfl rfl (OpP.pickF rfl rfl) ?_
        refine RW.done rfl ?_
        exact ⟨rfl, at_bool rfl (by have := of_decide_eq_false hg1; simp only [okB, eq_comm (a := false), decide_eq_false_iff_not]; omega), rfl, rfl, rfl, rfl, rfl, trivial⟩
    · refine G.cond rfl rfl (fun hok => ?_) (fun hok => ?_)
      · have he : esc c = [c] := by unfold esc; rw [if_pos hok]
        rw [he] at hnext
        have hx1 := extract_one hc
        have hsz : (s.extract k (k + 1)).size = 1 := by rw [hx1, bs_size]; rfl
        refine G.reg Tryd.func27 rfl ?_
        refine RW.pureS rfl rfl rfl rfl (OpP.move rfl) ?_
        refine RW.pureS rfl rfl rfl rfl (OpP.move rfl) ?_
        refine RW.pureS rfl rfl rfl rfl (OpP.move rfl) ?_
        refine RW.pureS rfl rfl rfl rfl (OpP.move rfl) ?_
        refine RW.pureS rfl rfl rfl rfl (OpP.add64 rfl rfl ⟨by omega, by omega⟩) ?_
        refine RW.pureS rfl rfl rfl rfl (OpP.sliceStr Tryd.underlying9 rfl rfl k rfl rfl (k + 1) (by omega) (by omega) (by omega)) ?_
        refine RW.pureS rfl rfl rfl rfl (OpP.addStr rfl rfl (by omega)) ?_
        refine RW.pureS rfl rfl rfl rfl (OpP.assign rfl) ?_
        refine RW.done rfl ?_
        refine G.sub (ρ' := [(0, _), (3, _), (4, _), (5, _), (9, _), (28, _)]) ⟨rfl, rfl, rfl, rfl, rfl, rfl, trivial⟩ ?_
        refine G.blkEnd ?_
        refine G.reg Tryd.func27 rfl ?_
        refine RW.pureS rfl rfl rfl rfl (OpP.move rfl) ?_
        refine RW.pureS rfl rfl rfl rfl (OpP.add64 rfl rfl ⟨by omega, by omega⟩) ?_
        refine RW.pureS rfl rfl rfl rfl (OpP.assign rfl) ?_
        refine RW.done rfl ?_
        refine G.sub (ρ' := [(0, _), (3, _), (4, _), (5, _), (9, _), (28, _)]) ⟨rfl, rfl, rfl, rfl, rfl, rfl, trivial⟩ ?_
        exact ih (k + 1, _) _ _ ⟨rfl, rfl, rfl, trivial⟩ ⟨rfl, by show k + 1 ≤ s.size; omega, by show out ++ s.extract k (k + 1) = _; rw [hnext, hx1]⟩ (by show s.size - (k + 1) < s.size - k; omega)
      · have he : esc c = [92, hexd (c.toNat / 16), hexd (c.toNat % 16)] := by unfold esc; rw [if_neg (by rw [hok]; decide)]
        rw [he] at hnext
        have e1 : (out ++ (⟨#[92]⟩ : ByteArray)).size = out.size + 1 := ByteArray.size_append
        have e2 : (out ++ (⟨#[92]⟩ : ByteArray) ++ bs [hexd (c.toNat / 16)]).size = out.size + 2 := by rw [ByteArray.size_append, e1]; rfl
        have e3 : (bs [hexd (c.toNat / 16)]).size = 1 := rfl
        have e4 : (bs [hexd (c.toNat % 16)]).size = 1 := rfl
        have e5 : ByteArray.size ⟨#[92]⟩ = 1 := rfl
        refine G.reg Tryd.func27 rfl ?_
        refine RW.pureS rfl rfl rfl rfl (OpP.move rfl) ?_
        refine RW.pureS rfl rfl rfl rfl (OpP.addStr rfl rfl (by omega)) ?_
        refine RW.pureS rfl rfl rfl rfl (OpP.move rfl) ?_
        refine RW.pureS rfl rfl rfl rfl (OpP.quo rfl rfl (by decide)) ?_
        refine RW.opS rfl rfl rfl rfl (OpX.call (vs := [_]) Tryd.func49 rfl H.nm49 rfl (CallsH.toX (hex_at (c.toNat / 16) (by omega) (div16 c)))) ?_
        rintro _ _ ⟨rfl, rfl⟩
        refine RW.pureS rfl rfl rfl rfl (OpP.addStr rfl rfl (by omega)) ?_
        refine RW.pureS rfl rfl rfl rfl (OpP.move rfl) ?_
        refine RW.pureS rfl rfl rfl rfl (OpP.rem rfl rfl (by decide)) ?_
        refine RW.opS rfl rfl rfl rfl (OpX.call (vs := [_]) Tryd.func49 rfl H.nm49 rfl (CallsH.toX (hex_at (c.toNat % 16) (by omega) (mod16 c)))) ?_
        rintro _ _ ⟨rfl, rfl⟩
        refine RW.pureS rfl rfl rfl rfl (OpP.addStr rfl rfl (by omega)) ?_
        refine RW.pureS rfl rfl rfl rfl (OpP.assign rfl) ?_
        refine RW.done rfl ?_
        refine G.sub (ρ' := [(0, _), (3, _), (4, _), (5, _), (9, _), (28, _)]) ⟨rfl, rfl, rfl, rfl, rfl, rfl, trivial⟩ ?_
        refine G.blkEnd ?_
        refine G.reg Tryd.func27 rfl ?_
        refine RW.pureS rfl rfl rfl rfl (OpP.move rfl) ?_
        refine RW.pureS rfl rfl rfl rfl (OpP.add64 rfl rfl ⟨by omega, by omega⟩) ?_
        refine RW.pureS rfl rfl rfl rfl (OpP.assign rfl) ?_
        refine RW.done rfl ?_
        refine G.sub (ρ' := [(0, _), (3, _), (4, _), (5, _), (9, _), (28, _)]) ⟨rfl, rfl, rfl, rfl, rfl, rfl, trivial⟩ ?_
        have hfin : out ++ (⟨#[92]⟩ : ByteArray) ++ bs [hexd (c.toNat / 16)] ++ bs [hexd (c.toNat % 16)] = bs (34 :: (s.data.toList.take (k + 1)).flatMap esc) := by
          rw [hnext, show (⟨#[92]⟩ : ByteArray) = bs [92] from rfl, ByteArray.append_assoc, ByteArray.append_assoc, bs_append, bs_append]; rfl
        exact ih (k + 1, out ++ (⟨#[92]⟩ : ByteArray) ++ bs [hexd (c.toNat / 16)] ++ bs [hexd (c.toNat % 16)]) _ _ ⟨rfl, rfl, rfl, trivial⟩ ⟨rfl, by show k + 1 ≤ s.size; omega, hfin⟩ (by show s.size - (k + 1) < s.size - k; omega)
  · have hks : k = s.size := by omega
    subst hks
    rw [List.take_of_length_le (by simp)] at hv
    have hlen : out.size ≤ 3 * s.size + 1 := by
      have := escs_len s.data.toList
      have : s.data.toList.length = s.size := by simp
      rw [hv, bs_size, List.length_cons]; omega
    refine G.exit rfl rfl ?_
    refine G.seq rfl ?_
    refine G.reg Tryd.func27 rfl ?_
    refine RW.pureS rfl rfl rfl rfl (OpP.move rfl) ?_
    refine RW.pureS rfl rfl rfl rfl (OpP.addStr rfl rfl (by have : ByteArray.size ⟨#[34]⟩ = 1 := rfl; omega)) ?_
    refine RW.pureS rfl rfl rfl rfl (OpP.assign rfl) ?_
    refine RW.done rfl ?_
    refine G.sub (ρ' := [(0, _), (2, _), (3, _), (4, _), (9, _)]) ⟨rfl, rfl, rfl, rfl, rfl, trivial⟩ ?_
    refine G.ret Tryd.func27 rfl rfl ?_
    exact ⟨_, rfl, by rw [hv]; show Value.string (bs _ ++ bs [34]) = _; rw [bs_append]; rfl, rfl⟩

theorem value_calls {h : Heap} (c : UInt8) : CallsH Tryd.prog 70 #[.int .u8 c.toNat] h (Ret fun r h' => r = .int .i64 (valR c) ∧ h' = h) := by
  have hfirst : ∀ k : Nat, k ≤ 16 → (∀ j, j < k → hexd j ≠ c) → (if h : k < 16 then hexd k = c → valR c = k else valR c = 16) := by
    have key : ∀ c : UInt8, (∀ k : Fin 16, (∀ j : Fin 16, j.val < k.val → hexd j.val ≠ c) → hexd k.val = c → valR c = k.val) ∧ ((∀ j : Fin 16, hexd j.val ≠ c) → valR c = 16) := by
      intro c
      have h256 : ∀ n : Fin 256, (∀ k : Fin 16, (∀ j : Fin 16, j.val < k.val → hexd j.val ≠ UInt8.ofNat n.val) → hexd k.val = UInt8.ofNat n.val → valR (UInt8.ofNat n.val) = k.val) ∧ ((∀ j : Fin 16, hexd j.val ≠ UInt8.ofNat n.val) → valR (UInt8.ofNat n.val) = 16) := by decide +kernel
      have := h256 ⟨c.toNat, c.toNat_lt⟩
      simpa using this
    intro k hk hj
    split
    · rename_i h16
      intro he
      exact (key c).1 ⟨k, h16⟩ (fun j hjk => hj j.val hjk) he
    · have : k = 16 := by omega
      subst this
      exact (key c).2 (fun j => hj j.val j.isLt)
  refine CallsH.of Tryd.func70 rfl rfl ?_
  refine G.seq rfl ?_
  refine G.reg Tryd.func70 rfl ?_
  refine RW.pureS rfl rfl rfl rfl (OpP.assign rfl) ?_
  refine RW.done rfl ?_
  refine G.sub (ρ' := [(0, _), (2, _)]) ⟨rfl, rfl, trivial⟩ ?_
  refine G.seq rfl ?_
  refine G.seq rfl ?_
  refine G.reg Tryd.func70 rfl ?_
  refine RW.pureS rfl rfl rfl rfl (OpP.assign rfl) ?_
  refine RW.done rfl ?_
  refine G.sub (ρ' := [(0, _), (2, _), (3, _)]) ⟨rfl, rfl, rfl, trivial⟩ ?_
  refine G.block rfl rfl ?_
  refine G.loop (σ := Nat) (fun k => [(0, .int .u8 c.toNat), (3, .int .i64 k)]) (fun k h' => h' = h ∧ k ≤ 16 ∧ ∀ j, j < k → hexd j ≠ c) (fun k => 16 - k) (0) rfl ⟨rfl, rfl, trivial⟩ ⟨rfl, Nat.zero_le _, fun j hj => by omega⟩ ?_
  rintro k h1 ⟨rfl, hk, hj⟩ ih
  have hf := hfirst k hk hj
  refine G.seq rfl ?_
  refine G.seq rfl ?_
  refine G.reg Tryd.func70 rfl ?_
  refine RW.pureS rfl rfl rfl rfl (OpP.move rfl) ?_
  refine RW.pureS rfl rfl rfl rfl (OpP.lss rfl rfl) ?_
  refine RW.done rfl ?_
  refine G.sub (ρ' := [(0, _), (3, _), (5, _)]) ⟨rfl, rfl, rfl, trivial⟩ ?_
  refine G.ite rfl rfl (fun hlt => ?_) (fun hlt => ?_)
  · have hlt' : k < 16 := by omega
    rw [dif_pos hlt'] at hf
    refine G.skip rfl ?_
    refine G.seq rfl ?_
    refine G.block rfl rfl ?_
    refine G.seq rfl ?_
    refine G.reg Tryd.func70 rfl ?_
    refine RW.pureS rfl rfl rfl rfl (OpP.move rfl) ?_
    refine RW.pureS rfl rfl rfl rfl (OpP.convIn Tryd.underlying3 Tryd.underlying5 rfl (wrap_u8 ⟨by omega, by omega⟩)) ?_
    refine RW.opS rfl rfl rfl rfl (OpX.call (vs := [_]) Tryd.func49 rfl H.nm49 rfl (CallsH.toX (hex_calls k hlt'))) ?_
    rintro _ _ ⟨rfl, rfl⟩
    refine RW.pureS rfl rfl rfl rfl (OpP.indexStr Tryd.underlying9 rfl rfl 0 rfl rfl) ?_
    refine RW.pureS rfl rfl rfl rfl (OpP.move rfl) ?_
    refine RW.pureS rfl rfl rfl rfl (OpP.eqlInt rfl rfl) ?_
    refine RW.done rfl ?_
    refine G.sub (ρ' := [(0, _), (3, _), (5, _), (13, _)]) ⟨rfl, rfl, rfl, rfl, trivial⟩ ?_
    refine G.ite rfl rfl (fun heq => ?_) (fun heq => ?_)
    · refine G.seq rfl ?_
      refine G.reg Tryd.func70 rfl ?_
      refine RW.pureS rfl rfl rfl rfl (OpP.move rfl) ?_
      refine RW.pureS rfl rfl rfl rfl (OpP.assign rfl) ?_
      refine RW.done rfl ?_
      refine G.sub (ρ' := [(0, _), (2, _), (3, _), (5, _), (13, _)]) ⟨rfl, rfl, rfl, rfl, rfl, trivial⟩ ?_
      refine G.ret Tryd.func70 rfl rfl ?_
      have hcc : ((hexd k).toNat : Int) = c.toNat := heq
      have : hexd k = c := UInt8.toNat_inj.1 (by omega)
      exact ⟨_, rfl, by rw [hf this]; rfl, rfl⟩
    · refine G.skip rfl ?_
      refine G.blkEnd ?_
      refine G.reg Tryd.func70 rfl ?_
      refine RW.pureS rfl rfl rfl rfl (OpP.move rfl) ?_
      refine RW.pureS rfl rfl rfl rfl (OpP.add64 rfl rfl ⟨by omega, by omega⟩) ?_
      refine RW.pureS rfl rfl rfl rfl (OpP.assign rfl) ?_
      refine RW.done rfl ?_
      refine G.sub (ρ' := [(0, _), (3, _), (5, _), (13, _)]) ⟨rfl, rfl, rfl, rfl, trivial⟩ ?_
      have hne : hexd k ≠ c := fun e => heq (by rw [← e]; rfl)
      have hj' : ∀ j, j < k + 1 → hexd j ≠ c := fun j h2 => by
        rcases Nat.lt_or_ge j k with h3 | h3
        · exact hj j h3
        · rw [show j = k from by omega]; exact hne
      exact ih (k + 1) _ _ ⟨rfl, rfl, trivial⟩ ⟨rfl, by omega, hj'⟩ (by omega)
  · rw [dif_neg (by omega)] at hf
    refine G.exit rfl rfl ?_
    refine G.seq rfl ?_
    refine G.reg Tryd.func70 rfl ?_
    refine RW.pureS rfl rfl rfl rfl (OpP.assign rfl) ?_
    refine RW.done rfl ?_
    refine G.sub (ρ' := [(0, _), (2, _), (3, _), (5, _)]) ⟨rfl, rfl, rfl, rfl, trivial⟩ ?_
    refine G.ret Tryd.func70 rfl rfl ?_
    exact ⟨_, rfl, by rw [hf]; rfl, rfl⟩

end Go.Proofs.YtmbikkapabljfaaDoor
