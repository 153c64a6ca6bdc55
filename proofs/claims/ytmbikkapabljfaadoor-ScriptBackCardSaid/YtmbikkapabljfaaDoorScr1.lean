/- script.quote and limnerref27.Quote: what they answer. -/
import Derived.Test.YtmbikkapabljfaaDoorScrQ
import Derived.Test.YtmbikkapabljfaaDoorHead
namespace Go.Proofs.YtmbikkapabljfaaDoor
open Go Go.Lw
set_option maxRecDepth 20000

def digB : ByteArray := ⟨#[48, 49, 50, 51, 52, 53, 54, 55, 56, 57, 97, 98, 99, 100, 101, 102]⟩
theorem digB_fin : ∀ n : Fin 16, digB.data[n.val]? = some (hexd n.val) := by decide +kernel
theorem digB_at {n : Nat} (h : n < 16) : digB.data[n]? = some (hexd n) := digB_fin ⟨n, h⟩
theorem shr4_fin : ∀ n : Fin 256, ((n.val : Int)).fdiv (2 ^ min (4 : Int).toNat IntKind.u8.bits) = ((n.val / 16 : Nat) : Int) := by decide +kernel
theorem and15_fin : ∀ n : Fin 256, IntKind.u8.wrap ((BitVec.ofInt IntKind.u8.bits (n.val : Int) &&& BitVec.ofInt IntKind.u8.bits 15).toNat) = ((n.val % 16 : Nat) : Int) := by decide +kernel
theorem shr4 (c : UInt8) : ((c.toNat : Int)).fdiv (2 ^ min (4 : Int).toNat IntKind.u8.bits) = ((c.toNat / 16 : Nat) : Int) := shr4_fin ⟨c.toNat, c.toNat_lt⟩
theorem and15 (c : UInt8) : IntKind.u8.wrap ((BitVec.ofInt IntKind.u8.bits (c.toNat : Int) &&& BitVec.ofInt IntKind.u8.bits 15).toNat) = ((c.toNat % 16 : Nat) : Int) := and15_fin ⟨c.toNat, c.toNat_lt⟩

theorem esc_len (c : UInt8) : (esc c).length ≤ 3 := by unfold esc; split <;> simp
theorem escs_len : ∀ l : Bs, (l.flatMap esc).length ≤ 3 * l.length
  | [] => by simp
  | c :: l => by rw [List.flatMap_cons, List.length_append, List.length_cons]; have := escs_len l; have := esc_len c; omega

theorem take_next {s : ByteArray} {k : Nat} {c : UInt8} (hc : s.data[k]? = some c) : s.data.toList.take (k + 1) = s.data.toList.take k ++ [c] := by
  rw [List.take_add_one]
  simp [hc]

theorem at_of_lt {s : ByteArray} {k : Nat} (h : k < s.size) : ∃ c, s.data[k]? = some c := ⟨s.data[k], Array.getElem?_eq_getElem h⟩

theorem quote_calls {h : Heap} (s : ByteArray) (hs : s.size ≤ 100000000) :
    CallsH Tryd.prog 24 #[.string s] h (Ret fun r h' => r = .string ⟨(quoteL s.data.toList).toArray⟩ ∧ Ext0 h h') := by
  refine CallsH.of Tryd.func24 rfl rfl ?_
  refine G.seq rfl ?_
  refine G.reg Tryd.func24 rfl ?_
  refine RW.pureS rfl rfl rfl rfl (OpP.assign rfl) ?_
  refine RW.done rfl ?_
  refine G.sub (ρ' := [(0, _), (2, _)]) ⟨rfl, rfl, trivial⟩ ?_
  refine G.seq rfl ?_
  refine G.reg Tryd.func24 rfl ?_
  refine RW.opS rfl rfl rfl rfl (OpX.buildOnes (us := [_]) Tryd.underlying64 H.el5 rfl rfl (by decide) (by simp [Value.oneCell'])) ?_
  rintro _ _ ⟨rfl, rfl⟩
  refine RW.pureS rfl rfl rfl rfl (OpP.assign rfl) ?_
  refine RW.done rfl ?_
  refine G.sub (ρ' := [(0, _), (2, _), (3, _)]) ⟨rfl, rfl, rfl, trivial⟩ ?_
  refine G.seq rfl ?_
  refine G.seq rfl ?_
  refine G.reg Tryd.func24 rfl ?_
  refine RW.pureS rfl rfl rfl rfl (OpP.move rfl) ?_
  refine RW.pureS rfl rfl rfl rfl (OpP.lenString Tryd.underlying9 rfl) ?_
  refine RW.pureS rfl rfl rfl rfl (OpP.move rfl) ?_
  refine RW.done rfl ?_
  refine G.sub (ρ' := [(0, _), (2, _), (3, _), (8, _), (9, _)]) ⟨rfl, rfl, rfl, rfl, rfl, trivial⟩ ?_
  refine G.block rfl rfl ?_
  have hp := Ext.push (fun _ => False) h (.cells [Value.int .u8 34].toArray 5)
  refine G.loop (σ := Nat × Value) (fun q => [(0, .string s), (3, q.2), (8, .int .i64 s.size), (9, .int .i64 q.1)]) (fun q h' => Ext0 h h' ∧ q.1 ≤ s.size ∧ OwB h' h.size 5 q.2 (34 :: (s.data.toList.take q.1).flatMap esc)) (fun q => s.size - q.1) ((0, .slice (some ⟨h.size, 0, none⟩) 1 1)) rfl ⟨rfl, rfl, rfl, rfl, trivial⟩ ⟨hp, Nat.zero_le _, OwE.made encB h 5 [34] 1 rfl (by decide) h.size (Nat.le_refl _) rfl⟩ ?_
  rintro ⟨k, v⟩ h1 ⟨he1, hk, hv⟩ ih
  try dsimp only
  dsimp only at hk hv
  refine G.seq rfl ?_
  refine G.reg Tryd.func24 rfl ?_
  refine RW.pureS rfl rfl rfl rfl (OpP.lss rfl rfl) ?_
  refine RW.done rfl ?_
  refine G.sub (ρ' := [(0, _), (3, _), (8, _), (9, _), (10, _)]) ⟨rfl, rfl, rfl, rfl, rfl, trivial⟩ ?_
  refine G.seq rfl ?_
  refine G.ite rfl rfl (fun hlt => ?_) (fun hlt => ?_)
  · have hlt' : k < s.size := by omega
    obtain ⟨c, hc⟩ := at_of_lt hlt'
    have htake := take_next hc
    have hlen : (34 :: (s.data.toList.take k).flatMap esc).length ≤ 3 * k + 1 := by
      have := escs_len (s.data.toList.take k)
      have : (s.data.toList.take k).length ≤ k := by simp; omega
      rw [List.length_cons]; omega
    generalize hbs : (34 :: (s.data.toList.take k).flatMap esc) = bs at hv hlen
    have hnext : 34 :: (s.data.toList.take (k + 1)).flatMap esc = bs ++ esc c := by rw [htake, List.flatMap_append, ← hbs]; simp
    refine G.skip rfl ?_
    refine G.seq rfl ?_
    refine G.block rfl rfl ?_
    refine G.seq rfl ?_
    refine G.reg Tryd.func24 rfl ?_
    refine RW.pureS rfl rfl rfl rfl (OpP.move rfl) ?_
    refine RW.pureS rfl rfl rfl rfl (OpP.assign rfl) ?_
    refine RW.done rfl ?_
    refine G.sub (ρ' := [(0, _), (3, _), (4, _), (8, _), (9, _), (10, _)]) ⟨rfl, rfl, rfl, rfl, rfl, rfl, trivial⟩ ?_
    refine G.seq rfl ?_
    refine G.reg Tryd.func24 rfl ?_
    refine RW.pureS rfl rfl rfl rfl (OpP.move rfl) ?_
    refine RW.pureS rfl rfl rfl rfl (OpP.move rfl) ?_
    refine RW.pureS rfl rfl rfl rfl (OpP.indexStr Tryd.underlying9 rfl rfl k rfl hc) ?_
    refine RW.pureS rfl rfl rfl rfl (OpP.assign rfl) ?_
    refine RW.done rfl ?_
    refine G.sub (ρ' := [(0, _), (3, _), (4, _), (5, _), (8, _), (9, _), (10, _)]) ⟨rfl, rfl, rfl, rfl, rfl, rfl, rfl, trivial⟩ ?_
    refine G.seq rfl ?_
    refine G.seq rfl ?_
    refine G.regTo1 [(28, .bool (okB c))] [(0, _), (3, _), (4, _), (5, _), (8, _), (9, _), (10, _)] ⟨rfl, rfl, rfl, rfl, rfl, rfl, rfl, trivial⟩ Tryd.func24 rfl ?_ ?_
    · refine RW.pureS rfl rfl rfl rfl (OpP.move rfl) ?_
      refine RW.pureS rfl rfl rfl rfl (OpP.gtr rfl rfl) ?_
      refine RW.pureS rfl rfl rfl rfl (OpP.move rfl) ?_
      refine RW.split (d := 17) rfl (fun hg1 => ?_) (fun hg1 => ?_)
      · refine RW.pureS rfl rfl rfl rfl (OpP.move rfl) ?_
        refine RW.pureS rfl rfl rfl rfl (OpP.lss rfl rfl) ?_
        refine RW.pureS rfl rfl rfl rfl (OpP.pickT rfl rfl) ?_
        refine RW.pureS rfl rfl rfl rfl (OpP.move rfl) ?_
        refine RW.split (d := 21) rfl (fun hg2 => ?_) (fun hg2 => ?_)
        · refine RW.pureS rfl rfl rfl rfl (OpP.move rfl) ?_
          refine RW.pureS rfl rfl rfl rfl (OpP.neqInt rfl rfl) ?_
          refine RW.pureS rfl rfl rfl rfl (OpP.pickT rfl rfl) ?_
          refine RW.pureS rfl rfl rfl rfl (OpP.move rfl) ?_
          refine RW.split (d := 25) rfl (fun hg3 => ?_) (fun hg3 => ?_)
          · refine RW.pureS rfl rfl rfl rfl (OpP.move rfl) ?_
            refine RW.pureS rfl rfl rfl rfl (OpP.neqInt rfl rfl) ?_
            refine RW.pureS rfl rfl rfl rfl (OpP.pickT rfl rfl) ?_
            refine RW.done rfl ?_
            exact ⟨rfl, at_bool rfl (by have := of_decide_eq_true hg1; have := of_decide_eq_true hg2; have := of_decide_eq_true hg3; simp only [okB, decide_eq_decide]; omega), rfl, rfl, rfl, rfl, rfl, rfl, rfl, trivial⟩
          · refine RW.skipS rfl rfl rfl rfl ?_
            refine RW.skipS rfl rfl rfl rfl ?_
            refine RW.pureS rfl rfl rfl rfl (OpP.pickF rfl rfl) ?_
            refine RW.done rfl ?_
            exact ⟨rfl, at_bool rfl (by have := of_decide_eq_false hg3; simp only [okB, eq_comm (a := false), decide_eq_false_iff_not]; omega), rfl, rfl, rfl, rfl, rfl, rfl, rfl, trivial⟩
        · refine RW.skipS rfl rfl rfl rfl ?_
          refine RW.skipS rfl rfl rfl rfl ?_
          refine RW.pureS rfl rfl rfl rfl (OpP.pickF rfl rfl) ?_
          refine RW.pureS rfl rfl rfl rfl (OpP.move rfl) ?_
          refine RW.skipS rfl rfl rfl rfl ?_
          refine RW.skipS rfl rfl rfl rfl ?_
          refine RW.pureS rfl rfl rfl rfl (OpP.pickF rfl rfl) ?_
          refine RW.done rfl ?_
          exact ⟨rfl, at_bool rfl (by have := of_decide_eq_false hg2; simp only [okB, eq_comm (a := false), decide_eq_false_iff_not]; omega), rfl, rfl, rfl, rfl, rfl, rfl, rfl, trivial⟩
      · refine RW.skipS rfl rfl rfl rfl ?_
        refine RW.skipS rfl rfl rfl rfl ?_
        refine RW.pureS rfl rfl rfl rfl (OpP.pickF rfl rfl) ?_
        refine RW.pureS rfl rfl rfl rfl (OpP.move rfl) ?_
        refine RW.skipS rfl rfl rfl rfl ?_
        refine RW.skipS rfl rfl rfl rfl ?_
        refine RW.pureS rfl rfl rfl rfl (OpP.pickF rfl rfl) ?_
        refine RW.pureS rfl rfl rfl rfl (OpP.move rfl) ?_
        refine RW.skipS rfl rfl rfl rfl ?_
        refine RW.skipS rfl rfl rfl rfl ?_
        refine RW.pureS rfl rfl rfl rfl (OpP.pickF rfl rfl) ?_
        refine RW.done rfl ?_
        exact ⟨rfl, at_bool rfl (by have := of_decide_eq_false hg1; simp only [okB, eq_comm (a := false), decide_eq_false_iff_not]; omega), rfl, rfl, rfl, rfl, rfl, rfl, rfl, trivial⟩
    · refine G.cond rfl rfl (fun hok => ?_) (fun hok => ?_)
      · have he : esc c = [c] := by unfold esc; rw [if_pos hok]
        rw [he] at hnext
        refine G.seq rfl ?_
        refine G.reg Tryd.func24 rfl ?_
        refine RW.pureS rfl rfl rfl rfl (OpP.move rfl) ?_
        refine RW.pureS rfl rfl rfl rfl (OpP.move rfl) ?_
        refine RW.opS rfl rfl rfl rfl (OpX.buildOnes (us := [_]) Tryd.underlying64 H.el5 rfl rfl (by decide) (by simp [Value.oneCell'])) ?_
        rintro _ _ ⟨rfl, rfl⟩
        refine RW.opS rfl rfl rfl rfl (OpX.appendNew Tryd.underlying64 H.el5 rfl rfl (hv) rfl rfl (by first | decide | simp [Value.oneCell']) (by omega) (by decide) he1.size) ?_
        rintro v2 h2 ⟨ho2, hx2, -, -⟩
        refine RW.pureS rfl rfl rfl rfl (OpP.assign rfl) ?_
        refine RW.done rfl ?_
        refine G.sub (ρ' := [(0, _), (3, _), (4, _), (5, _), (8, _), (9, _), (10, _), (28, _)]) ⟨rfl, rfl, rfl, rfl, rfl, rfl, rfl, rfl, trivial⟩ ?_
        refine G.exit rfl rfl ?_
        refine G.reg Tryd.func24 rfl ?_
        refine RW.pureS rfl rfl rfl rfl (OpP.add64 rfl rfl ⟨by omega, by omega⟩) ?_
        refine RW.pureS rfl rfl rfl rfl (OpP.move rfl) ?_
        refine RW.done rfl ?_
        refine G.sub (ρ' := [(0, _), (3, _), (4, _), (5, _), (8, _), (9, _), (10, _), (28, _)]) ⟨rfl, rfl, rfl, rfl, rfl, rfl, rfl, rfl, trivial⟩ ?_
        exact ih (k + 1, v2) _ _ ⟨rfl, rfl, rfl, rfl, trivial⟩ ⟨OwE.grown he1 hv (Nat.le_refl _) hx2, by show k + 1 ≤ s.size; omega, by show OwB h2 h.size 5 v2 _; rw [hnext]; exact OwE.of ho2 rfl rfl rfl⟩ (by show s.size - (k + 1) < s.size - k; omega)
      · have he : esc c = [92, hexd (c.toNat / 16), hexd (c.toNat % 16)] := by unfold esc; rw [if_neg (by rw [hok]; decide)]
        rw [he] at hnext
        have hcl := c.toNat_lt
        refine G.skip rfl ?_
        refine G.draw (fun b => but v.ownBlock b ∨ Array.size h1 ≤ b) (fun i => Nat.blt i 10) (sz := 10) (listed := #[false, false, false, false, false, false, false, false, false, false]) Tryd.func24 H.mixed rfl rfl rfl ?_
        refine RD.takeS 0 (listed' := #[true, false, false, false, false, false, false, false, false, false]) rfl (by kernel_rfl) (by kernel_rfl) (by kernel_rfl) rfl rfl rfl (fun h' e => OpP.move rfl) rfl ?_
        refine RD.takeS 1 (listed' := #[true, true, false, false, false, false, false, false, false, false]) rfl (by kernel_rfl) (by kernel_rfl) (by kernel_rfl) rfl rfl rfl (fun h' e => OpP.move rfl) rfl ?_
        refine RD.takeS 2 (listed' := #[true, true, true, false, false, false, false, false, false, false]) rfl (by kernel_rfl) (by kernel_rfl) (by kernel_rfl) rfl rfl rfl (fun h' e => OpP.shr rfl rfl (by decide)) rfl ?_
        refine RD.takeS 3 (listed' := #[true, true, true, true, false, false, false, false, false, false]) rfl (by kernel_rfl) (by kernel_rfl) (by kernel_rfl) rfl rfl rfl (fun h' e => OpP.indexStr Tryd.underlying9 rfl rfl (c.toNat / 16) (shr4 c) (digB_at (by omega))) rfl ?_
        refine RD.takeS 4 (listed' := #[true, true, true, true, true, false, false, false, false, false]) rfl (by kernel_rfl) (by kernel_rfl) (by kernel_rfl) rfl rfl rfl (fun h' e => OpP.move rfl) rfl ?_
        refine RD.takeS 5 (listed' := #[true, true, true, true, true, true, false, false, false, false]) rfl (by kernel_rfl) (by kernel_rfl) (by kernel_rfl) rfl rfl rfl (fun h' e => OpP.bits_and rfl rfl) rfl ?_
        refine RD.takeS 6 (listed' := #[true, true, true, true, true, true, true, false, false, false]) rfl (by kernel_rfl) (by kernel_rfl) (by kernel_rfl) rfl rfl rfl (fun h' e => OpP.indexStr Tryd.underlying9 rfl rfl (c.toNat % 16) (and15 c) (digB_at (by omega))) rfl ?_
        refine RD.oneS 7 (listed' := #[true, true, true, true, true, true, true, true, false, false]) rfl (by kernel_rfl) rfl rfl rfl (OpX.buildOnes (us := [_, _, _]) Tryd.underlying64 H.el5 rfl rfl (by decide) (by simp [Value.oneCell'])) rfl ?_
        rintro _ _ ⟨rfl, rfl⟩
        refine ⟨fun _ => by first | exact Ext.push _ _ _ | assumption, ?_⟩
        refine RD.oneS 8 (listed' := #[true, true, true, true, true, true, true, true, true, false]) rfl (by kernel_rfl) rfl rfl rfl (OpX.appendNew Tryd.underlying64 H.el5 rfl rfl (hv) rfl rfl (by first | decide | simp [Value.oneCell']) (by omega) (by decide) he1.size) rfl ?_
        rintro v2 h2 ⟨ho2, hx2, hy2, -⟩
        refine ⟨fun _ => hy2.mono (fun _ _ k => .inl k), ?_⟩
        refine RD.takeS 9 (listed' := #[true, true, true, true, true, true, true, true, true, true]) rfl (by kernel_rfl) (by kernel_rfl) (by kernel_rfl) rfl rfl rfl (fun h' e => OpP.assign rfl) rfl ?_
        refine RD.done (by kernel_rfl) ?_
        refine G.sub (ρ' := [(0, _), (3, _), (4, _), (5, _), (8, _), (9, _), (10, _), (28, _)]) ⟨rfl, rfl, rfl, rfl, rfl, rfl, rfl, rfl, trivial⟩ ?_
        refine G.blkEnd ?_
        refine G.reg Tryd.func24 rfl ?_
        refine RW.pureS rfl rfl rfl rfl (OpP.add64 rfl rfl ⟨by omega, by omega⟩) ?_
        refine RW.pureS rfl rfl rfl rfl (OpP.move rfl) ?_
        refine RW.done rfl ?_
        refine G.sub (ρ' := [(0, _), (3, _), (4, _), (5, _), (8, _), (9, _), (10, _), (28, _)]) ⟨rfl, rfl, rfl, rfl, rfl, rfl, rfl, rfl, trivial⟩ ?_
        exact ih (k + 1, v2) _ _ ⟨rfl, rfl, rfl, rfl, trivial⟩ ⟨OwE.grown he1 hv (Nat.le_refl _) hx2, by show k + 1 ≤ s.size; omega, by show OwB h2 h.size 5 v2 _; rw [hnext]; exact OwE.of ho2 rfl rfl rfl⟩ (by show s.size - (k + 1) < s.size - k; omega)
  · have hks : k = s.size := by omega
    subst hks
    rw [List.take_of_length_le (by simp)] at hv
    have hlen : (34 :: s.data.toList.flatMap esc).length ≤ 3 * s.size + 1 := by
      have := escs_len s.data.toList
      have : s.data.toList.length = s.size := by simp
      rw [List.length_cons]; omega
    refine G.exit rfl rfl ?_
    refine G.seq rfl ?_
    refine G.reg Tryd.func24 rfl ?_
    refine RW.pureS rfl rfl rfl rfl (OpP.move rfl) ?_
    refine RW.opS rfl rfl rfl rfl (OpX.buildOnes (us := [_]) Tryd.underlying64 H.el5 rfl rfl (by decide) (by simp [Value.oneCell'])) ?_
    rintro _ _ ⟨rfl, rfl⟩
    refine RW.opS rfl rfl rfl rfl (OpX.appendNew Tryd.underlying64 H.el5 rfl rfl (hv) rfl rfl (by first | decide | simp [Value.oneCell']) (by omega) (by decide) he1.size) ?_
    rintro v2 h2 ⟨ho2, hx2, -, -⟩
    refine RW.pureS rfl rfl rfl rfl (OpP.convBytes Tryd.underlying64 Tryd.underlying5 Tryd.underlying9 rfl (OwB.read (OwE.of (ys := [34]) ho2 rfl rfl rfl) (O := fun _ => False) (fun _ _ k => k))) ?_
    refine RW.pureS rfl rfl rfl rfl (OpP.assign rfl) ?_
    refine RW.done rfl ?_
    refine G.sub (ρ' := [(0, _), (2, _), (3, _), (8, _), (9, _), (10, _)]) ⟨rfl, rfl, rfl, rfl, rfl, rfl, trivial⟩ ?_
    refine G.ret Tryd.func24 rfl rfl ?_
    exact ⟨_, rfl, rfl, OwE.grown he1 hv (Nat.le_refl _) hx2⟩

end Go.Proofs.YtmbikkapabljfaaDoor
