/- limnerref27.words; script.step. -/
import Derived.Test.YtmbikkapabljfaaDoorScr7
namespace Go.Proofs.YtmbikkapabljfaaDoor
open Go Go.Lw
set_option maxRecDepth 20000

theorem splitS_mem {c : UInt8} (s : Bs) : ∀ x ∈ splitS c s, x.length ≤ s.length := by
  induction s using split_ind (c := c) with
  | h1 s h => rw [splitS_none h]; simp
  | h2 a r h ih =>
    rw [splitS_hit r h]
    intro x hx
    rcases List.mem_cons.1 hx with rfl | hx
    · simp
    · have := ih x hx; simp; omega

abbrev lists (l : List ByteArray) : List Bs := l.map fun x => x.data.toList

theorem words_calls {h : Heap} (s : ByteArray) (hs : s.size ≤ 10000000) :
    CallsH Tryd.prog 44 #[.string s] h (Ret fun r h' => ∃ l, lists l = splitS 32 s.data.toList ∧ OwE Value.string h' h.size 9 r l ∧ Ext0 h h') := by
  refine CallsH.of Tryd.func44 rfl rfl ?_
  refine G.seq rfl ?_
  refine G.reg Tryd.func44 rfl ?_
  refine RW.pureS rfl rfl rfl rfl (OpP.assign rfl) ?_
  refine RW.done rfl ?_
  refine G.sub (ρ' := [(0, _), (2, _)]) ⟨rfl, rfl, trivial⟩ ?_
  refine G.seq rfl ?_
  refine G.reg Tryd.func44 rfl ?_
  refine RW.opS rfl rfl rfl rfl (OpX.buildOnes (us := [_]) Tryd.underlying84 H.el9 rfl rfl (by decide) (by simp [Value.oneCell'])) ?_
  rintro _ _ ⟨rfl, rfl⟩
  refine RW.pureS rfl rfl rfl rfl (OpP.assign rfl) ?_
  refine RW.done rfl ?_
  refine G.sub (ρ' := [(0, _), (2, _), (3, _)]) ⟨rfl, rfl, rfl, trivial⟩ ?_
  refine G.seq rfl ?_
  refine G.seq rfl ?_
  refine G.reg Tryd.func44 rfl ?_
  refine RW.pureS rfl rfl rfl rfl (OpP.assign rfl) ?_
  refine RW.done rfl ?_
  refine G.sub (ρ' := [(0, _), (2, _), (3, _), (4, _)]) ⟨rfl, rfl, rfl, rfl, trivial⟩ ?_
  refine G.block rfl rfl ?_
  have hp := Ext.push (fun _ => False) h (.cells [Value.string ⟨#[]⟩].toArray 9)
  refine G.loop (σ := Nat × Value × List ByteArray × ByteArray) (fun q => [(0, .string s), (3, q.2.1), (4, .int .i64 q.1)]) (fun q h' => Ext0 h h' ∧ q.1 ≤ s.size ∧ q.2.2.1.length ≤ q.1 ∧ q.2.2.2.size ≤ q.1 ∧ OwE Value.string h' h.size 9 q.2.1 (q.2.2.1 ++ [q.2.2.2]) ∧ 32 ∉ q.2.2.2.data.toList ∧ splitS 32 s.data.toList = lists q.2.2.1 ++ splitS 32 (q.2.2.2.data.toList ++ s.data.toList.drop q.1)) (fun q => s.size - q.1) ((0, .slice (some ⟨h.size, 0, none⟩) 1 1, [], ⟨#[]⟩)) rfl ⟨rfl, rfl, rfl, trivial⟩ ⟨hp, Nat.zero_le _, Nat.zero_le _, Nat.zero_le _, OwE.made Value.string h 9 [⟨#[]⟩] 1 rfl (by decide) h.size (Nat.le_refl _) rfl, by simp, by simp⟩ ?_
  rintro ⟨k, v, front, last⟩ h1 ⟨he1, hk, hfl, hll, hv, hlast, hd⟩ ih
  try dsimp only
  dsimp only at hk hfl hll hv hlast hd
  refine G.seq rfl ?_
  refine G.seq rfl ?_
  refine G.reg Tryd.func44 rfl ?_
  refine RW.pureS rfl rfl rfl rfl (OpP.move rfl) ?_
  refine RW.pureS rfl rfl rfl rfl (OpP.move rfl) ?_
  refine RW.pureS rfl rfl rfl rfl (OpP.lenString Tryd.underlying9 rfl) ?_
  refine RW.pureS rfl rfl rfl rfl (OpP.lss rfl rfl) ?_
  refine RW.done rfl ?_
  refine G.sub (ρ' := [(0, _), (3, _), (4, _), (9, _)]) ⟨rfl, rfl, rfl, rfl, trivial⟩ ?_
  refine G.ite rfl rfl (fun hlt => ?_) (fun hlt => ?_)
  · have hlt' : k < s.size := by omega
    obtain ⟨c, hc⟩ := at_of_lt hlt'
    rw [drop_next hc] at hd
    have h32 : (32 : UInt8).toNat = 32 := rfl
    refine G.skip rfl ?_
    refine G.seq rfl ?_
    refine G.block rfl rfl ?_
    refine G.seq rfl ?_
    refine G.reg Tryd.func44 rfl ?_
    refine RW.pureS rfl rfl rfl rfl (OpP.move rfl) ?_
    refine RW.pureS rfl rfl rfl rfl (OpP.move rfl) ?_
    refine RW.pureS rfl rfl rfl rfl (OpP.indexStr Tryd.underlying9 rfl rfl k rfl hc) ?_
    refine RW.pureS rfl rfl rfl rfl (OpP.eqlInt rfl rfl) ?_
    refine RW.done rfl ?_
    refine G.sub (ρ' := [(0, _), (3, _), (4, _), (9, _), (15, _)]) ⟨rfl, rfl, rfl, rfl, rfl, trivial⟩ ?_
    refine G.ite rfl rfl (fun hsp => ?_) (fun hsp => ?_)
    · have hc32 : c = 32 := UInt8.toNat_inj.1 (by omega)
      subst hc32
      rw [splitS_hit _ hlast] at hd
      have hlen : (front ++ [last]).length ≤ k + 1 := by simp; omega
      refine G.reg Tryd.func44 rfl ?_
      refine RW.pureS rfl rfl rfl rfl (OpP.move rfl) ?_
      refine RW.opS rfl rfl rfl rfl (OpX.buildOnes (us := [_]) Tryd.underlying84 H.el9 rfl rfl (by decide) (by simp [Value.oneCell'])) ?_
      rintro _ _ ⟨rfl, rfl⟩
      refine RW.opS rfl rfl rfl rfl (OpX.appendNew Tryd.underlying84 H.el9 rfl rfl (hv) rfl rfl (by first | decide | simp [Value.oneCell']) (by omega) (by decide) he1.size) ?_
      rintro v2 h2 ⟨ho2, hx2, -, -⟩
      refine RW.pureS rfl rfl rfl rfl (OpP.assign rfl) ?_
      refine RW.done rfl ?_
      refine G.sub (ρ' := [(0, _), (3, _), (4, _), (9, _), (15, _)]) ⟨rfl, rfl, rfl, rfl, rfl, trivial⟩ ?_
      refine G.blkEnd ?_
      refine G.reg Tryd.func44 rfl ?_
      refine RW.pureS rfl rfl rfl rfl (OpP.move rfl) ?_
      refine RW.pureS rfl rfl rfl rfl (OpP.add64 rfl rfl ⟨by omega, by omega⟩) ?_
      refine RW.pureS rfl rfl rfl rfl (OpP.assign rfl) ?_
      refine RW.done rfl ?_
      refine G.sub (ρ' := [(0, _), (3, _), (4, _), (9, _), (15, _)]) ⟨rfl, rfl, rfl, rfl, rfl, trivial⟩ ?_
      exact ih (k + 1, v2, front ++ [last], ⟨#[]⟩) _ _ ⟨rfl, rfl, rfl, trivial⟩ ⟨OwE.grown he1 hv (Nat.le_refl _) hx2, by show k + 1 ≤ s.size; omega, hlen, Nat.zero_le _, OwE.of (ys := [⟨#[]⟩]) ho2 rfl rfl rfl, by simp, by rw [hd]; simp⟩ (by show s.size - (k + 1) < s.size - k; omega)
    · have hc32 : c ≠ 32 := fun e => hsp (by rw [e]; rfl)
      have hx1 := extract_one hc
      have hsz : (s.extract k (k + 1)).size = 1 := by rw [hx1, bs_size]; rfl
      have hcat : (last ++ s.extract k (k + 1)).data.toList = last.data.toList ++ [c] := by rw [hx1]; simp [bs]
      have hl2 : 32 ∉ (last ++ s.extract k (k + 1)).data.toList := by
        rw [hcat]; simp only [List.mem_append, List.mem_singleton, not_or]; exact ⟨hlast, fun e => hc32 e.symm⟩
      obtain ⟨oa, cc, rfl, hw⟩ := OwnH.open hv
      obtain ⟨g, ha, hgb, hglt, hcell, hfz⟩ := hw.at (i := front.length) (x := .string last) (by simp)
      have hn1 : (front ++ [last]).length = front.length + 1 := by simp
      have hset : (List.map Value.string (front ++ [last])).set front.length (.string (last ++ s.extract k (k + 1))) = List.map Value.string (front ++ [last ++ s.extract k (k + 1)]) := by
        rw [List.map_append, List.set_append_right _ _ (by simp)]
        simp
      have hw2 := hw.set ha (i := front.length) (by omega) (.string (last ++ s.extract k (k + 1)))
      rw [hset] at hw2
      refine G.draw (fun b => Array.size h1 ≤ b) (fun i => Nat.blt i 17) (sz := 18) (listed := #[false, false, false, false, false, false, false, false, false, false, false, false, false, false, false, false, false, false]) Tryd.func44 H.mixed rfl rfl rfl ?_
      refine RD.takeS 0 (listed' := #[true, false, false, false, false, false, false, false, false, false, false, false, false, false, false, false, false, false]) rfl (by kernel_rfl) (by kernel_rfl) (by kernel_rfl) rfl rfl rfl (fun h' e => OpP.move rfl) rfl ?_
      refine RD.takeS 1 (listed' := #[true, true, false, false, false, false, false, false, false, false, false, false, false, false, false, false, false, false]) rfl (by kernel_rfl) (by kernel_rfl) (by kernel_rfl) rfl rfl rfl (fun h' e => OpP.move rfl) rfl ?_
      refine RD.takeS 2 (listed' := #[true, true, true, false, false, false, false, false, false, false, false, false, false, false, false, false, false, false]) rfl (by kernel_rfl) (by kernel_rfl) (by kernel_rfl) rfl rfl rfl (fun h' e => OpP.lenSlice Tryd.underlying84 rfl) rfl ?_
      refine RD.takeS 3 (listed' := #[true, true, true, true, false, false, false, false, false, false, false, false, false, false, false, false, false, false]) rfl (by kernel_rfl) (by kernel_rfl) (by kernel_rfl) rfl rfl rfl (fun h' e => OpP.sub64 rfl rfl ⟨by omega, by omega⟩) rfl ?_
      refine RD.takeS 4 (listed' := #[true, true, true, true, true, false, false, false, false, false, false, false, false, false, false, false, false, false]) rfl (by kernel_rfl) (by kernel_rfl) (by kernel_rfl) rfl rfl rfl (fun h' e => OpP.move rfl) rfl ?_
      refine RD.takeS 5 (listed' := #[true, true, true, true, true, true, false, false, false, false, false, false, false, false, false, false, false, false]) rfl (by kernel_rfl) (by kernel_rfl) (by kernel_rfl) rfl rfl rfl (fun h' e => OpP.move rfl) rfl ?_
      refine RD.takeS 6 (listed' := #[true, true, true, true, true, true, true, false, false, false, false, false, false, false, false, false, false, false]) rfl (by kernel_rfl) (by kernel_rfl) (by kernel_rfl) rfl rfl rfl (fun h' e => OpP.lenSlice Tryd.underlying84 rfl) rfl ?_
      refine RD.takeS 7 (listed' := #[true, true, true, true, true, true, true, true, false, false, false, false, false, false, false, false, false, false]) rfl (by kernel_rfl) (by kernel_rfl) (by kernel_rfl) rfl rfl rfl (fun h' e => OpP.sub64 rfl rfl ⟨by omega, by omega⟩) rfl ?_
      refine RD.takeS 8 (listed' := #[true, true, true, true, true, true, true, true, true, false, false, false, false, false, false, false, false, false]) rfl (by kernel_rfl) (by kernel_rfl) (by kernel_rfl) rfl rfl rfl (fun h' e => OpP.indexSlice Tryd.underlying84 H.sz9 rfl rfl front.length (by omega) ha (by omega)) rfl ?_
      refine RD.takeS 9 (listed' := #[true, true, true, true, true, true, true, true, true, true, false, false, false, false, false, false, false, false]) rfl (by kernel_rfl) (by kernel_rfl) (by kernel_rfl) rfl rfl rfl (fun h' e => OpP.load H.ag9 rfl (e.old hcell)) rfl ?_
      refine RD.takeS 10 (listed' := #[true, true, true, true, true, true, true, true, true, true, true, false, false, false, false, false, false, false]) rfl (by kernel_rfl) (by kernel_rfl) (by kernel_rfl) rfl rfl rfl (fun h' e => OpP.move rfl) rfl ?_
      refine RD.takeS 11 (listed' := #[true, true, true, true, true, true, true, true, true, true, true, true, false, false, false, false, false, false]) rfl (by kernel_rfl) (by kernel_rfl) (by kernel_rfl) rfl rfl rfl (fun h' e => OpP.move rfl) rfl ?_
      refine RD.takeS 12 (listed' := #[true, true, true, true, true, true, true, true, true, true, true, true, true, false, false, false, false, false]) rfl (by kernel_rfl) (by kernel_rfl) (by kernel_rfl) rfl rfl rfl (fun h' e => OpP.move rfl) rfl ?_
      refine RD.takeS 13 (listed' := #[true, true, true, true, true, true, true, true, true, true, true, true, true, true, false, false, false, false]) rfl (by kernel_rfl) (by kernel_rfl) (by kernel_rfl) rfl rfl rfl (fun h' e => OpP.add64 rfl rfl ⟨by omega, by omega⟩) rfl ?_
      refine RD.takeS 14 (listed' := #[true, true, true, true, true, true, true, true, true, true, true, true, true, true, true, false, false, false]) rfl (by kernel_rfl) (by kernel_rfl) (by kernel_rfl) rfl rfl rfl (fun h' e => OpP.sliceStr Tryd.underlying9 rfl rfl k rfl rfl (k + 1) (by omega) (by omega) (by omega)) rfl ?_
      refine RD.takeS 15 (listed' := #[true, true, true, true, true, true, true, true, true, true, true, true, true, true, true, true, false, false]) rfl (by kernel_rfl) (by kernel_rfl) (by kernel_rfl) rfl rfl rfl (fun h' e => OpP.addStr rfl rfl (by omega)) rfl ?_
      refine RD.takeS 16 (listed' := #[true, true, true, true, true, true, true, true, true, true, true, true, true, true, true, true, true, false]) rfl (by kernel_rfl) (by kernel_rfl) (by kernel_rfl) rfl rfl rfl (fun h' e => OpP.indexSlice Tryd.underlying84 H.sz9 rfl rfl front.length (by omega) ha (by omega)) rfl ?_
      refine RD.one0 17 (listed' := #[true, true, true, true, true, true, true, true, true, true, true, true, true, true, true, true, true, true]) rfl (by kernel_rfl) rfl rfl (OpX.store H.sz9 rfl rfl rfl hcell hfz) rfl ?_
      rintro _ _ ⟨rfl, rfl⟩
      refine ⟨fun hk => (nomatch hk), ?_⟩
      refine RD.done (by kernel_rfl) ?_
      refine G.sub (ρ' := [(0, _), (3, _), (4, _), (9, _), (15, _)]) ⟨rfl, rfl, rfl, rfl, rfl, trivial⟩ ?_
      refine G.blkEnd ?_
      refine G.reg Tryd.func44 rfl ?_
      refine RW.pureS rfl rfl rfl rfl (OpP.move rfl) ?_
      refine RW.pureS rfl rfl rfl rfl (OpP.add64 rfl rfl ⟨by omega, by omega⟩) ?_
      refine RW.pureS rfl rfl rfl rfl (OpP.assign rfl) ?_
      refine RW.done rfl ?_
      refine G.sub (ρ' := [(0, _), (3, _), (4, _), (9, _), (15, _)]) ⟨rfl, rfl, rfl, rfl, rfl, trivial⟩ ?_
      exact ih (k + 1, _, front, last ++ s.extract k (k + 1)) _ _ ⟨rfl, rfl, rfl, trivial⟩ ⟨he1.set (by show h.size ≤ g; omega) _, by show k + 1 ≤ s.size; omega, by show front.length ≤ k + 1; omega, by show (last ++ s.extract k (k + 1)).size ≤ k + 1; rw [ByteArray.size_append]; omega, by have := hw2.own; simpa [OwE] using this, hl2, by rw [hd, hcat]; simp⟩ (by show s.size - (k + 1) < s.size - k; omega)
  · have hks : s.data.toList.drop k = [] := List.drop_of_length_le (by simp; omega)
    rw [hks, List.append_nil, splitS_none hlast] at hd
    refine G.exit rfl rfl ?_
    refine G.seq rfl ?_
    refine G.reg Tryd.func44 rfl ?_
    refine RW.pureS rfl rfl rfl rfl (OpP.move rfl) ?_
    refine RW.pureS rfl rfl rfl rfl (OpP.assign rfl) ?_
    refine RW.done rfl ?_
    refine G.sub (ρ' := [(0, _), (2, _), (3, _), (4, _), (9, _)]) ⟨rfl, rfl, rfl, rfl, rfl, trivial⟩ ?_
    refine G.ret Tryd.func44 rfl rfl ?_
    exact ⟨_, rfl, _, by rw [hd]; simp, hv, he1⟩

end Go.Proofs.YtmbikkapabljfaaDoor
