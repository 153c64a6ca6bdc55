/- strings.Builder: WriteString and String, by the program's own text of them. -/
import Derived.Test.YtmbikkapabljfaaDoorHead
namespace Go.Proofs.YtmbikkapabljfaaDoor
open Go Go.Lw
set_option maxRecDepth 20000

theorem bInfo : ∃ j, Tryd.prog.info? 66 = some j ∧ j.size ≠ 0 := ⟨_, rfl, by decide⟩
theorem u8Info : ∃ i, Tryd.prog.info? 5 = some i ∧ i.zero = some (.int .u8 0) ∧ i.size = 1 ∧ i.bytes = 1 := ⟨_, rfl, rfl, rfl, rfl⟩
theorem bLies : liesAt Tryd.prog Tryd.prog.depth 66 (2 / Tryd.prog.cellsOf 66) 0 66 1 = true := by kernel_rfl
theorem u8Cells : Tryd.prog.cellsOf 5 = 1 := by kernel_rfl

theorem copyCheck_fresh {h : Heap} {b : Nat} {v : Value} (hb : Blk h b 66 [.pointer none, v]) :
    CallsH Tryd.prog 47 #[.pointer (some ⟨b, 0, none⟩)] h (Ret fun _ h' => Blk h' b 66 [.pointer (some ⟨b, 0, none⟩), v] ∧ Ext (fun i => i = b) h h' ∧ h'.size = h.size) := by
  obtain ⟨j, hj, hj0⟩ := bInfo
  refine CallsH.of Tryd.func47 rfl rfl ?_
  refine G.seq rfl ?_
  refine G.reg Tryd.func47 rfl ?_
  refine RW.pureS rfl rfl rfl rfl (OpP.move rfl) ?_
  refine RW.pureS rfl rfl rfl rfl (OpP.nilCheck rfl) ?_
  refine RW.pureS rfl rfl rfl rfl (OpP.fieldAddr (off := 0) Tryd.underlying66 rfl rfl H.sz63 rfl) ?_
  refine RW.pureS rfl rfl rfl rfl (OpP.load H.ag63 rfl (hb.cell (i := 0) rfl)) ?_
  refine RW.pureS rfl rfl rfl rfl (OpP.eqlNil Tryd.underlying63 rfl rfl) ?_
  refine RW.done rfl ?_
  refine G.sub (ρ' := [(0, _), (6, _)]) ⟨rfl, rfl, trivial⟩ ?_
  refine G.cond rfl rfl (fun _ => ?_) (fun hc => absurd hc (by decide))
  refine G.reg Tryd.func47 rfl ?_
  refine RW.pureS rfl rfl rfl rfl (OpP.move rfl) ?_
  refine RW.pureS rfl rfl rfl rfl (OpP.move rfl) ?_
  refine RW.pureS rfl rfl rfl rfl (OpP.toUnsafe Tryd.underlying63 Tryd.underlying145 hj hj0 hb (by simp) rfl) ?_
  refine RW.pureS rfl rfl rfl rfl (OpP.noEscape Tryd.func71 (by decide +kernel) (by kernel_rfl) (by kernel_rfl) (by kernel_rfl) rfl) ?_
  refine RW.pureS rfl rfl rfl rfl (OpP.fromUnsafe Tryd.underlying145 Tryd.underlying63 hj hb bLies rfl) ?_
  refine RW.pureS rfl rfl rfl rfl (OpP.nilCheck rfl) ?_
  refine RW.pureS rfl rfl rfl rfl (OpP.fieldAddr (off := 0) Tryd.underlying66 rfl rfl H.sz63 rfl) ?_
  refine RW.op0 rfl rfl rfl (OpX.storeOne H.sz63 rfl rfl hb (by first | decide | simp | (simp; omega)) rfl) ?_
  rintro _ h1 ⟨rfl, hb1, hx1, hs1⟩
  refine RW.done rfl ?_
  refine G.sub (ρ' := [(0, _), (6, _)]) ⟨rfl, rfl, trivial⟩ ?_
  refine G.fall Tryd.func47 rfl ?_
  exact ⟨_, rfl, hb1, hx1, hs1⟩

theorem copyCheck_used {h : Heap} {b : Nat} {v : Value} (hb : Blk h b 66 [.pointer (some ⟨b, 0, none⟩), v]) :
    CallsH Tryd.prog 47 #[.pointer (some ⟨b, 0, none⟩)] h (Ret fun _ h' => Blk h' b 66 [.pointer (some ⟨b, 0, none⟩), v] ∧ Ext (fun i => i = b) h h' ∧ h'.size = h.size) := by
  obtain ⟨j, hj, hj0⟩ := bInfo
  refine CallsH.of Tryd.func47 rfl rfl ?_
  refine G.seq rfl ?_
  refine G.reg Tryd.func47 rfl ?_
  refine RW.pureS rfl rfl rfl rfl (OpP.move rfl) ?_
  refine RW.pureS rfl rfl rfl rfl (OpP.nilCheck rfl) ?_
  refine RW.pureS rfl rfl rfl rfl (OpP.fieldAddr (off := 0) Tryd.underlying66 rfl rfl H.sz63 rfl) ?_
  refine RW.pureS rfl rfl rfl rfl (OpP.load H.ag63 rfl (hb.cell (i := 0) rfl)) ?_
  refine RW.pureS rfl rfl rfl rfl (OpP.eqlNil Tryd.underlying63 rfl rfl) ?_
  refine RW.done rfl ?_
  refine G.sub (ρ' := [(0, _), (6, _)]) ⟨rfl, rfl, trivial⟩ ?_
  refine G.cond rfl rfl (fun hc => absurd hc Bool.false_ne_true) (fun _ => ?_)
  refine G.seq rfl ?_
  refine G.reg Tryd.func47 rfl ?_
  refine RW.pureS rfl rfl rfl rfl (OpP.move rfl) ?_
  refine RW.pureS rfl rfl rfl rfl (OpP.nilCheck rfl) ?_
  refine RW.pureS rfl rfl rfl rfl (OpP.fieldAddr (off := 0) Tryd.underlying66 rfl rfl H.sz63 rfl) ?_
  refine RW.pureS rfl rfl rfl rfl (OpP.load H.ag63 rfl (hb.cell (i := 0) rfl)) ?_
  refine RW.pureS rfl rfl rfl rfl (OpP.move rfl) ?_
  refine RW.pureS rfl rfl rfl rfl (OpP.neqPtrSame Tryd.underlying63 hj rfl rfl) ?_
  refine RW.done rfl ?_
  refine G.sub (ρ' := [(0, _), (6, _), (19, _)]) ⟨rfl, rfl, rfl, trivial⟩ ?_
  refine G.cond rfl rfl (fun hc => absurd hc Bool.false_ne_true) (fun _ => ?_)
  refine G.skip rfl ?_
  refine G.fall Tryd.func47 rfl ?_
  exact ⟨_, rfl, hb, Ext.refl _ _, rfl⟩

theorem copyCheck_calls {h : Heap} {b : Nat} {p v : Value} (hb : Blk h b 66 [p, v]) (hp : p = .pointer none ∨ p = .pointer (some ⟨b, 0, none⟩)) :
    CallsH Tryd.prog 47 #[.pointer (some ⟨b, 0, none⟩)] h (Ret fun _ h' => Blk h' b 66 [.pointer (some ⟨b, 0, none⟩), v] ∧ Ext (fun i => i = b) h h' ∧ h'.size = h.size) := by
  rcases hp with rfl | rfl
  · exact copyCheck_fresh hb
  · exact copyCheck_used hb

theorem writeString_calls {h : Heap} {b : Nat} {l : List UInt8} (s : ByteArray) (hb : BldH h b 66 5 l) (hl : l.length + s.size ≤ 140737488355328) :
    CallsH Tryd.prog 23 #[.pointer (some ⟨b, 0, none⟩), .string s] h (Ret fun r h' => r = .tuple #[.int .i64 s.size, .nilIface] ∧ BldH h' b 66 5 (l ++ s.data.toList) ∧ Ext (fun i => b ≤ i) h h') := by
  obtain ⟨i, hi, hi0, hi1, hi2⟩ := u8Info
  obtain ⟨p, v, hk, hp, hv⟩ := hb
  have hlt := hk.lt
  refine CallsH.of Tryd.func23 rfl rfl ?_
  refine G.seq rfl ?_
  refine G.reg Tryd.func23 rfl ?_
  refine RW.pureS rfl rfl rfl rfl (OpP.assign rfl) ?_
  refine RW.pureS rfl rfl rfl rfl (OpP.assign rfl) ?_
  refine RW.done rfl ?_
  refine G.sub (ρ' := [(0, _), (1, _), (4, _), (5, _)]) ⟨rfl, rfl, rfl, rfl, trivial⟩ ?_
  refine G.seq rfl ?_
  refine G.reg Tryd.func23 rfl ?_
  refine RW.pureS rfl rfl rfl rfl (OpP.move rfl) ?_
  refine RW.opS rfl rfl rfl rfl (OpX.call (vs := [_]) Tryd.func47 rfl H.nm47 rfl (CallsH.toX (copyCheck_calls hk hp))) ?_
  rintro _ h1 ⟨hk1, hx1, hs1⟩
  refine RW.done rfl ?_
  refine G.sub (ρ' := [(0, _), (1, _), (4, _), (5, _)]) ⟨rfl, rfl, rfl, rfl, trivial⟩ ?_
  refine G.seq rfl ?_
  refine G.reg Tryd.func23 rfl ?_
  refine RW.pureS rfl rfl rfl rfl (OpP.move rfl) ?_
  refine RW.pureS rfl rfl rfl rfl (OpP.move rfl) ?_
  refine RW.pureS rfl rfl rfl rfl (OpP.nilCheck rfl) ?_
  refine RW.pureS rfl rfl rfl rfl (OpP.fieldAddr (off := 1) Tryd.underlying66 rfl rfl H.sz64 rfl) ?_
  have hv1 : OwB h1 (b + 1) 5 v l := OwnH.ext hx1 hv (fun g hg => by have := own_ne hv g hg.symm; omega)
  refine RW.pureS rfl rfl rfl rfl (OpP.load H.ag64 rfl (hk1.cell (i := 1) rfl)) ?_
  refine RW.pureS rfl rfl rfl rfl (OpP.move rfl) ?_
  refine RW.opS rfl rfl rfl rfl (OpX.appendStr Tryd.underlying64 Tryd.underlying9 hi hi0 hi1 hi2 rfl rfl hv1 hl (by omega)) ?_
  rintro v2 h2 ⟨ho2, hx2⟩
  refine RW.pureS rfl rfl rfl rfl (OpP.nilCheck rfl) ?_
  refine RW.pureS rfl rfl rfl rfl (OpP.fieldAddr (off := 1) Tryd.underlying66 rfl rfl H.sz64 rfl) ?_
  have hk2 := hk1.ext hx2 (fun hm => by have := own_ne hv1 b hm; omega)
  obtain ⟨oa2, c2, rfl, -⟩ := OwnH.open ho2
  refine RW.op0 rfl rfl rfl (OpX.storeOne H.sz64 rfl rfl hk2 (by first | decide | simp | (simp; omega)) rfl) ?_
  rintro _ h3 ⟨rfl, hk3, hx3, hs3⟩
  refine RW.done rfl ?_
  refine G.sub (ρ' := [(0, _), (1, _), (4, _), (5, _)]) ⟨rfl, rfl, rfl, rfl, trivial⟩ ?_
  refine G.seq rfl ?_
  refine G.reg Tryd.func23 rfl ?_
  refine RW.pureS rfl rfl rfl rfl (OpP.move rfl) ?_
  refine RW.pureS rfl rfl rfl rfl (OpP.lenString Tryd.underlying9 rfl) ?_
  refine RW.pureS rfl rfl rfl rfl (OpP.assign rfl) ?_
  refine RW.pureS rfl rfl rfl rfl (OpP.assign rfl) ?_
  refine RW.done rfl ?_
  refine G.sub (ρ' := [(0, _), (1, _), (4, _), (5, _)]) ⟨rfl, rfl, rfl, rfl, trivial⟩ ?_
  refine G.ret Tryd.func23 rfl rfl ?_
  have ho3 : OwB h3 (b + 1) 5 _ (l ++ s.data.toList) := OwnH.ext hx3 ho2 (fun g hg => by have := own_ne ho2 g hg.symm; omega)
  exact ⟨_, rfl, rfl, ⟨_, _, hk3, .inr rfl, ho3⟩, ((hx1.mono (fun _ _ k => by show b ≤ _; omega)).trans (hx2.mono (fun g _ k => by have := own_ne hv1 g k; show b ≤ g; omega))).trans (hx3.mono (fun _ _ k => by show b ≤ _; omega))⟩

theorem writeString_at {h : Heap} {b : Nat} {l : List UInt8} {p v : Value} (s : ByteArray) (hk : Blk h b 66 [p, v]) (hp : p = .pointer none ∨ p = .pointer (some ⟨b, 0, none⟩)) (hv : OwB h (b + 1) 5 v l) (hl : l.length + s.size ≤ 140737488355328) :
    CallsH Tryd.prog 23 #[.pointer (some ⟨b, 0, none⟩), .string s] h (Ret fun r h' => r = .tuple #[.int .i64 s.size, .nilIface] ∧ BldH h' b 66 5 (l ++ s.data.toList) ∧ Ext (fun g => g = b ∨ but v.ownBlock g) h h') := by
  obtain ⟨i, hi, hi0, hi1, hi2⟩ := u8Info
  have hlt := hk.lt
  refine CallsH.of Tryd.func23 rfl rfl ?_
  refine G.seq rfl ?_
  refine G.reg Tryd.func23 rfl ?_
  refine RW.pureS rfl rfl rfl rfl (OpP.assign rfl) ?_
  refine RW.pureS rfl rfl rfl rfl (OpP.assign rfl) ?_
  refine RW.done rfl ?_
  refine G.sub (ρ' := [(0, _), (1, _), (4, _), (5, _)]) ⟨rfl, rfl, rfl, rfl, trivial⟩ ?_
  refine G.seq rfl ?_
  refine G.reg Tryd.func23 rfl ?_
  refine RW.pureS rfl rfl rfl rfl (OpP.move rfl) ?_
  refine RW.opS rfl rfl rfl rfl (OpX.call (vs := [_]) Tryd.func47 rfl H.nm47 rfl (CallsH.toX (copyCheck_calls hk hp))) ?_
  rintro _ h1 ⟨hk1, hx1, hs1⟩
  refine RW.done rfl ?_
  refine G.sub (ρ' := [(0, _), (1, _), (4, _), (5, _)]) ⟨rfl, rfl, rfl, rfl, trivial⟩ ?_
  refine G.seq rfl ?_
  refine G.reg Tryd.func23 rfl ?_
  refine RW.pureS rfl rfl rfl rfl (OpP.move rfl) ?_
  refine RW.pureS rfl rfl rfl rfl (OpP.move rfl) ?_
  refine RW.pureS rfl rfl rfl rfl (OpP.nilCheck rfl) ?_
  refine RW.pureS rfl rfl rfl rfl (OpP.fieldAddr (off := 1) Tryd.underlying66 rfl rfl H.sz64 rfl) ?_
  have hv1 : OwB h1 (b + 1) 5 v l := OwnH.ext hx1 hv (fun g hg => by have := own_ne hv g hg.symm; omega)
  refine RW.pureS rfl rfl rfl rfl (OpP.load H.ag64 rfl (hk1.cell (i := 1) rfl)) ?_
  refine RW.pureS rfl rfl rfl rfl (OpP.move rfl) ?_
  refine RW.opS rfl rfl rfl rfl (OpX.appendStr Tryd.underlying64 Tryd.underlying9 hi hi0 hi1 hi2 rfl rfl hv1 hl (by omega)) ?_
  rintro v2 h2 ⟨ho2, hx2⟩
  refine RW.pureS rfl rfl rfl rfl (OpP.nilCheck rfl) ?_
  refine RW.pureS rfl rfl rfl rfl (OpP.fieldAddr (off := 1) Tryd.underlying66 rfl rfl H.sz64 rfl) ?_
  have hk2 := hk1.ext hx2 (fun hm => by have := own_ne hv1 b hm; omega)
  obtain ⟨oa2, c2, rfl, -⟩ := OwnH.open ho2
  refine RW.op0 rfl rfl rfl (OpX.storeOne H.sz64 rfl rfl hk2 (by first | decide | simp | (simp; omega)) rfl) ?_
  rintro _ h3 ⟨rfl, hk3, hx3, hs3⟩
  refine RW.done rfl ?_
  refine G.sub (ρ' := [(0, _), (1, _), (4, _), (5, _)]) ⟨rfl, rfl, rfl, rfl, trivial⟩ ?_
  refine G.seq rfl ?_
  refine G.reg Tryd.func23 rfl ?_
  refine RW.pureS rfl rfl rfl rfl (OpP.move rfl) ?_
  refine RW.pureS rfl rfl rfl rfl (OpP.lenString Tryd.underlying9 rfl) ?_
  refine RW.pureS rfl rfl rfl rfl (OpP.assign rfl) ?_
  refine RW.pureS rfl rfl rfl rfl (OpP.assign rfl) ?_
  refine RW.done rfl ?_
  refine G.sub (ρ' := [(0, _), (1, _), (4, _), (5, _)]) ⟨rfl, rfl, rfl, rfl, trivial⟩ ?_
  refine G.ret Tryd.func23 rfl rfl ?_
  have ho3 : OwB h3 (b + 1) 5 _ (l ++ s.data.toList) := OwnH.ext hx3 ho2 (fun g hg => by have := own_ne ho2 g hg.symm; omega)
  exact ⟨_, rfl, rfl, ⟨_, _, hk3, .inr rfl, ho3⟩, ((hx1.mono (fun _ _ k => .inl k)).trans (hx2.mono (fun g _ k => .inr k))).trans (hx3.mono (fun _ _ k => .inl k))⟩

theorem BldH.ext0 {h h' : Heap} {b : Nat} {l : List UInt8} (k : BldH h b 66 5 l) (e : Ext0 h h') : BldH h' b 66 5 l := by
  obtain ⟨p, v, hk, hp, hv⟩ := k
  exact ⟨p, v, hk.ext0 e, hp, OwE.ext0 hv e⟩

theorem bString_calls {h : Heap} {b : Nat} {l : List UInt8} (hb : BldH h b 66 5 l) (hl : l.length ≤ 140737488355328) :
    CallsH Tryd.prog 26 #[.pointer (some ⟨b, 0, none⟩)] h (Ret fun r h' => r = .string ⟨l.toArray⟩ ∧ Ext (fun i => b ≤ i) h h') := by
  obtain ⟨p, v, hk, hp, hv⟩ := hb
  obtain ⟨oa, c, rfl, hw⟩ := OwnH.open hv
  have hc1 := hk.cell (i := 1) rfl
  refine CallsH.of Tryd.func26 rfl rfl ?_
  refine G.seq rfl ?_
  refine G.reg Tryd.func26 rfl ?_
  refine RW.pureS rfl rfl rfl rfl (OpP.assign rfl) ?_
  refine RW.done rfl ?_
  refine G.sub (ρ' := [(0, _), (2, _)]) ⟨rfl, rfl, trivial⟩ ?_
  refine G.seq rfl ?_
  refine G.draw (fun i => b + 1 ≤ i) (fun i => Nat.blt i 12) (sz := 12) (listed := #[false, false, false, false, false, false, false, false, false, false, false, false]) Tryd.func26 H.mixed rfl rfl rfl ?_
  refine RD.takeS 0 (listed' := #[true, false, false, false, false, false, false, false, false, false, false, false]) rfl (by kernel_rfl) (by kernel_rfl) (by kernel_rfl) rfl rfl rfl (fun h' e => OpP.move rfl) rfl ?_
  refine RD.takeS 1 (listed' := #[true, true, false, false, false, false, false, false, false, false, false, false]) rfl (by kernel_rfl) (by kernel_rfl) (by kernel_rfl) rfl rfl rfl (fun h' e => OpP.nilCheck rfl) rfl ?_
  refine RD.takeS 2 (listed' := #[true, true, true, false, false, false, false, false, false, false, false, false]) rfl (by kernel_rfl) (by kernel_rfl) (by kernel_rfl) rfl rfl rfl (fun h' e => OpP.fieldAddr (off := 1) Tryd.underlying66 rfl rfl H.sz64 rfl) rfl ?_
  refine RD.takeS 3 (listed' := #[true, true, true, true, false, false, false, false, false, false, false, false]) rfl (by kernel_rfl) (by kernel_rfl) (by kernel_rfl) rfl rfl rfl (fun h' e => OpP.load H.ag64 rfl (e.cell (by show ¬ b + 1 ≤ b; omega) hc1)) rfl ?_
  refine RD.takeS 5 (listed' := #[true, true, true, true, false, true, false, false, false, false, false, false]) rfl (by kernel_rfl) (by kernel_rfl) (by kernel_rfl) rfl rfl rfl (fun h' e => OpP.move rfl) rfl ?_
  refine RD.takeS 6 (listed' := #[true, true, true, true, false, true, true, false, false, false, false, false]) rfl (by kernel_rfl) (by kernel_rfl) (by kernel_rfl) rfl rfl rfl (fun h' e => OpP.nilCheck rfl) rfl ?_
  refine RD.takeS 7 (listed' := #[true, true, true, true, false, true, true, true, false, false, false, false]) rfl (by kernel_rfl) (by kernel_rfl) (by kernel_rfl) rfl rfl rfl (fun h' e => OpP.fieldAddr (off := 1) Tryd.underlying66 rfl rfl H.sz64 rfl) rfl ?_
  refine RD.takeS 8 (listed' := #[true, true, true, true, false, true, true, true, true, false, false, false]) rfl (by kernel_rfl) (by kernel_rfl) (by kernel_rfl) rfl rfl rfl (fun h' e => OpP.load H.ag64 rfl (e.cell (by show ¬ b + 1 ≤ b; omega) hc1)) rfl ?_
  refine RD.takeS 9 (listed' := #[true, true, true, true, false, true, true, true, true, true, false, false]) rfl (by kernel_rfl) (by kernel_rfl) (by kernel_rfl) rfl rfl rfl (fun h' e => OpP.lenSlice Tryd.underlying64 rfl) rfl ?_
  refine RD.oneS 4 (listed' := #[true, true, true, true, true, true, true, true, true, true, false, false]) rfl (by kernel_rfl) rfl rfl rfl (OpX.sliceData Tryd.underlying97 rfl hv) rfl ?_
  rintro u h1 ⟨⟨q, rfl, hs⟩, he⟩
  refine ⟨fun _ => he.of, ?_⟩
  refine RD.oneS 10 (listed' := #[true, true, true, true, true, true, true, true, true, true, true, false]) rfl (by kernel_rfl) rfl rfl rfl (OpX.unsafeString Tryd.underlying97 u8Cells rfl rfl hs hl) rfl ?_
  rintro _ h2 ⟨rfl, hx2⟩
  refine ⟨fun _ => hx2, ?_⟩
  refine RD.takeS 11 (listed' := #[true, true, true, true, true, true, true, true, true, true, true, true]) rfl (by kernel_rfl) (by kernel_rfl) (by kernel_rfl) rfl rfl rfl (fun h' e => OpP.assign rfl) rfl ?_
  refine RD.done (by kernel_rfl) ?_
  refine G.sub (ρ' := [(0, _), (2, _)]) ⟨rfl, rfl, trivial⟩ ?_
  refine G.ret Tryd.func26 rfl rfl ?_
  exact ⟨_, rfl, rfl, (Ext0.of he).trans (hx2.mono (fun g _ k => by have : b + 1 ≤ g := k; show b ≤ g; omega))⟩

end Go.Proofs.YtmbikkapabljfaaDoor
