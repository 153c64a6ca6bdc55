/- Plain words, the logic of walks, and walks that the statement's proof leans on (part 20). -/
import Derived.LaidLaws
import Derived.LaidMore
import Derived.OpenShut
import Derived.Stop.Joined
import Derived.ChangeMaps5
import Derived.Lay
import Derived.Test.YtlkmlfofhbekoaaDoorQa
import Derived.Test.YtlkmlfofhbekoaaDoorQb
import Derived.Test.YtlkmlfofhbekoaaDoorQc
import Derived.Test.YtlkmlfofhbekoaaDoorQd
import Derived.Test.YtlkmlfofhbekoaaDoorQe
import Derived.Test.YtlkmlfofhbekoaaDoorQf
import Derived.Test.YtlkmlfofhbekoaaDoorQg
import Derived.Test.YtlkmlfofhbekoaaDoorQh
import Derived.Test.YtlkmlfofhbekoaaDoorQi
import Derived.Test.YtlkmlfofhbekoaaDoorQj
import Derived.Test.YtlkmlfofhbekoaaDoorQk
import Derived.Test.YtlkmlfofhbekoaaDoorQl
import Derived.Test.YtlkmlfofhbekoaaDoorQm
import Derived.Test.YtlkmlfofhbekoaaDoorQn
import Derived.Test.YtlkmlfofhbekoaaDoorQo
import Derived.Test.YtlkmlfofhbekoaaDoorQp
import Derived.Test.YtlkmlfofhbekoaaDoorQq
import Derived.Test.YtlkmlfofhbekoaaDoorQr
import Derived.Test.YtlkmlfofhbekoaaDoorQs

namespace Go.Proofs.YtlkmlfofhbekoaaDoor
open Go Go.Lw Go.ChangeShapes Go.WideShapes Go.ChangeAt Go.RowKit
set_option maxRecDepth 20000
theorem own : ownKnob Tryd.prog.godebug = none := by kernel_rfl
theorem laidOut : laidOutB Tryd.prog = true := by kernel_rfl
theorem asc_signs (c : UInt8) : ((asc (c.toNat : Int) [((42 : Int), (4 : Int)), (43, 5), (63, 6)]).map (Value.int .i64)).getD (Value.int .i64 0) = Value.int .i64 (signOf c : Nat) := by
 have hc : ∀ n : Nat, n < 256 → (c.toNat = n ↔ c = UInt8.ofNat n) := fun n hn => by
  rw [← UInt8.toNat_inj]; simp; rw [Nat.mod_eq_of_lt hn]
 simp only [asc, signOf]
 by_cases h1 : c = 42
 · subst h1; rfl
 by_cases h2 : c = 43
 · subst h2; rfl
 by_cases h3 : c = 63
 · subst h3; rfl
 have n1 : ¬ (c.toNat : Int) = 42 := fun e => h1 ((hc 42 (by decide)).1 (by omega))
 have n2 : ¬ (c.toNat : Int) = 43 := fun e => h2 ((hc 43 (by decide)).1 (by omega))
 have n3 : ¬ (c.toNat : Int) = 63 := fun e => h3 ((hc 63 (by decide)).1 (by omega))
 simp [h1, h2, h3, n1, n2, n3]
theorem signs_of {W : World} {g t : Nat} {cs : Array Value} {fuel : Nat} {pl : List MemPlace} {sp : Nat → Bool} {held : Bool} {enc : TypeId × Value → Unit} (hg : Tryd.prog.globalNamed "limner/regs.signs" = some g) (ht : (Tryd.prog.globals[g]?).map (·.type) = some t) (hv : W.var? Tryd.prog "limner/regs.signs" = some cs)
 (hd : DataW.trod enc Tryd.prog W 0 sp held fuel t cs.toList = some (Rows.laid_limner_regs_signs, pl)) : Sg W.heap W.heap.size := by
 have gT : Tryd.prog.globalNamed "limner/regs.signs" = some 3 := by kernel_rfl
 have tT : (Tryd.prog.globals[3]?).map (·.type) = some 165 := by kernel_rfl
 obtain rfl := Option.some.inj (gT.symm.trans hg)
 obtain rfl := Option.some.inj (tT.symm.trans ht)
 obtain ⟨b, hcs, l, hm, hp⟩ := laid_map (kk := .u8) (kd := .i64) Tryd.underlying165 Tryd.underlying5 Tryd.underlying3 hd
 have hcell : W.cell? ⟨3, 0, none⟩ = some (.map (some b)) := by
  have := World.var?_cell hg hv 0
  obtain ⟨l1⟩ := cs
  simp only at hcs
  subst hcs
  simpa using this
 have hc2 : cellAt W.heap ⟨3, 0, none⟩ = some (.map (some b)) := (At.refl W).cell _ ▸ hcell
 have hperm : l.Perm [((42 : Int), (4 : Int)), (43, 5), (63, 6)] := by
  have hinj : ∀ p q : Int × Int, ((.int .u8 p.1, .lit (.int .i64 p.2)) : Lit × DataW Unit) = (.int .u8 q.1, .lit (.int .i64 q.2)) → p = q := by
   intro p q h
   simp only [Prod.mk.injEq, Lit.int.injEq, DataW.lit.injEq, true_and] at h
   exact Prod.ext h.1 h.2
  have hp' : (l.map fun p => ((.int .u8 p.1, .lit (.int .i64 p.2)) : Lit × DataW Unit)).Perm ([((42 : Int), (4 : Int)), (43, 5), (63, 6)].map fun p => ((.int .u8 p.1, .lit (.int .i64 p.2)) : Lit × DataW Unit)) := hp
  have hback : ∀ m : List (Int × Int), (m.map fun p => ((.int .u8 p.1, .lit (.int .i64 p.2)) : Lit × DataW Unit)).map (fun y => match y with | (.int _ a, .lit (.int _ b)) => (a, b) | _ => ((0 : Int), (0 : Int))) = m := by
   intro m
   rw [List.map_map]
   have : ((fun y => match y with | (.int _ a, .lit (.int _ b)) => (a, b) | _ => ((0 : Int), (0 : Int))) ∘ fun p => ((.int .u8 p.1, .lit (.int .i64 p.2)) : Lit × DataW Unit)) = id := by funext p; rfl
   rw [this, List.map_id]
  have := hp'.map (fun y => match y with | (.int _ a, .lit (.int _ b)) => (a, b) | _ => ((0 : Int), (0 : Int)))
  rwa [hback, hback] at this
 refine ⟨b, lt_of_cellAt hc2, hm.lt, hc2, l, hm, fun c => ?_⟩
 rw [asc_perm hperm (by decide)]
 exact asc_signs c
end Go.Proofs.YtlkmlfofhbekoaaDoor
namespace Go.Proofs.YtlkmlfofhbekoaaDoor
open Go Go.Lw
set_option maxRecDepth 20000
theorem bInfo : ∃ j, Tryd.prog.info? 138 = some j ∧ j.size ≠ 0 := ⟨_, rfl, by decide⟩
theorem u8Info : ∃ i, Tryd.prog.info? 5 = some i ∧ i.zero = some (.int .u8 0) ∧ i.size = 1 ∧ i.bytes = 1 := ⟨_, rfl, rfl, rfl, rfl⟩
theorem bLies : liesAt Tryd.prog Tryd.prog.depth 138 (2 / Tryd.prog.cellsOf 138) 0 138 1 = true := by kernel_rfl
theorem u8Cells : Tryd.prog.cellsOf 5 = 1 := by kernel_rfl
theorem copyCheck_fresh {h : Heap} {b : Nat} {v : Value} (hb : Blk h b 138 [.pointer none, v]) :
 CallsH Tryd.prog 71 #[.pointer (some ⟨b, 0, none⟩)] h (Ret fun _ h' => Blk h' b 138 [.pointer (some ⟨b, 0, none⟩), v] ∧ Ext (fun i => i = b) h h' ∧ h'.size = h.size) := by
 obtain ⟨j, hj, hj0⟩ := bInfo
 refine CallsH.of Tryd.func71 rfl rfl ?_
 refine xra Tryd.func71 2 rfl ?_
 refine xp rfl (OpP.fieldAddr (off := 0) Tryd.underlying138 rfl rfl H.sz136 rfl) ?_
 refine xp rfl (OpP.load H.ag136 rfl (hb.cell (i := 0) rfl)) ?_
 refine xp rfl (OpP.eqlNil Tryd.underlying136 rfl rfl) ?_
 refine xd [0, 6] rfl ?_
 refine G.cond rfl rfl (fun _ => ?_) (fun hc => absurd hc (by decide))
 refine G.reg Tryd.func71 rfl ?_
 refine xqp 2 rfl rfl (OpP.toUnsafe Tryd.underlying136 Tryd.underlying158 hj hj0 hb (by simp) rfl) ?_
 refine xp rfl (OpP.noEscape Tryd.func76 (by decide +kernel) (by kernel_rfl) (by kernel_rfl) (by kernel_rfl) rfl) ?_
 refine xp rfl (OpP.fromUnsafe Tryd.underlying158 Tryd.underlying136 hj hb bLies rfl) ?_
 refine xqp 1 rfl rfl (OpP.fieldAddr (off := 0) Tryd.underlying138 rfl rfl H.sz136 rfl) ?_
 refine RW.op0 rfl rfl rfl (OpX.storeOne H.sz136 rfl rfl hb (by first | decide | exact of_decide_eq_true rfl | (simp; done) | (simp; omega)) rfl) ?_
 rintro _ h1 ⟨rfl, hb1, hx1, hs1⟩
 refine xd [0, 6] rfl ?_
 refine G.fall Tryd.func71 rfl ?_
 exact ⟨_, rfl, hb1, hx1, hs1⟩
theorem copyCheck_used {h : Heap} {b : Nat} {v : Value} (hb : Blk h b 138 [.pointer (some ⟨b, 0, none⟩), v]) :
 CallsH Tryd.prog 71 #[.pointer (some ⟨b, 0, none⟩)] h (Ret fun _ h' => Blk h' b 138 [.pointer (some ⟨b, 0, none⟩), v] ∧ Ext (fun i => i = b) h h' ∧ h'.size = h.size) := by
 obtain ⟨j, hj, hj0⟩ := bInfo
 refine CallsH.of Tryd.func71 rfl rfl ?_
 refine xra Tryd.func71 2 rfl ?_
 refine xp rfl (OpP.fieldAddr (off := 0) Tryd.underlying138 rfl rfl H.sz136 rfl) ?_
 refine xp rfl (OpP.load H.ag136 rfl (hb.cell (i := 0) rfl)) ?_
 refine xp rfl (OpP.eqlNil Tryd.underlying136 rfl rfl) ?_
 refine xd [0, 6] rfl ?_
 refine G.cond rfl rfl (fun hc => absurd hc Bool.false_ne_true) (fun _ => ?_)
 refine xra Tryd.func71 2 rfl ?_
 refine xp rfl (OpP.fieldAddr (off := 0) Tryd.underlying138 rfl rfl H.sz136 rfl) ?_
 refine xp rfl (OpP.load H.ag136 rfl (hb.cell (i := 0) rfl)) ?_
 refine xqp 1 rfl rfl (OpP.neqPtrSame Tryd.underlying136 hj rfl rfl) ?_
 refine xd [0, 6, 19] rfl ?_
 refine G.cond rfl rfl (fun hc => absurd hc Bool.false_ne_true) (fun _ => ?_)
 refine G.skip rfl ?_
 refine G.fall Tryd.func71 rfl ?_
 exact ⟨_, rfl, hb, Ext.refl _ _, rfl⟩
theorem copyCheck_calls {h : Heap} {b : Nat} {p v : Value} (hb : Blk h b 138 [p, v]) (hp : p = .pointer none ∨ p = .pointer (some ⟨b, 0, none⟩)) :
 CallsH Tryd.prog 71 #[.pointer (some ⟨b, 0, none⟩)] h (Ret fun _ h' => Blk h' b 138 [.pointer (some ⟨b, 0, none⟩), v] ∧ Ext (fun i => i = b) h h' ∧ h'.size = h.size) := by
 rcases hp with rfl | rfl
 · exact copyCheck_fresh hb
 · exact copyCheck_used hb
theorem writeString_calls {h : Heap} {b : Nat} {l : List UInt8} (s : ByteArray) (hb : BldH h b 138 5 l) (hl : l.length + s.size ≤ 140737488355328) :
 CallsH Tryd.prog 58 #[.pointer (some ⟨b, 0, none⟩), .string s] h (Ret fun r h' => r = .tuple #[.int .i64 s.size, .nilIface] ∧ BldH h' b 138 5 (l ++ s.data.toList) ∧ Ext (fun i => b ≤ i) h h') := by
 obtain ⟨i, hi, hi0, hi1, hi2⟩ := u8Info
 obtain ⟨p, v, hk, hp, hv⟩ := hb
 have hlt := hk.lt
 refine CallsH.of Tryd.func58 rfl rfl ?_
 refine xrd Tryd.func58 2 [0, 1, 4, 5] rfl ?_
 refine xra Tryd.func58 1 rfl ?_
 refine xo rfl (OpX.call (vs := [_]) Tryd.func71 rfl H.nm71 rfl (CallsH.toX (copyCheck_calls hk hp))) ?_
 rintro _ h1 ⟨hk1, hx1, hs1⟩
 refine xd [0, 1, 4, 5] rfl ?_
 refine xra Tryd.func58 3 rfl ?_
 refine xp rfl (OpP.fieldAddr (off := 1) Tryd.underlying138 rfl rfl H.sz22 rfl) ?_
 have hv1 : OwB h1 (b + 1) 5 v l := OwnH.ext hx1 hv (fun g hg => by have := own_ne hv g hg.symm; omega)
 refine xp rfl (OpP.load H.ag22 rfl (hk1.cell (i := 1) rfl)) ?_
 refine xqm 1 rfl ?_
 refine xo rfl (OpX.appendStr Tryd.underlying22 Tryd.underlying9 hi hi0 hi1 hi2 rfl rfl hv1 hl (by omega)) ?_
 rintro v2 h2 ⟨ho2, hx2⟩
 refine xqp 1 rfl rfl (OpP.fieldAddr (off := 1) Tryd.underlying138 rfl rfl H.sz22 rfl) ?_
 have hk2 := hk1.ext hx2 (fun hm => by have := own_ne hv1 b hm; omega)
 obtain ⟨oa2, c2, rfl, -⟩ := OwnH.open ho2
 refine RW.op0 rfl rfl rfl (OpX.storeOne H.sz22 rfl rfl hk2 (by first | decide | exact of_decide_eq_true rfl | (simp; done) | (simp; omega)) rfl) ?_
 rintro _ h3 ⟨rfl, hk3, hx3, hs3⟩
 refine xd [0, 1, 4, 5] rfl ?_
 refine xra Tryd.func58 1 rfl ?_
 refine xp rfl (OpP.lenString Tryd.underlying9 rfl) ?_
 refine xqd 2 [0, 1, 4, 5] rfl ?_
 refine G.ret Tryd.func58 rfl rfl ?_
 have ho3 : OwB h3 (b + 1) 5 _ (l ++ s.data.toList) := OwnH.ext hx3 ho2 (fun g hg => by have := own_ne ho2 g hg.symm; omega)
 exact ⟨_, rfl, rfl, ⟨_, _, hk3, .inr rfl, ho3⟩, ((hx1.mono (fun _ _ k => by show b ≤ _; omega)).trans (hx2.mono (fun g _ k => by have := own_ne hv1 g k; show b ≤ g; omega))).trans (hx3.mono (fun _ _ k => by show b ≤ _; omega))⟩
theorem BldH.ext0 {h h' : Heap} {b : Nat} {l : List UInt8} (k : BldH h b 138 5 l) (e : Ext0 h h') : BldH h' b 138 5 l := by
 obtain ⟨p, v, hk, hp, hv⟩ := k
 exact ⟨p, v, hk.ext0 e, hp, OwE.ext0 hv e⟩
theorem bString_calls {h : Heap} {b : Nat} {l : List UInt8} (hb : BldH h b 138 5 l) (hl : l.length ≤ 140737488355328) :
 CallsH Tryd.prog 61 #[.pointer (some ⟨b, 0, none⟩)] h (Ret fun r h' => r = .string ⟨l.toArray⟩ ∧ Ext (fun i => b ≤ i) h h') := by
 obtain ⟨p, v, hk, hp, hv⟩ := hb
 obtain ⟨oa, c, rfl, hw⟩ := OwnH.open hv
 have hc1 := hk.cell (i := 1) rfl
 refine CallsH.of Tryd.func61 rfl rfl ?_
 refine xrd Tryd.func61 1 [0, 2] rfl ?_
 refine G.seq rfl ?_
 refine G.draw (fun i => b + 1 ≤ i) (fun i => Nat.blt i 12) (sz := 12) (listed := #[false, false, false, false, false, false, false, false, false, false, false, false]) Tryd.func61 H.mixed rfl rfl rfl ?_
 refine xtq 0 1 (by kernel_rfl) rfl ?_
 refine xtq 1 3 (by kernel_rfl) rfl ?_
 refine xtp 2 7 (by kernel_rfl) rfl (fun h' e => OpP.fieldAddr (off := 1) Tryd.underlying138 rfl rfl H.sz22 rfl) ?_
 refine xtp 3 15 (by kernel_rfl) rfl (fun h' e => OpP.load H.ag22 rfl (e.cell (by show ¬ b + 1 ≤ b; omega) hc1)) ?_
 refine xtq 5 47 (by kernel_rfl) rfl ?_
 refine xtq 6 111 (by kernel_rfl) rfl ?_
 refine xtp 7 239 (by kernel_rfl) rfl (fun h' e => OpP.fieldAddr (off := 1) Tryd.underlying138 rfl rfl H.sz22 rfl) ?_
 refine xtp 8 495 (by kernel_rfl) rfl (fun h' e => OpP.load H.ag22 rfl (e.cell (by show ¬ b + 1 ≤ b; omega) hc1)) ?_
 refine xtp 9 1007 (by kernel_rfl) rfl (fun h' e => OpP.lenSlice Tryd.underlying22 rfl) ?_
 refine xto 4 1023 (by kernel_rfl) rfl (OpX.sliceData Tryd.underlying156 rfl hv) ?_
 rintro u h1 ⟨⟨q, rfl, hs⟩, he⟩
 refine ⟨fun _ => he.of, ?_⟩
 refine xto 10 2047 (by kernel_rfl) rfl (OpX.unsafeString Tryd.underlying156 u8Cells rfl rfl hs hl) ?_
 rintro _ h2 ⟨rfl, hx2⟩
 refine ⟨fun _ => hx2, ?_⟩
 refine xtq 11 4095 (by kernel_rfl) rfl ?_
 refine RD.done (by kernel_rfl) ?_
 refine xu [0, 2] rfl ?_
 refine G.ret Tryd.func61 rfl rfl ?_
 exact ⟨_, rfl, rfl, (Ext0.of he).trans (hx2.mono (fun g _ k => by have : b + 1 ≤ g := k; show b ≤ g; omega))⟩
end Go.Proofs.YtlkmlfofhbekoaaDoor
