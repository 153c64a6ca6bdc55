/- limnerref27.text. -/
import Derived.Test.YtmbikkapabljfaaDoorScr6
namespace Go.Proofs.YtmbikkapabljfaaDoor
open Go Go.Lw
set_option maxRecDepth 20000

theorem decR_long (c x y : UInt8) (r : Bs) : decR (c :: x :: y :: r) = if c = 92 then (if 15 < valR x ∨ 15 < valR y then none else (decR r).map (UInt8.ofNat (valR x * 16 + valR y) :: ·)) else (decR (x :: y :: r)).map (c :: ·) := by rw [decR]

theorem valR_le (c : UInt8) : valR c ≤ 16 := by
  have h : ∀ n : Fin 256, valR (UInt8.ofNat n.val) ≤ 16 := by decide +kernel
  have := h ⟨c.toNat, c.toNat_lt⟩
  simpa using this

theorem text_calls {h : Heap} (w : ByteArray) (hw : w.size ≤ 10000000) :
    CallsH Tryd.prog 45 #[.string w] h (Ret fun r h' => r = .tuple #[.string (bs (unquoteR w.data.toList).1), .bool (unquoteR w.data.toList).2] ∧ Ext0 h h') := by
  have hlw : w.data.toList.length = w.size := by simp
  refine CallsH.of Tryd.func45 rfl rfl ?_
  refine G.seq rfl ?_
  refine G.reg Tryd.func45 rfl ?_
  refine RW.pureS rfl rfl rfl rfl (OpP.assign rfl) ?_
  refine RW.pureS rfl rfl rfl rfl (OpP.assign rfl) ?_
  refine RW.done rfl ?_
  refine G.sub (ρ' := [(0, _), (2, _), (3, _)]) ⟨rfl, rfl, rfl, trivial⟩ ?_
  refine G.seq rfl ?_
  refine G.reg Tryd.func45 rfl ?_
  refine RW.pureS rfl rfl rfl rfl (OpP.assign rfl) ?_
  refine RW.done rfl ?_
  refine G.sub (ρ' := [(0, _), (2, _), (3, _), (4, _)]) ⟨rfl, rfl, rfl, rfl, trivial⟩ ?_
  refine G.seq rfl ?_
  refine G.seq rfl ?_
  refine G.reg Tryd.func45 rfl ?_
  refine RW.pureS rfl rfl rfl rfl (OpP.assign rfl) ?_
  refine RW.done rfl ?_
  refine G.sub (ρ' := [(0, _), (2, _), (3, _), (4, _), (5, _)]) ⟨rfl, rfl, rfl, rfl, rfl, trivial⟩ ?_
  refine G.block rfl rfl ?_
  refine G.loop (σ := Nat × ByteArray) (fun q => [(0, .string w), (4, .string q.2), (5, .int .i64 q.1)]) (fun q h' => Ext0 h h' ∧ 1 ≤ q.1 ∧ (w.size ≤ 1 → q.1 = 1) ∧ (1 ≤ w.size → q.1 ≤ w.size) ∧ q.2.size ≤ q.1 ∧ (decR (w.data.toList.drop q.1)).map (q.2.data.toList ++ ·) = decR (w.data.toList.drop 1)) (fun q => w.size - q.1) ((1, ⟨#[]⟩)) rfl ⟨rfl, rfl, rfl, trivial⟩ ⟨Ext.refl _ _, Nat.le_refl _, fun _ => rfl, fun k => k, Nat.zero_le _, by show (decR (w.data.toList.drop 1)).map (fun x => [] ++ x) = _; simp⟩ ?_
  rintro ⟨k, out⟩ h1 ⟨he1, hk1, hk0, hk, hl, hd⟩ ih
  try dsimp only
  dsimp only at hk1 hk0 hk hl hd
  refine G.seq rfl ?_
  refine G.seq rfl ?_
  refine G.reg Tryd.func45 rfl ?_
  refine RW.pureS rfl rfl rfl rfl (OpP.move rfl) ?_
  refine RW.pureS rfl rfl rfl rfl (OpP.move rfl) ?_
  refine RW.pureS rfl rfl rfl rfl (OpP.lenString Tryd.underlying9 rfl) ?_
  refine RW.pureS rfl rfl rfl rfl (OpP.sub64 rfl rfl ⟨by omega, by omega⟩) ?_
  refine RW.pureS rfl rfl rfl rfl (OpP.lss rfl rfl) ?_
  refine RW.done rfl ?_
  refine G.sub (ρ' := [(0, _), (4, _), (5, _), (10, _)]) ⟨rfl, rfl, rfl, rfl, trivial⟩ ?_
  refine G.ite rfl rfl (fun hlt => ?_) (fun hlt => ?_)
  · have hlt' : k + 1 < w.size := by omega
    obtain ⟨c, hc⟩ := at_of_lt (s := w) (k := k) (by omega)
    obtain ⟨x, hx⟩ := at_of_lt (s := w) (k := k + 1) (by omega)
    have hdr := drop_next hc
    rw [drop_next hx] at hdr
    have h92 : (92 : UInt8).toNat = 92 := rfl
    have hvx := valR_le x
    refine G.skip rfl ?_
    refine G.seq rfl ?_
    refine G.block rfl rfl ?_
    refine G.seq rfl ?_
    refine G.reg Tryd.func45 rfl ?_
    refine RW.pureS rfl rfl rfl rfl (OpP.move rfl) ?_
    refine RW.pureS rfl rfl rfl rfl (OpP.move rfl) ?_
    refine RW.pureS rfl rfl rfl rfl (OpP.indexStr Tryd.underlying9 rfl rfl k rfl hc) ?_
    refine RW.pureS rfl rfl rfl rfl (OpP.eqlInt rfl rfl) ?_
    refine RW.done rfl ?_
    refine G.sub (ρ' := [(0, _), (4, _), (5, _), (10, _), (16, _)]) ⟨rfl, rfl, rfl, rfl, rfl, trivial⟩ ?_
    refine G.ite rfl rfl (fun hc92 => ?_) (fun hc92 => ?_)
    · have hc92 : c = 92 := UInt8.toNat_inj.1 (by omega)
      refine G.seq rfl ?_
      refine G.seq rfl ?_
      refine G.regToX (fun (b : Bool) (h' : Heap) => h' = h1 ∧ (b = true ↔ (w.size ≤ k + 2 ∨ ∃ y r, w.data.toList.drop (k + 2) = y :: r ∧ (15 < valR x ∨ 15 < valR y)))) (fun (b : Bool) => [(37, .bool b)]) [(0, _), (4, _), (5, _), (10, _), (16, _)] ⟨rfl, rfl, rfl, rfl, rfl, trivial⟩ Tryd.func45 rfl ?_ ?_
      · refine RW.pureS rfl rfl rfl rfl (OpP.move rfl) ?_
        refine RW.pureS rfl rfl rfl rfl (OpP.add64 rfl rfl ⟨by omega, by omega⟩) ?_
        refine RW.pureS rfl rfl rfl rfl (OpP.move rfl) ?_
        refine RW.pureS rfl rfl rfl rfl (OpP.lenString Tryd.underlying9 rfl) ?_
        refine RW.pureS rfl rfl rfl rfl (OpP.geq rfl rfl) ?_
        refine RW.pureS rfl rfl rfl rfl (OpP.move rfl) ?_
        refine RW.split (d := 22) rfl (fun hg => ?_) (fun hg => ?_)
        · have hg := of_decide_eq_true hg
          refine RW.skipS rfl rfl rfl rfl ?_
          refine RW.skipS rfl rfl rfl rfl ?_
          refine RW.skipS rfl rfl rfl rfl ?_
          refine RW.skipS rfl rfl rfl rfl ?_
          refine RW.skipS rfl rfl rfl rfl ?_
          refine RW.skipS rfl rfl rfl rfl ?_
          refine RW.pureS rfl rfl rfl rfl (OpP.pickT rfl rfl) ?_
          refine RW.pureS rfl rfl rfl rfl (OpP.move rfl) ?_
          refine RW.skipS rfl rfl rfl rfl ?_
          refine RW.skipS rfl rfl rfl rfl ?_
          refine RW.skipS rfl rfl rfl rfl ?_
          refine RW.skipS rfl rfl rfl rfl ?_
          refine RW.skipS rfl rfl rfl rfl ?_
          refine RW.skipS rfl rfl rfl rfl ?_
          refine RW.pureS rfl rfl rfl rfl (OpP.pickT rfl rfl) ?_
          refine RW.done rfl ?_
          exact ⟨true, ⟨rfl, ⟨fun _ => .inl (by omega), fun _ => rfl⟩⟩, at_bool rfl rfl, rfl, rfl, rfl, rfl, rfl, trivial⟩
        · have hg := of_decide_eq_false hg
          obtain ⟨y, hy⟩ := at_of_lt (s := w) (k := k + 2) (by omega)
          have hdy := drop_next hy
          refine RW.pureS rfl rfl rfl rfl (OpP.move rfl) ?_
          refine RW.pureS rfl rfl rfl rfl (OpP.move rfl) ?_
          refine RW.pureS rfl rfl rfl rfl (OpP.add64 rfl rfl ⟨by omega, by omega⟩) ?_
          refine RW.pureS rfl rfl rfl rfl (OpP.indexStr Tryd.underlying9 rfl rfl (k + 1) (by omega) hx) ?_
          refine RW.opS rfl rfl rfl rfl (OpX.call (vs := [_]) Tryd.func70 rfl H.nm70 rfl (CallsH.toX (value_calls x))) ?_
          rintro _ _ ⟨rfl, rfl⟩
          refine RW.pureS rfl rfl rfl rfl (OpP.gtr rfl rfl) ?_
          refine RW.pureS rfl rfl rfl rfl (OpP.pickF rfl rfl) ?_
          refine RW.pureS rfl rfl rfl rfl (OpP.move rfl) ?_
          refine RW.split (d := 30) rfl (fun hg2 => ?_) (fun hg2 => ?_)
          · have hg2 := of_decide_eq_true hg2
            refine RW.skipS rfl rfl rfl rfl ?_
            refine RW.skipS rfl rfl rfl rfl ?_
            refine RW.skipS rfl rfl rfl rfl ?_
            refine RW.skipS rfl rfl rfl rfl ?_
            refine RW.skipS rfl rfl rfl rfl ?_
            refine RW.skipS rfl rfl rfl rfl ?_
            refine RW.pureS rfl rfl rfl rfl (OpP.pickT rfl rfl) ?_
            refine RW.done rfl ?_
            exact ⟨true, ⟨rfl, ⟨fun _ => .inr ⟨y, _, hdy, .inl (by omega)⟩, fun _ => rfl⟩⟩, at_bool rfl rfl, rfl, rfl, rfl, rfl, rfl, trivial⟩
          · have hg2 := of_decide_eq_false hg2
            refine RW.pureS rfl rfl rfl rfl (OpP.move rfl) ?_
            refine RW.pureS rfl rfl rfl rfl (OpP.move rfl) ?_
            refine RW.pureS rfl rfl rfl rfl (OpP.add64 rfl rfl ⟨by omega, by omega⟩) ?_
            refine RW.pureS rfl rfl rfl rfl (OpP.indexStr Tryd.underlying9 rfl rfl (k + 2) (by omega) hy) ?_
            refine RW.opS rfl rfl rfl rfl (OpX.call (vs := [_]) Tryd.func70 rfl H.nm70 rfl (CallsH.toX (value_calls y))) ?_
            rintro _ _ ⟨rfl, rfl⟩
            refine RW.pureS rfl rfl rfl rfl (OpP.gtr rfl rfl) ?_
            refine RW.pureS rfl rfl rfl rfl (OpP.pickF rfl rfl) ?_
            have hlast : decide ((15 : Int) < valR y) = true ↔ (w.size ≤ k + 2 ∨ ∃ y r, w.data.toList.drop (k + 2) = y :: r ∧ (15 < valR x ∨ 15 < valR y)) := by
              rw [decide_eq_true_eq]
              constructor
              · intro e
                exact .inr ⟨y, _, hdy, .inr (by omega)⟩
              · rintro (e | ⟨y', r, e, e' | e'⟩)
                · omega
                · omega
                · rw [hdy] at e; cases e; omega
            refine RW.done rfl ?_
            exact ⟨(decide ((15 : Int) < valR y)), ⟨rfl, hlast⟩, at_bool rfl rfl, rfl, rfl, rfl, rfl, rfl, trivial⟩
      · rintro b h2 ⟨rfl, hb⟩
        refine G.cond rfl rfl (fun hbad => ?_) (fun hbad => ?_)
        · have hb := hb.1 hbad
          have hnone : unquoteR w.data.toList = ([], false) := by
            unfold unquoteR
            rw [← hd, hdr]
            rcases hb with hb | ⟨y, r, hy, hv⟩
            · rw [List.drop_of_length_le (by omega)]
              simp [decR, hc92]
            · rw [show k + 1 + 1 = k + 2 from rfl, hy, decR_long, if_pos hc92, if_pos hv]
              rfl
          refine G.seq rfl ?_
          refine G.reg Tryd.func45 rfl ?_
          refine RW.pureS rfl rfl rfl rfl (OpP.assign rfl) ?_
          refine RW.pureS rfl rfl rfl rfl (OpP.assign rfl) ?_
          refine RW.done rfl ?_
          refine G.sub (ρ' := [(0, _), (2, _), (3, _), (4, _), (5, _), (10, _), (16, _), (37, _)]) ⟨rfl, rfl, rfl, rfl, rfl, rfl, rfl, rfl, trivial⟩ ?_
          refine G.ret Tryd.func45 rfl rfl ?_
          exact ⟨_, rfl, by rw [hnone]; rfl, he1⟩
        · have hb : ¬ _ := fun e => by have := hb.2 e; rw [hbad] at this; cases this
          simp only [not_or, Nat.not_le] at hb
          obtain ⟨hk3, hb⟩ := hb
          obtain ⟨y, hy⟩ := at_of_lt (s := w) (k := k + 2) hk3
          have hdy := drop_next hy
          have hvv : ¬ (15 < valR x ∨ 15 < valR y) := fun e => hb ⟨y, _, hdy, e⟩
          have hv2 : valR x ≤ 15 ∧ valR y ≤ 15 := by omega
          have hwrap : IntKind.u8.wrap ((valR x : Int) * 16 + valR y) = (UInt8.ofNat (valR x * 16 + valR y)).toNat := by
            rw [wrap_u8 (by omega)]; simp [UInt8.toNat_ofNat']; omega
          generalize hz : UInt8.ofNat (valR x * 16 + valR y) = z at hwrap
          have hstep : (decR (w.data.toList.drop (k + 3))).map ((out ++ bs [z]).data.toList ++ ·) = decR (w.data.toList.drop 1) := by
            rw [← hd, hdr, show k + 1 + 1 = k + 2 from rfl, hdy, decR_long, if_pos hc92, if_neg hvv, hz, Option.map_map]
            congr 1
            funext l
            simp [bs]
          have hread : ∀ g : Heap, Ext (fun b => Array.size h2 + 1 ≤ b) (h2.push (.cells [Value.int .u8 (IntKind.u8.wrap ((valR x : Int) * 16 + valR y))].toArray 5)) g → SlR .byte g (fun _ => False) (.slice (some ⟨h2.size, 0, none⟩) 1 1) [z] := fun g e =>
            OwB.read (OwnH.ext e (OwE.made encB h2 5 [z] 1 rfl (by decide) h2.size (Nat.le_refl _) (by simp [encB, hwrap])) (fun b hb => by simp [Value.ownBlock] at hb; omega)) (fun _ _ k => k)
          have hbz : (bs [z]).size = 1 := rfl
          refine G.skip rfl ?_
          refine G.seq rfl ?_
          refine G.drawToX (fun (o2 : ByteArray) (h3 : Heap) => Ext0 h h3 ∧ o2 = out ++ bs [z]) (fun (o2 : ByteArray) => [(4, .string o2)]) [(0, _), (5, _), (10, _), (16, _), (37, _)] ⟨rfl, rfl, rfl, rfl, rfl, trivial⟩ (fun b => Array.size h2 + 1 ≤ b) (fun i => Nat.blt i 18) (sz := 18) (listed := #[false, false, false, false, false, false, false, false, false, false, false, false, false, false, false, false, false, false]) Tryd.func45 H.mixed rfl rfl rfl ?_ ?_
          · refine RD.takeS 0 (listed' := #[true, false, false, false, false, false, false, false, false, false, false, false, false, false, false, false, false, false]) rfl (by kernel_rfl) (by kernel_rfl) (by kernel_rfl) rfl rfl rfl (fun h' e => OpP.move rfl) rfl ?_
            refine RD.takeS 1 (listed' := #[true, true, false, false, false, false, false, false, false, false, false, false, false, false, false, false, false, false]) rfl (by kernel_rfl) (by kernel_rfl) (by kernel_rfl) rfl rfl rfl (fun h' e => OpP.move rfl) rfl ?_
            refine RD.takeS 2 (listed' := #[true, true, true, false, false, false, false, false, false, false, false, false, false, false, false, false, false, false]) rfl (by kernel_rfl) (by kernel_rfl) (by kernel_rfl) rfl rfl rfl (fun h' e => OpP.move rfl) rfl ?_
            refine RD.takeS 3 (listed' := #[true, true, true, true, false, false, false, false, false, false, false, false, false, false, false, false, false, false]) rfl (by kernel_rfl) (by kernel_rfl) (by kernel_rfl) rfl rfl rfl (fun h' e => OpP.add64 rfl rfl ⟨by omega, by omega⟩) rfl ?_
            refine RD.takeS 4 (listed' := #[true, true, true, true, true, false, false, false, false, false, false, false, false, false, false, false, false, false]) rfl (by kernel_rfl) (by kernel_rfl) (by kernel_rfl) rfl rfl rfl (fun h' e => OpP.indexStr Tryd.underlying9 rfl rfl (k + 1) (by omega) hx) rfl ?_
            refine RD.takeS 7 (listed' := #[true, true, true, true, true, false, false, true, false, false, false, false, false, false, false, false, false, false]) rfl (by kernel_rfl) (by kernel_rfl) (by kernel_rfl) rfl rfl rfl (fun h' e => OpP.move rfl) rfl ?_
            refine RD.takeS 8 (listed' := #[true, true, true, true, true, false, false, true, true, false, false, false, false, false, false, false, false, false]) rfl (by kernel_rfl) (by kernel_rfl) (by kernel_rfl) rfl rfl rfl (fun h' e => OpP.move rfl) rfl ?_
            refine RD.takeS 9 (listed' := #[true, true, true, true, true, false, false, true, true, true, false, false, false, false, false, false, false, false]) rfl (by kernel_rfl) (by kernel_rfl) (by kernel_rfl) rfl rfl rfl (fun h' e => OpP.add64 rfl rfl ⟨by omega, by omega⟩) rfl ?_
            refine RD.takeS 10 (listed' := #[true, true, true, true, true, false, false, true, true, true, true, false, false, false, false, false, false, false]) rfl (by kernel_rfl) (by kernel_rfl) (by kernel_rfl) rfl rfl rfl (fun h' e => OpP.indexStr Tryd.underlying9 rfl rfl (k + 2) (by omega) hy) rfl ?_
            refine RD.oneS 5 (listed' := #[true, true, true, true, true, true, false, true, true, true, true, false, false, false, false, false, false, false]) rfl (by kernel_rfl) rfl rfl rfl (OpX.call (vs := [_]) Tryd.func70 rfl H.nm70 rfl (CallsH.toX (value_calls x))) rfl ?_
            rintro _ _ ⟨rfl, rfl⟩
            refine ⟨fun _ => Ext.refl _ _, ?_⟩
            refine RD.takeS 6 (listed' := #[true, true, true, true, true, true, true, true, true, true, true, false, false, false, false, false, false, false]) rfl (by kernel_rfl) (by kernel_rfl) (by kernel_rfl) rfl rfl rfl (fun h' e => OpP.mul64 rfl rfl ⟨by omega, by omega⟩) rfl ?_
            refine RD.oneS 11 (listed' := #[true, true, true, true, true, true, true, true, true, true, true, true, false, false, false, false, false, false]) rfl (by kernel_rfl) rfl rfl rfl (OpX.call (vs := [_]) Tryd.func70 rfl H.nm70 rfl (CallsH.toX (value_calls y))) rfl ?_
            rintro _ _ ⟨rfl, rfl⟩
            refine ⟨fun _ => Ext.refl _ _, ?_⟩
            refine RD.takeS 12 (listed' := #[true, true, true, true, true, true, true, true, true, true, true, true, true, false, false, false, false, false]) rfl (by kernel_rfl) (by kernel_rfl) (by kernel_rfl) rfl rfl rfl (fun h' e => OpP.add64 rfl rfl ⟨by omega, by omega⟩) rfl ?_
            refine RD.takeS 13 (listed' := #[true, true, true, true, true, true, true, true, true, true, true, true, true, true, false, false, false, false]) rfl (by kernel_rfl) (by kernel_rfl) (by kernel_rfl) rfl rfl rfl (fun h' e => OpP.convInt Tryd.underlying3 Tryd.underlying5 rfl) rfl ?_
            refine RD.oneS 14 (listed' := #[true, true, true, true, true, true, true, true, true, true, true, true, true, true, true, false, false, false]) rfl (by kernel_rfl) rfl rfl rfl (OpX.buildOnes (us := [_]) Tryd.underlying64 H.el5 rfl rfl (by decide) (by simp [Value.oneCell'])) rfl ?_
            rintro _ _ ⟨rfl, rfl⟩
            refine ⟨fun _ => by first | exact Ext.push _ _ _ | assumption, ?_⟩
            refine RD.takeS 15 (listed' := #[true, true, true, true, true, true, true, true, true, true, true, true, true, true, true, true, false, false]) rfl (by kernel_rfl) (by kernel_rfl) (by kernel_rfl) rfl rfl rfl (fun h' e => OpP.convBytes Tryd.underlying64 Tryd.underlying5 Tryd.underlying9 rfl (hread h' e)) rfl ?_
            refine RD.takeS 16 (listed' := #[true, true, true, true, true, true, true, true, true, true, true, true, true, true, true, true, true, false]) rfl (by kernel_rfl) (by kernel_rfl) (by kernel_rfl) rfl rfl rfl (fun h' e => OpP.addStr rfl rfl (by show out.size + (bs [z]).size ≤ _; omega)) rfl ?_
            refine RD.takeS 17 (listed' := #[true, true, true, true, true, true, true, true, true, true, true, true, true, true, true, true, true, true]) rfl (by kernel_rfl) (by kernel_rfl) (by kernel_rfl) rfl rfl rfl (fun h' e => OpP.assign rfl) rfl ?_
            refine RD.done (by kernel_rfl) ?_
            exact ⟨_, ⟨he1.push _, rfl⟩, rfl, rfl, rfl, rfl, rfl, rfl, trivial⟩
          · rintro o2 h3 ⟨he3, rfl⟩
            refine G.reg Tryd.func45 rfl ?_
            refine RW.pureS rfl rfl rfl rfl (OpP.move rfl) ?_
            refine RW.pureS rfl rfl rfl rfl (OpP.add64 rfl rfl ⟨by omega, by omega⟩) ?_
            refine RW.pureS rfl rfl rfl rfl (OpP.assign rfl) ?_
            refine RW.done rfl ?_
            refine G.sub (ρ' := [(0, _), (4, _), (5, _), (10, _), (16, _), (37, _)]) ⟨rfl, rfl, rfl, rfl, rfl, rfl, trivial⟩ ?_
            refine G.blkEnd ?_
            refine G.reg Tryd.func45 rfl ?_
            refine RW.pureS rfl rfl rfl rfl (OpP.move rfl) ?_
            refine RW.pureS rfl rfl rfl rfl (OpP.add64 rfl rfl ⟨by omega, by omega⟩) ?_
            refine RW.pureS rfl rfl rfl rfl (OpP.assign rfl) ?_
            refine RW.done rfl ?_
            refine G.sub (ρ' := [(0, _), (4, _), (5, _), (10, _), (16, _), (37, _)]) ⟨rfl, rfl, rfl, rfl, rfl, rfl, trivial⟩ ?_
            exact ih (k + 3, out ++ bs [z]) _ _ ⟨rfl, rfl, rfl, trivial⟩ ⟨he3, by show 1 ≤ k + 3; omega, fun e => by omega, fun _ => by show k + 3 ≤ w.size; omega, by show (out ++ bs [z]).size ≤ k + 3; rw [ByteArray.size_append, bs_size]; simp; omega, hstep⟩ (by show w.size - (k + 3) < w.size - k; omega)
    · have hc92 : c ≠ 92 := fun e => hc92 (by rw [e]; rfl)
      have hx1 := extract_one hc
      have hstep : (decR (w.data.toList.drop (k + 1))).map ((out ++ w.extract k (k + 1)).data.toList ++ ·) = decR (w.data.toList.drop 1) := by
        rw [← hd, hdr, drop_next hx, hx1]
        cases hr : w.data.toList.drop (k + 1 + 1) with
        | nil => simp [decR, hc92, bs]
        | cons y r =>
          rw [decR_long, if_neg hc92, Option.map_map]
          congr 1
          funext l
          simp [bs]
      have hsz : (w.extract k (k + 1)).size = 1 := by rw [hx1, bs_size]; rfl
      refine G.reg Tryd.func45 rfl ?_
      refine RW.pureS rfl rfl rfl rfl (OpP.move rfl) ?_
      refine RW.pureS rfl rfl rfl rfl (OpP.move rfl) ?_
      refine RW.pureS rfl rfl rfl rfl (OpP.move rfl) ?_
      refine RW.pureS rfl rfl rfl rfl (OpP.move rfl) ?_
      refine RW.pureS rfl rfl rfl rfl (OpP.add64 rfl rfl ⟨by omega, by omega⟩) ?_
      refine RW.pureS rfl rfl rfl rfl (OpP.sliceStr Tryd.underlying9 rfl rfl k rfl rfl (k + 1) (by omega) (by omega) (by omega)) ?_
      refine RW.pureS rfl rfl rfl rfl (OpP.addStr rfl rfl (by omega)) ?_
      refine RW.pureS rfl rfl rfl rfl (OpP.assign rfl) ?_
      refine RW.done rfl ?_
      refine G.sub (ρ' := [(0, _), (4, _), (5, _), (10, _), (16, _)]) ⟨rfl, rfl, rfl, rfl, rfl, trivial⟩ ?_
      refine G.blkEnd ?_
      refine G.reg Tryd.func45 rfl ?_
      refine RW.pureS rfl rfl rfl rfl (OpP.move rfl) ?_
      refine RW.pureS rfl rfl rfl rfl (OpP.add64 rfl rfl ⟨by omega, by omega⟩) ?_
      refine RW.pureS rfl rfl rfl rfl (OpP.assign rfl) ?_
      refine RW.done rfl ?_
      refine G.sub (ρ' := [(0, _), (4, _), (5, _), (10, _), (16, _)]) ⟨rfl, rfl, rfl, rfl, rfl, trivial⟩ ?_
      exact ih (k + 1, _) _ _ ⟨rfl, rfl, rfl, trivial⟩ ⟨he1, by show 1 ≤ k + 1; omega, fun e => by omega, fun _ => by show k + 1 ≤ w.size; omega, by show (out ++ w.extract k (k + 1)).size ≤ k + 1; rw [ByteArray.size_append]; omega, hstep⟩ (by show w.size - (k + 1) < w.size - k; omega)
  · have hfin : decR (w.data.toList.drop 1) = some out.data.toList := by
      rw [← hd]
      have : (w.data.toList.drop k).length ≤ 1 := by simp; omega
      match hr : w.data.toList.drop k, this with
      | [], _ => simp [decR]
      | [_], _ => simp [decR]
    refine G.exit rfl rfl ?_
    refine G.seq rfl ?_
    refine G.reg Tryd.func45 rfl ?_
    refine RW.pureS rfl rfl rfl rfl (OpP.move rfl) ?_
    refine RW.pureS rfl rfl rfl rfl (OpP.move rfl) ?_
    refine RW.opS rfl rfl rfl rfl (OpX.call (vs := [_]) Tryd.func27 rfl H.nm27 rfl (CallsH.toX (quoteR_calls out (by omega)))) ?_
    rintro _ _ ⟨rfl, rfl⟩
    refine RW.pureS rfl rfl rfl rfl (OpP.move rfl) ?_
    refine RW.pureS rfl rfl rfl rfl (OpP.eqlStr rfl rfl) ?_
    refine RW.pureS rfl rfl rfl rfl (OpP.assign rfl) ?_
    refine RW.pureS rfl rfl rfl rfl (OpP.assign rfl) ?_
    refine RW.done rfl ?_
    refine G.sub (ρ' := [(0, _), (2, _), (3, _), (4, _), (5, _), (10, _)]) ⟨rfl, rfl, rfl, rfl, rfl, rfl, trivial⟩ ?_
    refine G.ret Tryd.func45 rfl rfl ?_
    refine ⟨_, rfl, ?_, he1⟩
    unfold unquoteR
    rw [hfin]
    simp only
    rw [bs_of, ← eq_bs]
    rfl

end Go.Proofs.YtmbikkapabljfaaDoor
