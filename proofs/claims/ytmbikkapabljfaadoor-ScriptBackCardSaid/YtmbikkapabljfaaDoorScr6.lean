/- script.unquote. -/
import Derived.Test.YtmbikkapabljfaaDoorScr5
namespace Go.Proofs.YtmbikkapabljfaaDoor
open Go Go.Lw
set_option maxRecDepth 20000

theorem indexDig_calls {h : Heap} (x : UInt8) : CallsH Tryd.prog 68 #[.string digB, .int .u8 x.toNat] h (Ret fun r h' => r = .int .i64 (valB x) ∧ h' = h) :=
  (indexByte_calls digB x.toNat).ret fun _ _ ⟨ho, he⟩ => ⟨by rw [ho]; unfold valB; congr 2; simp, he⟩

theorem decP_long (c x y : UInt8) (r : Bs) : decP (c :: x :: y :: r) = if c = 92 then byteB (valB x) (valB y) :: decP r else c :: decP (x :: y :: r) := by rw [decP]

theorem byteI_eq (a b : Int) : IntKind.u8.wrap (IntKind.i64.wrap (BitVec.ofInt IntKind.i64.bits (IntKind.i64.wrap (a * 2 ^ min (4 : Int).toNat IntKind.i64.bits)) ||| BitVec.ofInt IntKind.i64.bits (IntKind.i64.wrap (BitVec.ofInt IntKind.i64.bits b &&& BitVec.ofInt IntKind.i64.bits 15).toNat)).toNat) = byteI a b := rfl

theorem unquote_calls {h : Heap} (w : ByteArray) (hw : w.size ≤ 10000000) :
    CallsH Tryd.prog 42 #[.string w] h (Ret fun r h' => r = .tuple #[.string (bs (unquoteP w.data.toList).1), .bool (unquoteP w.data.toList).2] ∧ Ext0 h h') := by
  have hlw : w.data.toList.length = w.size := by simp
  refine CallsH.of Tryd.func42 rfl rfl ?_
  refine G.seq rfl ?_
  refine G.reg Tryd.func42 rfl ?_
  refine RW.pureS rfl rfl rfl rfl (OpP.assign rfl) ?_
  refine RW.pureS rfl rfl rfl rfl (OpP.assign rfl) ?_
  refine RW.done rfl ?_
  refine G.sub (ρ' := [(0, _), (2, _), (3, _)]) ⟨rfl, rfl, rfl, trivial⟩ ?_
  refine G.seq rfl ?_
  refine G.seq rfl ?_
  refine G.regTo1 [(13, .bool (decide (w.data.toList.length < 2 ∨ w.data.toList.head? ≠ some 34)))] [(0, _), (2, _), (3, _)] ⟨rfl, rfl, rfl, trivial⟩ Tryd.func42 rfl ?_ ?_
  · refine RW.pureS rfl rfl rfl rfl (OpP.move rfl) ?_
    refine RW.pureS rfl rfl rfl rfl (OpP.lenString Tryd.underlying9 rfl) ?_
    refine RW.pureS rfl rfl rfl rfl (OpP.lss rfl rfl) ?_
    refine RW.pureS rfl rfl rfl rfl (OpP.move rfl) ?_
    refine RW.split (d := 9) rfl (fun hg => ?_) (fun hg => ?_)
    · have hg := of_decide_eq_true hg
      refine RW.skipS rfl rfl rfl rfl ?_
      refine RW.skipS rfl rfl rfl rfl ?_
      refine RW.skipS rfl rfl rfl rfl ?_
      refine RW.pureS rfl rfl rfl rfl (OpP.pickT rfl rfl) ?_
      refine RW.done rfl ?_
      exact ⟨rfl, at_bool rfl (by symm; rw [decide_eq_true_eq]; exact .inl (by omega)), rfl, rfl, rfl, trivial⟩
    · have hg := of_decide_eq_false hg
      obtain ⟨c, hc⟩ := at_of_lt (s := w) (k := 0) (by omega)
      have hd := drop_next hc
      rw [List.drop_zero] at hd
      have hhead : w.data.toList.head? = some c := by rw [hd]; rfl
      have h34 : (34 : UInt8).toNat = 34 := rfl
      have hleaf : decide (¬ (c.toNat : Int) = 34) = decide (w.data.toList.length < 2 ∨ w.data.toList.head? ≠ some 34) := by
        rw [decide_eq_decide, hhead]
        constructor
        · intro e
          exact .inr (fun k => by cases k; exact e rfl)
        · rintro (e | e) k
          · omega
          · exact e (congrArg some (UInt8.toNat_inj.1 (by omega)))
      refine RW.pureS rfl rfl rfl rfl (OpP.move rfl) ?_
      refine RW.pureS rfl rfl rfl rfl (OpP.indexStr Tryd.underlying9 rfl rfl 0 rfl hc) ?_
      refine RW.pureS rfl rfl rfl rfl (OpP.neqInt rfl rfl) ?_
      refine RW.pureS rfl rfl rfl rfl (OpP.pickF rfl rfl) ?_
      refine RW.done rfl ?_
      exact ⟨rfl, at_bool rfl (hleaf), rfl, rfl, rfl, trivial⟩
  · refine G.ite rfl rfl (fun hbad => ?_) (fun hbad => ?_)
    · have hq : unquoteP w.data.toList = ([], false) := by unfold unquoteP; rw [if_pos hbad]
      refine G.seq rfl ?_
      refine G.reg Tryd.func42 rfl ?_
      refine RW.pureS rfl rfl rfl rfl (OpP.assign rfl) ?_
      refine RW.pureS rfl rfl rfl rfl (OpP.assign rfl) ?_
      refine RW.done rfl ?_
      refine G.sub (ρ' := [(0, _), (2, _), (3, _), (13, _)]) ⟨rfl, rfl, rfl, rfl, trivial⟩ ?_
      refine G.ret Tryd.func42 rfl rfl ?_
      exact ⟨_, rfl, by rw [hq]; rfl, Ext.refl _ _⟩
    · have hq : unquoteP w.data.toList = (decP w.data.toList.tail, decide (quoteL (decP w.data.toList.tail) = w.data.toList)) := by unfold unquoteP; rw [if_neg hbad]
      have h2 : 2 ≤ w.size := by omega
      refine G.skip rfl ?_
      refine G.seq rfl ?_
      refine G.reg Tryd.func42 rfl ?_
      refine RW.pureS rfl rfl rfl rfl (OpP.assign rfl) ?_
      refine RW.done rfl ?_
      refine G.sub (ρ' := [(0, _), (2, _), (3, _), (4, _), (13, _)]) ⟨rfl, rfl, rfl, rfl, rfl, trivial⟩ ?_
      refine G.seq rfl ?_
      refine G.seq rfl ?_
      refine G.reg Tryd.func42 rfl ?_
      refine RW.pureS rfl rfl rfl rfl (OpP.assign rfl) ?_
      refine RW.done rfl ?_
      refine G.sub (ρ' := [(0, _), (2, _), (3, _), (4, _), (5, _), (13, _)]) ⟨rfl, rfl, rfl, rfl, rfl, rfl, trivial⟩ ?_
      refine G.block rfl rfl ?_
      refine G.loop (σ := Nat × Value × Bs) (fun q => [(0, .string w), (4, q.2.1), (5, .int .i64 q.1)]) (fun q h' => Ext0 h h' ∧ 1 ≤ q.1 ∧ q.1 ≤ w.size ∧ q.2.2.length ≤ q.1 ∧ OwB h' h.size 5 q.2.1 q.2.2 ∧ q.2.2 ++ decP (w.data.toList.drop q.1) = decP w.data.toList.tail) (fun q => w.size - q.1) ((1, .slice none 0 0, [])) rfl ⟨rfl, rfl, rfl, trivial⟩ ⟨Ext.refl _ _, Nat.le_refl _, by show 1 ≤ w.size; omega, Nat.zero_le _, OwE.nil _ _ _ _, by simp⟩ ?_
      rintro ⟨k, v, done⟩ h1 ⟨he1, hk1, hk, hl, hv, hd⟩ ih
      try dsimp only
      dsimp only at hk1 hk hl hv hd
      refine G.seq rfl ?_
      refine G.seq rfl ?_
      refine G.reg Tryd.func42 rfl ?_
      refine RW.pureS rfl rfl rfl rfl (OpP.move rfl) ?_
      refine RW.pureS rfl rfl rfl rfl (OpP.move rfl) ?_
      refine RW.pureS rfl rfl rfl rfl (OpP.lenString Tryd.underlying9 rfl) ?_
      refine RW.pureS rfl rfl rfl rfl (OpP.sub64 rfl rfl ⟨by omega, by omega⟩) ?_
      refine RW.pureS rfl rfl rfl rfl (OpP.lss rfl rfl) ?_
      refine RW.done rfl ?_
      refine G.sub (ρ' := [(0, _), (4, _), (5, _), (18, _)]) ⟨rfl, rfl, rfl, rfl, trivial⟩ ?_
      refine G.ite rfl rfl (fun hlt => ?_) (fun hlt => ?_)
      · have hlt' : k + 1 < w.size := by omega
        obtain ⟨c, hc⟩ := at_of_lt (s := w) (k := k) (by omega)
        obtain ⟨x, hx⟩ := at_of_lt (s := w) (k := k + 1) (by omega)
        have hdr := drop_next hc
        rw [drop_next hx] at hdr
        have h92 : (92 : UInt8).toNat = 92 := rfl
        refine G.skip rfl ?_
        refine G.seq rfl ?_
        refine G.block rfl rfl ?_
        refine G.seq rfl ?_
        refine G.seq rfl ?_
        refine G.regTo1 [(31, .bool (decide (c ≠ 92 ∨ w.size ≤ k + 2)))] [(0, _), (4, _), (5, _), (18, _)] ⟨rfl, rfl, rfl, rfl, trivial⟩ Tryd.func42 rfl ?_ ?_
        · refine RW.pureS rfl rfl rfl rfl (OpP.move rfl) ?_
          refine RW.pureS rfl rfl rfl rfl (OpP.move rfl) ?_
          refine RW.pureS rfl rfl rfl rfl (OpP.indexStr Tryd.underlying9 rfl rfl k rfl hc) ?_
          refine RW.pureS rfl rfl rfl rfl (OpP.neqInt rfl rfl) ?_
          refine RW.pureS rfl rfl rfl rfl (OpP.move rfl) ?_
          refine RW.split (d := 25) rfl (fun hg => ?_) (fun hg => ?_)
          · have hg := of_decide_eq_true hg
            refine RW.skipS rfl rfl rfl rfl ?_
            refine RW.skipS rfl rfl rfl rfl ?_
            refine RW.skipS rfl rfl rfl rfl ?_
            refine RW.skipS rfl rfl rfl rfl ?_
            refine RW.skipS rfl rfl rfl rfl ?_
            refine RW.pureS rfl rfl rfl rfl (OpP.pickT rfl rfl) ?_
            refine RW.done rfl ?_
            exact ⟨rfl, at_bool rfl (by symm; rw [decide_eq_true_eq]; exact .inl (fun e => hg (by rw [e]; rfl))), rfl, rfl, rfl, rfl, trivial⟩
          · have hg := Classical.not_not.1 (of_decide_eq_false hg)
            have hc92 : c = 92 := UInt8.toNat_inj.1 (by omega)
            refine RW.pureS rfl rfl rfl rfl (OpP.move rfl) ?_
            refine RW.pureS rfl rfl rfl rfl (OpP.add64 rfl rfl ⟨by omega, by omega⟩) ?_
            refine RW.pureS rfl rfl rfl rfl (OpP.move rfl) ?_
            refine RW.pureS rfl rfl rfl rfl (OpP.lenString Tryd.underlying9 rfl) ?_
            refine RW.pureS rfl rfl rfl rfl (OpP.geq rfl rfl) ?_
            refine RW.pureS rfl rfl rfl rfl (OpP.pickF rfl rfl) ?_
            refine RW.done rfl ?_
            exact ⟨rfl, at_bool rfl (by rw [decide_eq_decide]; simp [hc92]; omega), rfl, rfl, rfl, rfl, trivial⟩
        · refine G.ite rfl rfl (fun hone => ?_) (fun hone => ?_)
          · have hstep : done ++ [c] ++ decP (w.data.toList.drop (k + 1)) = decP w.data.toList.tail := by
              rw [← hd, hdr, drop_next hx, List.append_assoc]
              congr 1
              cases hr : w.data.toList.drop (k + 1 + 1) with
              | nil => simp [decP]
              | cons y r =>
                have : ¬ w.size ≤ k + 2 := by
                  intro hle
                  rw [List.drop_of_length_le (by omega)] at hr
                  cases hr
                rw [decP_long, if_neg (by rcases hone with h | h; { exact h }; { exact absurd h this })]
                rfl
            refine G.seq rfl ?_
            refine G.reg Tryd.func42 rfl ?_
            refine RW.pureS rfl rfl rfl rfl (OpP.move rfl) ?_
            refine RW.pureS rfl rfl rfl rfl (OpP.move rfl) ?_
            refine RW.pureS rfl rfl rfl rfl (OpP.move rfl) ?_
            refine RW.pureS rfl rfl rfl rfl (OpP.indexStr Tryd.underlying9 rfl rfl k rfl hc) ?_
            refine RW.opS rfl rfl rfl rfl (OpX.buildOnes (us := [_]) Tryd.underlying64 H.el5 rfl rfl (by decide) (by simp [Value.oneCell'])) ?_
            rintro _ _ ⟨rfl, rfl⟩
            refine RW.opS rfl rfl rfl rfl (OpX.appendNew Tryd.underlying64 H.el5 rfl rfl (hv) rfl rfl (by first | decide | simp [Value.oneCell']) (by omega) (by decide) he1.size) ?_
            rintro v2 h2 ⟨ho2, hx2, -, -⟩
            refine RW.pureS rfl rfl rfl rfl (OpP.assign rfl) ?_
            refine RW.done rfl ?_
            refine G.sub (ρ' := [(0, _), (4, _), (5, _), (18, _), (31, _)]) ⟨rfl, rfl, rfl, rfl, rfl, trivial⟩ ?_
            refine G.exit rfl rfl ?_
            refine G.reg Tryd.func42 rfl ?_
            refine RW.pureS rfl rfl rfl rfl (OpP.move rfl) ?_
            refine RW.pureS rfl rfl rfl rfl (OpP.add64 rfl rfl ⟨by omega, by omega⟩) ?_
            refine RW.pureS rfl rfl rfl rfl (OpP.assign rfl) ?_
            refine RW.done rfl ?_
            refine G.sub (ρ' := [(0, _), (4, _), (5, _), (18, _), (31, _)]) ⟨rfl, rfl, rfl, rfl, rfl, trivial⟩ ?_
            exact ih (k + 1, v2, done ++ [c]) _ _ ⟨rfl, rfl, rfl, trivial⟩ ⟨OwE.grown he1 hv (Nat.le_refl _) hx2, by show 1 ≤ k + 1; omega, by show k + 1 ≤ w.size; omega, by show (done ++ [c]).length ≤ k + 1; simp; omega, OwE.of ho2 rfl rfl rfl, hstep⟩ (by show w.size - (k + 1) < w.size - k; omega)
          · simp only [not_or, Nat.not_le] at hone
            obtain ⟨hc92, hk3⟩ := hone
            have hc92 : c = 92 := Classical.not_not.1 hc92
            obtain ⟨y, hy⟩ := at_of_lt (s := w) (k := k + 2) (by omega)
            rw [drop_next hy] at hdr
            have hstep : done ++ [byteB (valB x) (valB y)] ++ decP (w.data.toList.drop (k + 3)) = decP w.data.toList.tail := by
              rw [← hd, hdr, List.append_assoc, decP_long, if_pos hc92]
              rfl
            refine G.skip rfl ?_
            refine G.seq rfl ?_
            refine G.drawToX (fun (v2 : Value) (h2 : Heap) => OwB h2 h.size 5 v2 (done ++ [byteB (valB x) (valB y)]) ∧ Ext0 h h2) (fun (v2 : Value) => [(4, v2)]) [(0, _), (5, _), (18, _), (31, _)] ⟨rfl, rfl, rfl, rfl, trivial⟩ (fun b => but v.ownBlock b ∨ Array.size h1 ≤ b) (fun i => Nat.blt i 99) (sz := 18) (listed := #[false, false, false, false, false, false, false, false, false, false, false, false, false, false, false, false, false, false]) Tryd.func42 H.mixed rfl rfl rfl ?_ ?_
            · refine RD.takeS 0 (listed' := #[true, false, false, false, false, false, false, false, false, false, false, false, false, false, false, false, false, false]) rfl (by kernel_rfl) (by kernel_rfl) (by kernel_rfl) rfl rfl rfl (fun h' e => OpP.move rfl) rfl ?_
              refine RD.takeS 1 (listed' := #[true, true, false, false, false, false, false, false, false, false, false, false, false, false, false, false, false, false]) rfl (by kernel_rfl) (by kernel_rfl) (by kernel_rfl) rfl rfl rfl (fun h' e => OpP.move rfl) rfl ?_
              refine RD.takeS 2 (listed' := #[true, true, true, false, false, false, false, false, false, false, false, false, false, false, false, false, false, false]) rfl (by kernel_rfl) (by kernel_rfl) (by kernel_rfl) rfl rfl rfl (fun h' e => OpP.move rfl) rfl ?_
              refine RD.takeS 3 (listed' := #[true, true, true, true, false, false, false, false, false, false, false, false, false, false, false, false, false, false]) rfl (by kernel_rfl) (by kernel_rfl) (by kernel_rfl) rfl rfl rfl (fun h' e => OpP.add64 rfl rfl ⟨by omega, by omega⟩) rfl ?_
              refine RD.takeS 4 (listed' := #[true, true, true, true, true, false, false, false, false, false, false, false, false, false, false, false, false, false]) rfl (by kernel_rfl) (by kernel_rfl) (by kernel_rfl) rfl rfl rfl (fun h' e => OpP.indexStr Tryd.underlying9 rfl rfl (k + 1) (by omega) hx) rfl ?_
              refine RD.takeS 7 (listed' := #[true, true, true, true, true, false, false, true, false, false, false, false, false, false, false, false, false, false]) rfl (by kernel_rfl) (by kernel_rfl) (by kernel_rfl) rfl rfl rfl (fun h' e => OpP.move rfl) rfl ?_
              refine RD.takeS 8 (listed' := #[true, true, true, true, true, false, false, true, true, false, false, false, false, false, false, false, false, false]) rfl (by kernel_rfl) (by kernel_rfl) (by kernel_rfl) rfl rfl rfl (fun h' e => OpP.move rfl) rfl ?_
              refine RD.takeS 9 (listed' := #[true, true, true, true, true, false, false, true, true, true, false, false, false, false, false, false, false, false]) rfl (by kernel_rfl) (by kernel_rfl) (by kernel_rfl) rfl rfl rfl (fun h' e => OpP.add64 rfl rfl ⟨by omega, by omega⟩) rfl ?_
              refine RD.takeS 10 (listed' := #[true, true, true, true, true, false, false, true, true, true, true, false, false, false, false, false, false, false]) rfl (by kernel_rfl) (by kernel_rfl) (by kernel_rfl) rfl rfl rfl (fun h' e => OpP.indexStr Tryd.underlying9 rfl rfl (k + 2) (by omega) hy) rfl ?_
              refine RD.oneS 5 (listed' := #[true, true, true, true, true, true, false, true, true, true, true, false, false, false, false, false, false, false]) rfl (by kernel_rfl) rfl rfl rfl (OpX.call (vs := [_, _]) Tryd.func68 rfl H.nm68 rfl (CallsH.toX (indexDig_calls x))) rfl ?_
              rintro _ _ ⟨rfl, rfl⟩
              refine ⟨fun _ => Ext.refl _ _, ?_⟩
              refine RD.takeS 6 (listed' := #[true, true, true, true, true, true, true, true, true, true, true, false, false, false, false, false, false, false]) rfl (by kernel_rfl) (by kernel_rfl) (by kernel_rfl) rfl rfl rfl (fun h' e => OpP.shl rfl rfl (by decide)) rfl ?_
              refine RD.oneS 11 (listed' := #[true, true, true, true, true, true, true, true, true, true, true, true, false, false, false, false, false, false]) rfl (by kernel_rfl) rfl rfl rfl (OpX.call (vs := [_, _]) Tryd.func68 rfl H.nm68 rfl (CallsH.toX (indexDig_calls y))) rfl ?_
              rintro _ _ ⟨rfl, rfl⟩
              refine ⟨fun _ => Ext.refl _ _, ?_⟩
              refine RD.takeS 12 (listed' := #[true, true, true, true, true, true, true, true, true, true, true, true, true, false, false, false, false, false]) rfl (by kernel_rfl) (by kernel_rfl) (by kernel_rfl) rfl rfl rfl (fun h' e => OpP.bits_and rfl rfl) rfl ?_
              refine RD.takeS 13 (listed' := #[true, true, true, true, true, true, true, true, true, true, true, true, true, true, false, false, false, false]) rfl (by kernel_rfl) (by kernel_rfl) (by kernel_rfl) rfl rfl rfl (fun h' e => OpP.bits_or rfl rfl) rfl ?_
              refine RD.takeS 14 (listed' := #[true, true, true, true, true, true, true, true, true, true, true, true, true, true, true, false, false, false]) rfl (by kernel_rfl) (by kernel_rfl) (by kernel_rfl) rfl rfl rfl (fun h' e => OpP.convInt Tryd.underlying3 Tryd.underlying5 rfl) rfl ?_
              refine RD.oneS 15 (listed' := #[true, true, true, true, true, true, true, true, true, true, true, true, true, true, true, true, false, false]) rfl (by kernel_rfl) rfl rfl rfl (OpX.buildOnes (us := [_]) Tryd.underlying64 H.el5 rfl rfl (by decide) (by simp [Value.oneCell'])) rfl ?_
              rintro _ _ ⟨rfl, rfl⟩
              refine ⟨fun _ => by first | exact Ext.push _ _ _ | assumption, ?_⟩
              refine RD.oneS 16 (listed' := #[true, true, true, true, true, true, true, true, true, true, true, true, true, true, true, true, true, false]) rfl (by kernel_rfl) rfl rfl rfl (OpX.appendNew Tryd.underlying64 H.el5 rfl rfl (hv) rfl rfl (by first | decide | simp [Value.oneCell']) (by omega) (by decide) he1.size) rfl ?_
              rintro v2 h2 ⟨ho2, hx2, hy2, -⟩
              refine ⟨fun _ => hy2.mono (fun _ _ k => .inl k), ?_⟩
              refine RD.takeS 17 (listed' := #[true, true, true, true, true, true, true, true, true, true, true, true, true, true, true, true, true, true]) rfl (by kernel_rfl) (by kernel_rfl) (by kernel_rfl) rfl rfl rfl (fun h' e => OpP.assign rfl) rfl ?_
              refine RD.done (by kernel_rfl) ?_
              exact ⟨v2, ⟨OwE.of (ys := [byteB (valB x) (valB y)]) ho2 rfl rfl (by simp only [List.map_cons, List.map_nil, encB, byteB_toNat]; rfl), OwE.grown he1 hv (Nat.le_refl _) hx2⟩, rfl, rfl, rfl, rfl, rfl, trivial⟩
            · rintro v2 h2 ⟨hv2, he2⟩
              refine G.reg Tryd.func42 rfl ?_
              refine RW.pureS rfl rfl rfl rfl (OpP.move rfl) ?_
              refine RW.pureS rfl rfl rfl rfl (OpP.add64 rfl rfl ⟨by omega, by omega⟩) ?_
              refine RW.pureS rfl rfl rfl rfl (OpP.assign rfl) ?_
              refine RW.done rfl ?_
              refine G.sub (ρ' := [(0, _), (4, _), (5, _), (18, _), (31, _)]) ⟨rfl, rfl, rfl, rfl, rfl, trivial⟩ ?_
              refine G.blkEnd ?_
              refine G.reg Tryd.func42 rfl ?_
              refine RW.pureS rfl rfl rfl rfl (OpP.move rfl) ?_
              refine RW.pureS rfl rfl rfl rfl (OpP.add64 rfl rfl ⟨by omega, by omega⟩) ?_
              refine RW.pureS rfl rfl rfl rfl (OpP.assign rfl) ?_
              refine RW.done rfl ?_
              refine G.sub (ρ' := [(0, _), (4, _), (5, _), (18, _), (31, _)]) ⟨rfl, rfl, rfl, rfl, rfl, trivial⟩ ?_
              exact ih (k + 3, v2, done ++ [byteB (valB x) (valB y)]) _ _ ⟨rfl, rfl, rfl, trivial⟩ ⟨he2, by show 1 ≤ k + 3; omega, by show k + 3 ≤ w.size; omega, by show (done ++ [_]).length ≤ k + 3; simp; omega, hv2, hstep⟩ (by show w.size - (k + 3) < w.size - k; omega)
      · have hfin : done = decP w.data.toList.tail := by
          rw [← hd]
          have : (w.data.toList.drop k).length ≤ 1 := by simp; omega
          match hr : w.data.toList.drop k, this with
          | [], _ => simp [decP]
          | [_], _ => simp [decP]
        have hqs : (bs (quoteL done)).size ≤ 100000000 := by
          have := escs_len done
          rw [bs_size]; simp only [quoteL, List.length_append, List.length_cons, List.length_nil]; omega
        have hread : ∀ g : Heap, Ext (fun b => Array.size h1 ≤ b) h1 g → SlR .byte g (fun _ => False) v done := fun g e => OwB.read (OwnH.ext e hv (fun b hb => by have := (OwnH.lt hv hb).2; omega)) (fun _ _ k => k)
        have hds : (bs done).size ≤ 100000000 := by rw [bs_size]; omega
        refine G.exit rfl rfl ?_
        refine G.seq rfl ?_
        refine G.draw (fun b => Array.size h1 ≤ b) (fun i => Nat.blt i 9) (sz := 9) (listed := #[false, false, false, false, false, false, false, false, false]) Tryd.func42 H.mixed rfl rfl rfl ?_
        refine RD.takeS 0 (listed' := #[true, false, false, false, false, false, false, false, false]) rfl (by kernel_rfl) (by kernel_rfl) (by kernel_rfl) rfl rfl rfl (fun h' e => OpP.move rfl) rfl ?_
        refine RD.takeS 1 (listed' := #[true, true, false, false, false, false, false, false, false]) rfl (by kernel_rfl) (by kernel_rfl) (by kernel_rfl) rfl rfl rfl (fun h' e => OpP.convBytes Tryd.underlying64 Tryd.underlying5 Tryd.underlying9 rfl (hread h' e)) rfl ?_
        refine RD.takeS 2 (listed' := #[true, true, true, false, false, false, false, false, false]) rfl (by kernel_rfl) (by kernel_rfl) (by kernel_rfl) rfl rfl rfl (fun h' e => OpP.move rfl) rfl ?_
        refine RD.takeS 3 (listed' := #[true, true, true, true, false, false, false, false, false]) rfl (by kernel_rfl) (by kernel_rfl) (by kernel_rfl) rfl rfl rfl (fun h' e => OpP.convBytes Tryd.underlying64 Tryd.underlying5 Tryd.underlying9 rfl (hread h' e)) rfl ?_
        refine RD.takeS 5 (listed' := #[true, true, true, true, false, true, false, false, false]) rfl (by kernel_rfl) (by kernel_rfl) (by kernel_rfl) rfl rfl rfl (fun h' e => OpP.move rfl) rfl ?_
        refine RD.oneS 4 (listed' := #[true, true, true, true, true, true, false, false, false]) rfl (by kernel_rfl) rfl rfl rfl (OpX.call (vs := [_]) Tryd.func24 rfl H.nm24 rfl (CallsH.toX (quote_calls (bs done) hds))) rfl ?_
        rintro _ h2 ⟨rfl, he2⟩
        refine ⟨fun _ => he2.of, ?_⟩
        refine RD.takeS 6 (listed' := #[true, true, true, true, true, true, true, false, false]) rfl (by kernel_rfl) (by kernel_rfl) (by kernel_rfl) rfl rfl rfl (fun h' e => OpP.eqlStr rfl rfl) rfl ?_
        refine RD.takeS 7 (listed' := #[true, true, true, true, true, true, true, true, false]) rfl (by kernel_rfl) (by kernel_rfl) (by kernel_rfl) rfl rfl rfl (fun h' e => OpP.assign rfl) rfl ?_
        refine RD.takeS 8 (listed' := #[true, true, true, true, true, true, true, true, true]) rfl (by kernel_rfl) (by kernel_rfl) (by kernel_rfl) rfl rfl rfl (fun h' e => OpP.assign rfl) rfl ?_
        refine RD.done (by kernel_rfl) ?_
        refine G.sub (ρ' := [(0, _), (2, _), (3, _), (4, _), (5, _), (18, _)]) ⟨rfl, rfl, rfl, rfl, rfl, rfl, trivial⟩ ?_
        refine G.ret Tryd.func42 rfl rfl ?_
        refine ⟨_, rfl, ?_, he1.trans he2⟩
        rw [hq, ← hfin]
        show Value.tuple #[.string (bs done), .bool (decide (bs (quoteL (bs done).data.toList) = w))] = _
        rw [bs_list, eq_bs]

end Go.Proofs.YtmbikkapabljfaaDoor
