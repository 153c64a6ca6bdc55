/- Plain words, the logic of walks, and walks that the statement's proof leans on (part 21). -/
import Derived.Test.YtlegopbpofofgaaDoorQa
import Derived.Test.YtlegopbpofofgaaDoorQb
import Derived.Test.YtlegopbpofofgaaDoorQc
import Derived.Test.YtlegopbpofofgaaDoorQd
import Derived.Test.YtlegopbpofofgaaDoorQe
import Derived.Test.YtlegopbpofofgaaDoorQf
import Derived.Test.YtlegopbpofofgaaDoorQg
import Derived.Test.YtlegopbpofofgaaDoorQh
import Derived.Test.YtlegopbpofofgaaDoorQi
import Derived.Test.YtlegopbpofofgaaDoorQj
import Derived.Test.YtlegopbpofofgaaDoorQk
import Derived.Test.YtlegopbpofofgaaDoorQl
import Derived.Test.YtlegopbpofofgaaDoorQm
import Derived.Test.YtlegopbpofofgaaDoorQn
import Derived.Test.YtlegopbpofofgaaDoorQo
import Derived.Test.YtlegopbpofofgaaDoorQp
import Derived.Test.YtlegopbpofofgaaDoorQq
import Derived.Test.YtlegopbpofofgaaDoorQr
import Derived.Test.YtlegopbpofofgaaDoorQs
import Derived.Test.YtlegopbpofofgaaDoorQt

namespace Go.Proofs.YtlegopbpofofgaaDoor
open Go Go.Lw
set_option maxRecDepth 20000
def ruO (O L : Nat → Prop) : Nat → Prop := fun b => O b ∨ L b
structure RuL (O : Nat → Prop) (rb : Nat) (vs vb vl : Value) (h : Heap) (L : Nat → Prop) (hi : Nat) (g : Heap) (vs' : Value) (st' : RuS) : Prop where
  at_ : RuAt g (ruO O L) rb vs' vb vl st'
  ext : Ext (ruM rb vs vb) h g
  own : ∀ b, vs'.ownBlock = some b → vs.ownBlock = some b ∨ hi ≤ b
  size : hi ≤ g.size
  base : h.size ≤ hi
  lt : ∀ b, ruM rb vs vb b → b < h.size
  o : ∀ b, O b → b < h.size
  l : ∀ b, L b → h.size ≤ b ∧ b < hi
abbrev ruQ (O : Nat → Prop) (rb : Nat) (vs' vb : Value) (L : Nat → Prop) : Nat → Prop := fun b => ruM rb vs' vb b ∨ ruO O L b
section
variable {O L : Nat → Prop} {rb : Nat} {vs vb vl vs' vs2 : Value} {h g g2 : Heap} {hi : Nat} {st' st2 : RuS}
theorem RuL.loc (k : RuL O rb vs vb vl h L hi g vs' st') : ∀ b, L b → ¬ ruM rb vs' vb b := by
  intro b hb
  obtain ⟨h1, h2⟩ := k.l b hb
  rintro (k1 | k1 | k1)
  · have := k.lt rb (.inl rfl); omega
  · rcases k.own b k1.symm with k2 | k2
    · have := k.lt b (.inr (.inl k2.symm)); omega
    · omega
  · have := k.lt b (.inr (.inr k1)); omega
theorem RuL.qlt (k : RuL O rb vs vb vl h L hi g vs' st') : ∀ b, ruQ O rb vs' vb L b → b < g.size := by
  have hs := k.size
  have hb := k.base
  rintro b ((k1 | k1 | k1) | k1 | k1)
  · have := k.lt rb (.inl rfl); omega
  · exact (k.at_.ownS b k1.symm).2
  · exact (k.at_.ownB b k1.symm).2
  · have := k.o b k1; omega
  · have := k.l b k1; omega
theorem RuL.old (k : RuL O rb vs vb vl h L hi g vs' st') : Mv (ruM rb vs vb) (ruM rb vs' vb) h g :=
  ⟨k.ext.size, fun b hb hn => ⟨k.ext.block b hb hn, by
    have hbs := k.base
    rintro (k1 | k1 | k1)
    · exact hn (.inl k1)
    · rcases k.own b k1.symm with k2 | k2
      · exact hn (.inr (.inl k2.symm))
      · omega
    · exact hn (.inr (.inr k1))⟩⟩
theorem RuL.ext0 (k : RuL O rb vs vb vl h L hi g vs' st') (e : Ext0 g g2) : RuL O rb vs vb vl h L hi g2 vs' st' :=
  ⟨k.at_.ext0 e (fun _ _ k => k), ⟨Nat.le_trans k.ext.size e.size, fun b hb hn => (e.block b (Nat.lt_of_lt_of_le hb k.ext.size) (fun k => k)).trans (k.ext.block b hb hn)⟩, k.own, Nat.le_trans k.size e.size, k.base, k.lt, k.o, k.l⟩
theorem RuL.put (k : RuL O rb vs vb vl h L hi g vs' st') {x : Nat} (e : Ext (fun b => b = x) g g2) (hx : L x) : RuL O rb vs vb vl h L hi g2 vs' st' :=
  ⟨k.at_.ext e (fun b hb hx' => by subst hx'; exact k.loc b hx hb) (fun b _ hx' => by subst hx'; exact .inr hx) (fun _ _ k => k),
   ⟨Nat.le_trans k.ext.size e.size, fun b hb hn => (e.block b (Nat.lt_of_lt_of_le hb k.ext.size) (by have := k.l x hx; omega)).trans (k.ext.block b hb hn)⟩, k.own, Nat.le_trans k.size e.size, k.base, k.lt, k.o, k.l⟩
theorem RuL.putQ (_ : RuL O rb vs vb vl h L hi g vs' st') {x : Nat} (e : Ext (fun b => b = x) g g2) (hx : L x) : Mv (ruQ O rb vs' vb L) (ruQ O rb vs' vb L) g g2 :=
  Mv.ofExt e fun b _ hq => ⟨fun hx' => hq (.inr (.inr (by subst hx'; exact hx))), hq⟩
theorem RuL.sub (k : RuL O rb vs vb vl h L hi g vs' st') (a : RuAt g2 (ruO O L) rb vs2 vb vl st2) (e : Ext (ruM rb vs' vb) g g2) (ho : ∀ b, vs2.ownBlock = some b → vs'.ownBlock = some b ∨ g.size ≤ b) : RuL O rb vs vb vl h L hi g2 vs2 st2 :=
  ⟨a, ⟨Nat.le_trans k.ext.size e.size, fun b hb hn => (e.block b (Nat.lt_of_lt_of_le hb k.ext.size) (k.old.block b hb hn).2).trans (k.ext.block b hb hn)⟩,
   fun b hb => by
     have hs := k.size
     rcases ho b hb with k1 | k1
     · exact k.own b k1
     · exact .inr (by omega), Nat.le_trans k.size e.size, k.base, k.lt, k.o, k.l⟩
theorem RuL.subQ (_ : RuL O rb vs vb vl h L hi g vs' st') (e : Ext (ruM rb vs' vb) g g2) (ho : ∀ b, vs2.ownBlock = some b → vs'.ownBlock = some b ∨ g.size ≤ b) : Mv (ruQ O rb vs' vb L) (ruQ O rb vs2 vb L) g g2 :=
  ⟨e.size, fun b hb hn => ⟨e.block b hb (fun k => hn (.inl k)), by
    rintro ((k1 | k1 | k1) | k1)
    · exact hn (.inl (.inl k1))
    · rcases ho b k1.symm with k2 | k2
      · exact hn (.inl (.inr (.inl k2.symm)))
      · omega
    · exact hn (.inl (.inr (.inr k1)))
    · exact hn (.inr k1)⟩⟩
theorem RuL.fol (k : RuL O rb vs vb vl h L hi g vs' st') (a : RuAt g2 (ruO O L) rb vs' vb vl st2) (e : Ext (but vb.ownBlock) g g2) : RuL O rb vs vb vl h L hi g2 vs' st2 :=
  k.sub a (e.mono fun _ _ k => .inr (.inr k)) (fun _ k => .inl k)
theorem RuL.folQ (k : RuL O rb vs vb vl h L hi g vs' st') (e : Ext (but vb.ownBlock) g g2) : Mv (ruQ O rb vs' vb L) (ruQ O rb vs' vb L) g g2 := k.subQ (e.mono fun _ _ k => .inr (.inr k)) (fun _ k => .inl k)
structure LocB (b4 b6 : Nat) (nd : List Value) (g : Heap) : Prop where
  k4 : Blk g b4 94 nd
  k6 : Blk g b6 124 [.bool false, .slice none 0 0, .slice none 0 0]
theorem LocB.ext0 {g g2 : Heap} {b4 b6 : Nat} {nd : List Value} (k : LocB b4 b6 nd g) (e : Ext0 g g2) : LocB b4 b6 nd g2 := ⟨k.k4.ext0 e, k.k6.ext0 e⟩
theorem LocB.ext {M : Nat → Prop} {g g2 : Heap} {b4 b6 : Nat} {nd : List Value} (k : LocB b4 b6 nd g) (e : Ext M g g2) (h4 : ¬ M b4) (h6 : ¬ M b6) : LocB b4 b6 nd g2 := ⟨k.k4.ext e h4, k.k6.ext e h6⟩
def LayRV (O : Nat → Prop) (rb : Nat) (h : Heap) (vs vb vl : Value) (out : PartP × RuS) (r : Value) (h' : Heap) : Prop :=
  ∃ vs' f l, r = .agg #[.bool out.1.null, f, l] ∧ RuAt h' O rb vs' vb vl out.2 ∧ SlR .bool h' (fun b => ruM rb vs' vb b ∨ O b) f out.1.first ∧ SlR .bool h' (fun b => ruM rb vs' vb b ∨ O b) l out.1.last ∧ Ext (ruM rb vs vb) h h' ∧ (∀ b, vs'.ownBlock = some b → vs.ownBlock = some b ∨ h.size ≤ b)
theorem RuL.fin (k : RuL O rb vs vb vl h L hi g vs' st') {p : PartP} {f l : Value} (hf : SlR .bool g (ruQ O rb vs' vb L) f p.first) (hl : SlR .bool g (ruQ O rb vs' vb L) l p.last) : LayRV O rb h vs vb vl (p, st') (.agg #[.bool p.null, f, l]) g :=
  ⟨vs', f, l, rfl, k.at_.ext0 (Ext.refl _ _) (fun _ _ k => .inl k), SlR.less hf (fun _ k => k.imp id .inl), SlR.less hl (fun _ k => k.imp id .inl), k.ext, fun b hb => (k.own b hb).imp id (fun k1 => Nat.le_trans k.base k1)⟩
end
def LayROk (m : Nat) : Prop := ∀ {x : Nd} {h : Heap} {O : Nat → Prop} {rb : Nat} {vs vb vl w : Value} {st : RuS} {n : Nat}, szN x ≤ m → RuAt h O rb vs vb vl st → (∀ b, O b → b < h.size) → NdAt h (ruM rb vs vb) (ndC x.kind x.set w) x → wfN x = true → RuOk n st → st.1.length + cnt x ≤ n → n ≤ 1000000 →
  CallsH Tryd.prog 63 #[.pointer (some ⟨rb, 0, none⟩), .agg (ndC x.kind x.set w).toArray, .int .i64 (n : Nat)] h (Ret (LayRV O rb h vs vb vl (glu n x st)))
theorem kkR {k j : Nat} (h : ¬ ((k : Nat) : Int) = (j : Nat)) : ¬ k = j := fun e => h (by rw [e])
theorem layR_kind {m : Nat} (ih : LayROk m) : LayROk (m + 1) := by
  intro x h O rb vs vb vl w st n hsz hr hO hx hw hok hroom hn
  obtain ⟨k, s, kids⟩ := x
  simp only [szN] at hsz
  simp only [cnt] at hroom
  have hrb := hr.blk.lt
  have hltM : ∀ b, ruM rb vs vb b → b < h.size := by
    rintro b (k1 | k1 | k1)
    · omega
    · exact (hr.ownS b k1.symm).2
    · exact (hr.ownB b k1.symm).2
  obtain ⟨w', hw', hkids⟩ := hx.open
  have hww : w = w' := by simpa [ndC] using hw'
  subst hww
  show CallsH _ _ #[_, .agg (ndC k s w).toArray, _] h _
  replace hkids : SlR eNd h (ruM rb vs vb) w kids := hkids
  obtain ⟨oa, kn, kc, rfl, hsl⟩ := hkids.open
  have hkn : kids.length = kn := hsl.len
  have hkm := hsl.le
  have hkc := hsl.cap
  have hkc2 := hkc
  simp only [maxLen] at hkc2
  have hwl : wfL kids = true := by simp only [wfN, Bool.and_eq_true] at hw; exact hw.2
  have hklen := szL_len kids
  have hokAll := glu_ok n (.mk k s kids) st hok
  refine CallsH.of Tryd.func63 rfl rfl ?_
  refine xr Tryd.func63 rfl ?_
  refine xo rfl (OpX.boxN rfl) ?_
  rintro _ h1 ⟨rfl, q4, e1, z1⟩
  refine xo rfl (OpX.allocN H.zr124) ?_
  rintro _ h2 ⟨rfl, q6, e2, z2⟩
  refine xd [0, 1, 2, 4, 6] rfl ?_
  refine xr Tryd.func63 rfl ?_
  refine xq rfl ?_
  refine xo rfl (OpX.makeOnes Tryd.underlying55 H.el4 H.zr4 rfl rfl rfl (by omega) (by decide)) ?_
  rintro _ h3 ⟨rfl, q7, e3⟩
  have q4 : Blk h1 h.size 94 (ndC k s (.slice oa kn kc)) := q4
  have q6 : Blk h2 h1.size 124 [.bool false, .slice none 0 0, .slice none 0 0] := q6
  have z3 := e3.size
  have q4 := (q4.ext0 e2).ext0 e3
  have q6 := q6.ext0 e3
  have e03 : Ext0 h h3 := (e1.trans e2).trans e3
  have q7 : OwE Value.bool h3 h2.size 4 (.slice (some ⟨h2.size, 0, none⟩) n n) (nob n) := by unfold OwE nob; simpa using q7
  have hs4 : Array.size h + 1 = Array.size h1 := by omega
  have hs6 : Array.size h1 + 1 = Array.size h2 := by omega
  have hs7 : Array.size h2 < Array.size h3 := (OwnH.lt q7 rfl).2
  -- from h3 on
  generalize hLe : (fun b => b = Array.size h ∨ b = Array.size h1 : Nat → Prop) = L2
  have hLn : L2 h.size := by rw [← hLe]; exact .inl rfl
  have hLp : L2 h1.size := by rw [← hLe]; exact .inr rfl
  have hL2 : ∀ b, L2 b → h.size ≤ b ∧ b < h3.size := by rw [← hLe]; rintro b (k | k) <;> omega
  have R3 : RuL O rb vs vb vl h L2 h3.size h3 vs st := ⟨hr.ext (O' := ruO O L2) e03 (fun _ _ k => k) (fun _ _ k => k.elim) (fun b hb k => k.elim id (fun k => by have := hL2 b k; omega)), e03.mono (fun _ _ k => k.elim), fun b hb => .inl hb, Nat.le_refl _, e03.size, hltM, hO, hL2⟩
  have hnob : PartOk n ⟨true, nob n, nob n⟩ := nob_ok n true
  refine xq rfl ?_
  refine xd [0, 1, 2, 4, 6, 7] rfl ?_
  refine G.seq rfl ?_
  refine xr Tryd.func63 rfl ?_
  refine xp rfl (OpP.fieldAddr (off := 0) Tryd.underlying94 rfl rfl H.sz3 rfl) ?_
  refine xp rfl (OpP.load H.ag3 rfl (q4.cell (i := 0) rfl)) ?_
  refine xd [0, 1, 2, 4, 6, 7, 20] rfl ?_
  refine G.block rfl rfl ?_
  refine xr Tryd.func63 rfl ?_
  iterate 2 refine xq rfl ?_
  refine xd [0, 1, 2, 4, 6, 7, 20, 21] rfl ?_
  refine G.ite rfl rfl (fun h1k => ?_) (fun h1k => ?_)
  · obtain rfl : k = 1 := by omega
    have hglu : glu n (.mk 1 s kids) st = (⟨false, (nob n).set st.1.length true, (nob n).set st.1.length true⟩, (st.1 ++ [s], st.2)) := by rw [glu]; simp
    rw [hglu]
    simp only [if_true] at hroom
    have hownS := R3.at_.ownS
    have hownB := hr.ownB
    have hrM : ¬ (but vs.ownBlock rb ∨ Array.size h3 ≤ rb) := by rintro (k | k); (have := hownS rb k.symm; omega); omega
    have hnM : ¬ (but vs.ownBlock h.size ∨ Array.size h3 ≤ h.size) := by rintro (k | k); (have := (hr.ownS _ k.symm); omega); omega
    have hsets : OwnH h3 0 60 4 vs st.1.length (st.1.flatMap encSet) := R3.at_.sets
    have hset1 : ∀ u ∈ encSet s, u.oneCell' = true := by intro u hu; simp [encSet] at hu; rcases hu with rfl | rfl | rfl | rfl <;> rfl
    have hset4 : Lw.rowAt h3 h.size 1 (encSet s) := q4.part 1 (by intro j v hv; match j with | 0 => exact hv | 1 => exact hv | 2 => exact hv | 3 => exact hv | j + 4 => simp [encSet] at hv)
    refine G.seq rfl ?_
    refine G.draw (fun b => but vs.ownBlock b ∨ Array.size h3 ≤ b) (fun i => Nat.blt i 11) (sz := 12) (listed := #[false, false, false, false, false, false, false, false, false, false, false, false]) Tryd.func63 H.mixed rfl rfl rfl ?_
    refine RD.takeS 0 (listed' := #[true, false, false, false, false, false, false, false, false, false, false, false]) rfl (by kernel_rfl) (by kernel_rfl) (by kernel_rfl) rfl rfl rfl (fun h' e => OpP.move rfl) rfl ?_
    refine RD.takeS 1 (listed' := #[true, true, false, false, false, false, false, false, false, false, false, false]) rfl (by kernel_rfl) (by kernel_rfl) (by kernel_rfl) rfl rfl rfl (fun h' e => OpP.move rfl) rfl ?_
    refine RD.takeS 2 (listed' := #[true, true, true, false, false, false, false, false, false, false, false, false]) rfl (by kernel_rfl) (by kernel_rfl) (by kernel_rfl) rfl rfl rfl (fun h' e => OpP.nilCheck rfl) rfl ?_
    refine RD.takeS 3 (listed' := #[true, true, true, true, false, false, false, false, false, false, false, false]) rfl (by kernel_rfl) (by kernel_rfl) (by kernel_rfl) rfl rfl rfl (fun h' e => OpP.fieldAddr (off := 0) Tryd.underlying57 rfl rfl H.sz53 rfl) rfl ?_
    refine RD.takeS 4 (listed' := #[true, true, true, true, true, false, false, false, false, false, false, false]) rfl (by kernel_rfl) (by kernel_rfl) (by kernel_rfl) rfl rfl rfl (fun h' e => OpP.load H.ag53 rfl (e.cell hrM (R3.at_.blk.cell (i := 0) rfl))) rfl ?_
    refine RD.takeS 5 (listed' := #[true, true, true, true, true, true, false, false, false, false, false, false]) rfl (by kernel_rfl) (by kernel_rfl) (by kernel_rfl) rfl rfl rfl (fun h' e => OpP.fieldAddr (off := 1) Tryd.underlying94 rfl rfl H.sz60 rfl) rfl ?_
    refine RD.takeS 6 (listed' := #[true, true, true, true, true, true, true, false, false, false, false, false]) rfl (by kernel_rfl) (by kernel_rfl) (by kernel_rfl) rfl rfl rfl (fun h' e => OpP.loadRowN H.ag60 H.sz60 rfl (e.rowAt hnM hset4) (by first | rfl | simp)) rfl ?_
    refine RD.oneS 7 (listed' := #[true, true, true, true, true, true, true, true, false, false, false, false]) rfl (by kernel_rfl) rfl rfl rfl (OpX.buildRec (cs := [_, _, _, _]) Tryd.underlying53 H.el60 rfl rfl (by decide)) rfl ?_
    rintro _ _ ⟨rfl, rfl⟩
    refine ⟨fun _ => by first | exact Ext.push _ _ _ | assumption, ?_⟩
    refine RD.oneS 8 (listed' := #[true, true, true, true, true, true, true, true, true, false, false, false]) rfl (by kernel_rfl) rfl rfl rfl (OpX.appendNew Tryd.underlying53 H.el60 rfl rfl (hsets) rfl rfl (hset1) (by omega) (by decide) (by omega)) rfl ?_
    rintro v2 h5 ⟨ho5, hx5, hx5', hv5⟩
    refine ⟨fun _ => hx5'.mono (fun _ _ k => .inl k), ?_⟩
    have z5 := hx5.size
    obtain ⟨va2, c2, rfl, _⟩ := ho5.open
    have hrb5 : rb < h5.size := by omega
    refine RD.oneS 9 (listed' := #[true, true, true, true, true, true, true, true, true, true, false, false]) rfl (by kernel_rfl) rfl rfl rfl (OpP.toX (OpP.nilCheck rfl)) rfl ?_
    rintro _ hq_ ⟨rfl, hqe_⟩
    replace hqe_ := hqe_.symm
    subst hqe_
    refine ⟨fun _ => Ext.refl _ _, ?_⟩
    refine RD.takeS 10 (listed' := #[true, true, true, true, true, true, true, true, true, true, true, false]) rfl (by kernel_rfl) (by kernel_rfl) (by kernel_rfl) rfl rfl rfl (fun h' e => OpP.fieldAddr (off := 0) Tryd.underlying57 rfl rfl H.sz53 rfl) rfl ?_
    refine RD.one0 11 (listed' := #[true, true, true, true, true, true, true, true, true, true, true, true]) rfl (by kernel_rfl) rfl rfl (OpX.storeOne H.sz53 rfl rfl (R3.at_.blk.ext hx5 (fun k => by have := hownS rb k.symm; omega)) (by first | decide | exact of_decide_eq_true rfl | (simp; done) | (simp; omega)) rfl) rfl ?_
    rintro _ h6 ⟨rfl, hk6, hx6, hz6⟩
    refine ⟨fun hk => (nomatch hk), ?_⟩
    have hk6 : Blk h6 rb 57 [.slice va2 (st.1.length + 1) c2, vb, vl] := hk6
    have hv2 : ∀ b, (Value.slice va2 (st.1.length + 1) c2).ownBlock = some b → b ≠ rb := fun b hb => by
      rcases hv5 b hb with k | k
      · exact (hownS b k).1
      · omega
    have a6 : RuAt h6 (ruO O L2) rb (.slice va2 (st.1.length + 1) c2) vb vl (st.1 ++ [s], st.2) := ⟨hk6, OwR.of (OwnH.ext hx6 ho5 (fun b hb (e : b = rb) => by have := hv2 b hb; omega)) rfl rfl,
      (R3.at_.rows.mv2 hx5 (fun b hb k => hr.apart b k.symm hb) (fun b _ k => .inr (.inl k)) (O' := fun b => b = rb ∨ but (Value.slice va2 (st.1.length + 1) c2).ownBlock b ∨ ruO O L2 b) (fun b hb k => by
        rcases k with k | k | k
        · exact .inl k
        · rcases hv5 b k.symm with k2 | k2
          · exact .inr (.inl k2.symm)
          · omega
        · exact .inr (.inr k))).mv2 hx6 (fun b hb (e : b = rb) => by have := hownB b hb; omega) (fun b _ k => .inl k) (fun b _ k => k), fun b hb => by
        rcases hv5 b hb with k | k
        · exact hr.apart b k
        · intro e; have := hownB b e; omega, fun hb => (hv2 rb hb) rfl, hr.nb⟩
    have e36 : Ext (ruM rb vs vb) h3 h6 := ⟨by omega, fun b hb hn => by rw [hx6.block b (by omega) (fun k => hn (.inl k)), hx5.block b hb (fun k => hn (.inr (.inl k)))]⟩
    have R6 := R3.sub a6 e36 hv5
    have q4 := q4.ext e36 (R3.loc _ hLn)
    have q6 := q6.ext e36 (R3.loc _ hLp)
    refine RD.done (by kernel_rfl) ?_
    refine xu [0, 1, 2, 4, 6, 7, 20, 21] rfl ?_
    refine xr Tryd.func63 rfl ?_
    refine xq rfl ?_
    refine xo rfl (OpX.makeOnes Tryd.underlying55 H.el4 H.zr4 rfl rfl rfl (by omega) (by decide)) ?_
    rintro _ h7 ⟨rfl, q8, e7⟩
    have q8 : OwE Value.bool h7 h6.size 4 (.slice (some ⟨h6.size, 0, none⟩) n n) (nob n) := by unfold OwE nob; simpa using q8
    have R7 := R6.ext0 e7
    obtain ⟨g', c', hv', _, _, hcell, hfz, hset⟩ := q8.at (i := st.1.length) (x := false) (by unfold nob; rw [List.getElem?_replicate, if_pos (by omega)])
    rw [nob_len] at hv'
    cases hv'
    have hset := hset true
    refine xq rfl ?_
    refine xd [0, 1, 2, 4, 6, 7, 8, 20, 21] rfl ?_
    refine xr Tryd.func63 rfl ?_
    iterate 3 refine xq rfl ?_
    refine xp rfl (OpP.fieldAddr (off := 0) Tryd.underlying57 rfl rfl H.sz53 rfl) ?_
    refine xp rfl (OpP.load H.ag53 rfl (R7.at_.blk.cell (i := 0) rfl)) ?_
    refine xp rfl (OpP.lenSlice Tryd.underlying53 rfl) ?_
    refine xp rfl (OpP.sub64 rfl rfl ⟨by omega, by omega⟩) ?_
    refine xp rfl (OpP.indexSlice Tryd.underlying55 H.sz4 rfl rfl st.1.length (by omega) rfl (by omega)) ?_
    refine RW.op0 rfl rfl rfl (OpX.store H.sz4 rfl rfl rfl hcell hfz) ?_
    rintro _ h8 ⟨rfl, hg8⟩
    rw [← hg8] at hset
    have e68 : Ext0 h6 h8 := Ext0.only e7 (by rw [hg8]; exact Ext.setC _ _ _ rfl : Ext (fun b => b = h6.size) h7 h8) (Nat.le_refl _)
    have R8 := R6.ext0 e68
    have hone : SlR .bool h8 (ruQ O rb (.slice va2 (st.1.length + 1) c2) vb L2) (.slice (some ⟨h6.size, 0, none⟩) n n) ((nob n).set st.1.length true) := OwE.read (h1 := fun _ => rfl) hset (fun b hb k => by have := R6.qlt b k; omega)
    refine xd [0, 1, 2, 4, 6, 7, 8, 20, 21] rfl ?_
    refine xr Tryd.func63 rfl ?_
    iterate 2 refine xq rfl ?_
    refine xp rfl (OpP.build (H.bd124_0_1_2 _ _ _ _ _ _ _) rfl) ?_
    refine RW.op0 rfl rfl rfl (OpX.storeBlk H.sz124 rfl rfl (q6.ext0 e68) (by first | rfl | simp) (by first | decide | exact of_decide_eq_true rfl | (simp; done) | (simp; omega)) (by first | decide | simp [Value.oneCell'])) ?_
    rintro _ h9 ⟨rfl, hk9, hx9, hz9⟩
    refine xd [0, 1, 2, 4, 6, 7, 8, 20, 21] rfl ?_
    have hk9 : Blk h9 h1.size 124 [.bool false, .slice (some ⟨h6.size, 0, none⟩) n n, .slice (some ⟨h6.size, 0, none⟩) n n] := hk9
    refine G.retC Tryd.func63 rfl (.cons (ResOk.rowN H.ag124 H.sz124 rfl (hk9.row) (by first | rfl | simp)) (.nil)) ?_
    have R9 := R8.put hx9 hLp
    have hone9 := hone.mv (R8.putQ hx9 hLp)
    exact ⟨_, rfl, R9.fin hone9 hone9⟩
  · have h1k' : ¬ k = 1 := kkR h1k
    refine xr Tryd.func63 rfl ?_
    iterate 2 refine xq rfl ?_
    refine xd [0, 1, 2, 4, 6, 7, 20, 21, 47] rfl ?_
    refine G.ite rfl rfl (fun h2k => ?_) (fun h2k => ?_)
    · obtain rfl : k = 2 := by omega
      have hglu : glu n (.mk 2 s kids) st = gluCat n kids ⟨true, nob n, nob n⟩ st := by rw [glu]; simp
      rw [hglu]
      generalize htgt : gluCat n kids ⟨true, nob n, nob n⟩ st = tgt
      rw [if_neg (by decide), Nat.zero_add] at hroom
      refine xr Tryd.func63 rfl ?_
      iterate 2 refine xq rfl ?_
      refine xp rfl (OpP.build (H.bd124_0_1_2 _ _ _ _ _ _ _) rfl) ?_
      refine xo rfl (OpX.allocN H.zr124) ?_
      rintro _ h4 ⟨rfl, k9, e4, z4⟩
      refine RW.op0 rfl rfl rfl (OpX.storeBlk H.sz124 rfl rfl k9 (by first | rfl | simp) (by first | decide | exact of_decide_eq_true rfl | (simp; done) | (simp; omega)) (by first | decide | simp [Value.oneCell'])) ?_
      rintro _ h5 ⟨rfl, k9, x5, z5⟩
      have k9 : Blk h5 h3.size 124 [.bool true, .slice (some ⟨h2.size, 0, none⟩) n n, .slice (some ⟨h2.size, 0, none⟩) n n] := k9
      have e35 : Ext0 h3 h5 := Ext0.only e4 x5 (Nat.le_refl _)
      have e05 := e03.trans e35
      generalize hL5e : (fun b => L2 b ∨ b = Array.size h3 : Nat → Prop) = L5
      have hL5 : ∀ b, L5 b → h.size ≤ b ∧ b < h5.size := by rw [← hL5e]; rintro b (k | k); (have := hL2 b k; omega); omega
      have hL4' : L5 h.size := by rw [← hL5e]; exact .inl hLn
      have hL6' : L5 h1.size := by rw [← hL5e]; exact .inl hLp
      have hL9' : L5 h3.size := by rw [← hL5e]; exact .inr rfl
      have R5 : RuL O rb vs vb vl h L5 h5.size h5 vs st := ⟨hr.ext (O' := ruO O L5) e05 (fun _ _ k => k) (fun _ _ k => k.elim) (fun b hb k => k.elim id (fun k => by have := hL5 b k; omega)), e05.mono (fun _ _ k => k.elim), fun b hb => .inl hb, Nat.le_refl _, by omega, hltM, hO, hL5⟩
      have hnb3 : SlR .bool h3 (ruQ O rb vs vb L2) (.slice (some ⟨h2.size, 0, none⟩) n n) (nob n) := OwE.read (h1 := fun _ => rfl) q7 (fun b hb k => by
        rcases k with k | k | k
        · have := hltM b k; omega
        · have := hO b k; omega
        · rw [← hLe] at k; rcases k with k | k <;> omega)
      have hnb5 : SlR .bool h5 (ruQ O rb vs vb L5) (.slice (some ⟨h2.size, 0, none⟩) n n) (nob n) := hnb3.mv ⟨e35.size, fun b hb hn => ⟨e35.block b hb (fun k => k), by
        rintro (k | k | k)
        · exact hn (.inl k)
        · exact hn (.inr (.inl k))
        · rw [← hL5e] at k
          rcases k with k | k
          · exact hn (.inr (.inr k))
          · omega⟩⟩
      have LB5 : LocB h.size h1.size (ndC 2 s (.slice oa kn kc)) h5 := ⟨q4.ext0 e35, q6.ext0 e35⟩
      refine xd [0, 1, 2, 4, 6, 7, 9, 20, 21, 47] rfl ?_
      refine G.seq rfl ?_
      refine xr Tryd.func63 rfl ?_
      refine xq rfl ?_
      refine xd [0, 1, 2, 4, 6, 7, 9, 10, 20, 21, 47] rfl ?_
      refine G.block rfl rfl ?_
      refine G.loop (σ := Nat) (fun i => [(0, .pointer (some ⟨rb, 0, none⟩)), (2, .int .i64 (n : Nat)), (4, .pointer (some ⟨h.size, 0, none⟩)), (6, .pointer (some ⟨h1.size, 0, none⟩)), (9, .pointer (some ⟨h3.size, 0, none⟩)), (10, .int .i64 (i : Nat))]) (fun i h' => i ≤ kn ∧ ∃ vs' p fa fn fc la ln lc stc, RuL O rb vs vb vl h L5 h5.size h' vs' stc ∧ LocB h.size h1.size (ndC 2 s (.slice oa kn kc)) h' ∧ Blk h' h3.size 124 [.bool p.null, .slice fa fn fc, .slice la ln lc] ∧ SlR .bool h' (ruQ O rb vs' vb L5) (.slice fa fn fc) p.first ∧ SlR .bool h' (ruQ O rb vs' vb L5) (.slice la ln lc) p.last ∧ PartOk n p ∧ RuOk n stc ∧ stc.1.length + cntL (kids.drop i) ≤ n ∧ gluCat n (kids.drop i) p stc = tgt) (fun i => kn - i) (0) rfl ⟨rfl, rfl, rfl, rfl, rfl, rfl, trivial⟩ ⟨Nat.zero_le _, vs, ⟨true, nob n, nob n⟩, _, _, _, _, _, _, st, R5, LB5, k9, hnb5, hnb5, nob_ok n true, hok, hroom, htgt⟩ ?_
      rintro i g ⟨hi, vs', p, fa, fn, fc, la, ln, lc, stc, R, LB, k9, hf, hl, hpok, hcok, hcroom, hcon⟩ ih2
      have hvb := hr.ownB
      have hL5s : Array.size h3 < Array.size h5 := (hL5 _ hL9').2
      refine G.seq rfl ?_
      refine xr Tryd.func63 rfl ?_
      refine xq rfl ?_
      refine xp rfl (OpP.fieldAddr (off := 5) Tryd.underlying94 rfl rfl H.sz92 rfl) ?_
      refine xp rfl (OpP.load H.ag92 rfl (LB.k4.cell (i := 5) rfl)) ?_
      refine xp rfl (OpP.lenSlice Tryd.underlying92 rfl) ?_
      refine xq rfl ?_
      refine xd [0, 2, 4, 6, 9, 10, 56] rfl ?_
      refine G.ite rfl rfl (fun hlt => ?_) (fun hlt => ?_)
      · have hik : i < kids.length := by omega
        obtain ⟨x, hx⟩ : ∃ x, kids[i]? = some x := ⟨_, List.getElem?_eq_getElem hik⟩
        have hdr : kids.drop i = x :: kids.drop (i + 1) := by
          obtain ⟨hi', rfl⟩ := List.getElem?_eq_some_iff.1 hx
          exact List.drop_eq_getElem_cons hi'
        rw [hdr, gluCat] at hcon
        rw [hdr] at hcroom
        simp only [cntL] at hcroom
        have hszx := szL_mem hx
        have hwx := wfL_mem hwl hx
        have hokx := glu_ok n x stc hcok
        have hroomx := hokx.2.2.2 hwx
        obtain ⟨b, o, cs, ha, hob, hrow, hnd⟩ := (hsl.mv R.old).get i x hx
        obtain ⟨w2, rfl, -⟩ := NdAt.open hnd
        have hgz := R.size
        refine G.skip rfl ?_
        refine G.seq rfl ?_
        refine G.block rfl rfl ?_
        refine xr Tryd.func63 rfl ?_
        refine xq rfl ?_
        refine xp rfl (OpP.fieldAddr (off := 5) Tryd.underlying94 rfl rfl H.sz92 rfl) ?_
        refine xp rfl (OpP.load H.ag92 rfl (LB.k4.cell (i := 5) rfl)) ?_
        refine xq rfl ?_
        refine xp rfl (OpP.indexSlice Tryd.underlying92 H.sz94 rfl rfl i rfl ha (by omega)) ?_
        refine xp rfl (OpP.loadRowN H.ag94 H.sz94 rfl hrow (by first | rfl | simp)) ?_
        refine xq rfl ?_
        refine xo rfl (OpX.call (vs := [_, _, _]) Tryd.func63 rfl H.nm63 rfl (CallsH.toX (ih (x := x) (O := ruO O L5) (by omega) R.at_ (fun b hb => R.qlt b (.inr hb)) hnd hwx hcok (by omega) hn))) ?_
        rintro _ g1 ⟨vs1, f1, l1, rfl, a1, hf1, hl1, e1x, ho1⟩
        refine xo rfl (OpX.allocN H.zr124) ?_
        rintro _ g2 ⟨rfl, k11, e2x, z2x⟩
        generalize glu n x stc = out at *
        have hf1' : ∃ oa n c, f1 = .slice oa n c := by obtain ⟨oa, n, c, rfl, _⟩ := hf1; exact ⟨_, _, _, rfl⟩
        obtain ⟨f1a, f1n, f1c, rfl⟩ := hf1'
        have hl1' : ∃ oa n c, l1 = .slice oa n c := by obtain ⟨oa, n, c, rfl, _⟩ := hl1; exact ⟨_, _, _, rfl⟩
        obtain ⟨l1a, l1n, l1c, rfl⟩ := hl1'
        have R1 := R.sub a1 e1x ho1
        have z1x := e1x.size
        have LB1 := LB.ext e1x (R.loc _ hL4') (R.loc _ hL6')
        have k9 := k9.ext e1x (R.loc _ hL9')
        have hf := hf.mv (R.subQ e1x ho1)
        have hl := hl.mv (R.subQ e1x ho1)
        refine RW.op0 rfl rfl rfl (OpX.storeBlk H.sz124 rfl rfl k11 (by first | rfl | simp) (by first | decide | exact of_decide_eq_true rfl | (simp; done) | (simp; omega)) (by first | decide | simp [Value.oneCell'])) ?_
        rintro _ g3 ⟨rfl, k11, x3, z3x⟩
        have k11 : Blk g3 g1.size 124 [.bool out.1.null, .slice f1a f1n f1c, .slice l1a l1n l1c] := k11
        have e13 : Ext0 g1 g3 := Ext0.only e2x x3 (Nat.le_refl _)
        have R3' := R1.ext0 e13
        have LB3 := LB1.ext0 e13
        have k9 := k9.ext0 e13
        have hf := hf.mv (Mv.ext0 e13)
        have hl := hl.mv (Mv.ext0 e13)
        have hf1 : SlR .bool g3 (ruQ O rb vs1 vb L5) _ out.1.first := SlR.mv hf1 (Mv.ext0 e13)
        have hl1 : SlR .bool g3 (ruQ O rb vs1 vb L5) _ out.1.last := SlR.mv hl1 (Mv.ext0 e13)
        refine xd [0, 2, 4, 6, 9, 10, 11, 56] rfl ?_
        refine xr Tryd.func63 rfl ?_
        refine xq rfl ?_
        refine xp rfl (OpP.fieldAddr (off := 2) Tryd.underlying124 rfl rfl H.sz55 rfl) ?_
        refine xp rfl (OpP.load H.ag55 rfl (k9.cell (i := 2) rfl)) ?_
        refine xp rfl (OpP.fieldAddr (off := 1) Tryd.underlying124 rfl rfl H.sz55 rfl) ?_
        refine xp rfl (OpP.load H.ag55 rfl (k11.cell (i := 1) rfl)) ?_
        refine xo rfl (OpX.call (vs := [_, _, _]) Tryd.func81 rfl H.nm81 rfl (CallsH.toX (follow_calls R3'.at_ (fun b hb => R3'.qlt b (.inr hb)) (SlR.less hl (fun _ k => .inl k)) (SlR.less hf1 (fun _ k => .inl k)) hokx.2.1 hpok.last hokx.1.first hn))) ?_
        rintro _ g4 ⟨a4, e4x⟩
        have R4 := R3'.fol a4 e4x
        have z4x := e4x.size
        have n11 : ¬ but vb.ownBlock g1.size := fun k => by have := hvb _ k.symm; omega
        have k11 := k11.ext e4x n11
        have LB4 := LB3.ext e4x (fun k => R3'.loc _ hL4' (.inr (.inr k))) (fun k => R3'.loc _ hL6' (.inr (.inr k)))
        have k9 := k9.ext e4x (fun k => R3'.loc _ hL9' (.inr (.inr k)))
        have hf := hf.mv (R3'.folQ e4x)
        have hl := hl.mv (R3'.folQ e4x)
        have hf1 := hf1.mv (R3'.folQ e4x)
        have hl1 := hl1.mv (R3'.folQ e4x)
        have hcpok := catPart_ok hpok hokx.1
        have hcfok := follow_ok (S := out.2.1) hpok.last hokx.1.first hokx.2.1
        have hg1n : ¬ g1.size = h3.size := by omega
        refine xd [0, 2, 4, 6, 9, 10, 11, 56] rfl ?_
        refine G.seq rfl ?_
        refine xr Tryd.func63 rfl ?_
        refine xp rfl (OpP.fieldAddr (off := 0) Tryd.underlying124 rfl rfl H.sz4 rfl) ?_
        refine xp rfl (OpP.load H.ag4 rfl (k9.cell (i := 0) rfl)) ?_
        refine xd [0, 2, 4, 6, 9, 10, 11, 56, 74] rfl ?_
        have st1 : ∀ (f2a : Option Addr) (f2n f2c : Nat) (h' : Heap) (ρ' : Env), Sub [(0, .pointer (some ⟨rb, 0, none⟩)), (2, .int .i64 (n : Nat)), (4, .pointer (some ⟨h.size, 0, none⟩)), (6, .pointer (some ⟨h1.size, 0, none⟩)), (9, .pointer (some ⟨h3.size, 0, none⟩)), (10, .int .i64 (i : Nat)), (11, .pointer (some ⟨g1.size, 0, none⟩))] ρ' → RuL O rb vs vb vl h L5 h5.size h' vs1 (out.2.1, followB p.last out.1.first out.2.2) → LocB h.size h1.size (ndC 2 s (.slice oa kn kc)) h' → Blk h' h3.size 124 [.bool p.null, .slice f2a f2n f2c, .slice la ln lc] → Blk h' g1.size 124 [.bool out.1.null, .slice f1a f1n f1c, .slice l1a l1n l1c] → SlR .bool h' (ruQ O rb vs1 vb L5) (.slice f2a f2n f2c) (catPart p out.1).first → SlR .bool h' (ruQ O rb vs1 vb L5) (.slice la ln lc) p.last → SlR .bool h' (ruQ O rb vs1 vb L5) (.slice l1a l1n l1c) out.1.last → G Tryd.prog 63 Tryd.f63 [.code [1, 1, 1, 0, 0, 1, 0, 0, 1, 0, 1, 0, 1, 1, 1, 0, 1, 0, 1, 1], .blk 2, .code [1, 1, 0, 0, 1, 0, 1, 0, 1, 1, 1, 0, 1, 0, 1, 1], .loop [0, 0, 1, 0, 1, 0, 1, 1, 1, 0, 1, 0, 1, 1], .blk 1, .code [1, 1, 0, 1, 1, 1, 0, 1, 0, 1, 1], .blk 0, .code [1, 1, 1]] ρ' h' (Ret (LayRV O rb h vs vb vl tgt)) := by
          rintro f2a f2n f2c g5 ρ' hsub R6 LB6 k9 k11 hf2 hl hl1
          refine G.sub (ρ' := [(0, .pointer (some ⟨rb, 0, none⟩)), (2, .int .i64 (n : Nat)), (4, .pointer (some ⟨h.size, 0, none⟩)), (6, .pointer (some ⟨h1.size, 0, none⟩)), (9, .pointer (some ⟨h3.size, 0, none⟩)), (10, .int .i64 (i : Nat)), (11, .pointer (some ⟨g1.size, 0, none⟩))]) hsub ?_
          refine G.seq rfl ?_
          refine xr Tryd.func63 rfl ?_
          refine xp rfl (OpP.fieldAddr (off := 0) Tryd.underlying124 rfl rfl H.sz4 rfl) ?_
          refine xp rfl (OpP.load H.ag4 rfl (k11.cell (i := 0) rfl)) ?_
          refine xd [0, 2, 4, 6, 9, 10, 11, 82] rfl ?_
          have st2 : ∀ (f2a : Option Addr) (f2n f2c : Nat) (l2a : Option Addr) (l2n l2c : Nat) (h' : Heap) (ρ' : Env), Sub [(0, .pointer (some ⟨rb, 0, none⟩)), (2, .int .i64 (n : Nat)), (4, .pointer (some ⟨h.size, 0, none⟩)), (6, .pointer (some ⟨h1.size, 0, none⟩)), (9, .pointer (some ⟨h3.size, 0, none⟩)), (10, .int .i64 (i : Nat)), (11, .pointer (some ⟨g1.size, 0, none⟩))] ρ' → RuL O rb vs vb vl h L5 h5.size h' vs1 (out.2.1, followB p.last out.1.first out.2.2) → LocB h.size h1.size (ndC 2 s (.slice oa kn kc)) h' → Blk h' h3.size 124 [.bool p.null, .slice f2a f2n f2c, .slice l2a l2n l2c] → Blk h' g1.size 124 [.bool out.1.null, .slice f1a f1n f1c, .slice l1a l1n l1c] → SlR .bool h' (ruQ O rb vs1 vb L5) (.slice f2a f2n f2c) (catPart p out.1).first → SlR .bool h' (ruQ O rb vs1 vb L5) (.slice l2a l2n l2c) (catPart p out.1).last → G Tryd.prog 63 Tryd.f63 [.code [1, 1, 1, 1, 0, 0, 1, 0, 0, 1, 0, 1, 0, 1, 1, 1, 0, 1, 0, 1, 1], .blk 2, .code [1, 1, 0, 0, 1, 0, 1, 0, 1, 1, 1, 0, 1, 0, 1, 1], .loop [0, 0, 1, 0, 1, 0, 1, 1, 1, 0, 1, 0, 1, 1], .blk 1, .code [1, 1, 0, 1, 1, 1, 0, 1, 0, 1, 1], .blk 0, .code [1, 1, 1]] ρ' h' (Ret (LayRV O rb h vs vb vl tgt)) := by
            rintro f2a f2n f2c l2a l2n l2c g5 ρ' hsub R6 LB6 k9 k11 hf2 hl2
            refine G.sub (ρ' := [(0, .pointer (some ⟨rb, 0, none⟩)), (2, .int .i64 (n : Nat)), (4, .pointer (some ⟨h.size, 0, none⟩)), (6, .pointer (some ⟨h1.size, 0, none⟩)), (9, .pointer (some ⟨h3.size, 0, none⟩)), (10, .int .i64 (i : Nat)), (11, .pointer (some ⟨g1.size, 0, none⟩))]) hsub ?_
            refine G.reg Tryd.func63 rfl ?_
            refine xp rfl (OpP.fieldAddr (off := 0) Tryd.underlying124 rfl rfl H.sz4 rfl) ?_
            refine xp rfl (OpP.load H.ag4 rfl (k9.cell (i := 0) rfl)) ?_
            refine xq rfl ?_
            refine RW.split (d := 94) rfl (fun hg => ?_) (fun hg => ?_)
            · refine xp rfl (OpP.fieldAddr (off := 0) Tryd.underlying124 rfl rfl H.sz4 rfl) ?_
              refine xp rfl (OpP.load H.ag4 rfl (k11.cell (i := 0) rfl)) ?_
              refine xq rfl ?_
              refine xp rfl (OpP.fieldAddr (off := 0) Tryd.underlying124 rfl rfl H.sz4 rfl) ?_
              refine RW.op0 rfl rfl rfl (OpX.storeOne H.sz4 rfl rfl k9 (by first | decide | exact of_decide_eq_true rfl | (simp; done) | (simp; omega)) rfl) ?_
              rintro _ g7 ⟨rfl, k9', x7, z7⟩
              refine xd [0, 2, 4, 6, 9, 10, 11] rfl ?_
              refine G.blkEnd ?_
              refine G.reg Tryd.func63 rfl ?_
              refine xq rfl ?_
              refine xp rfl (OpP.add64 rfl rfl ⟨by omega, by omega⟩) ?_
              refine xq rfl ?_
              refine xd [0, 2, 4, 6, 9, 10, 11] rfl ?_
              exact ih2 (i + 1) _ _ ⟨rfl, rfl, rfl, rfl, rfl, rfl, trivial⟩ ⟨by omega, vs1, catPart p out.1, _, _, _, _, _, _, _, R6.put x7 hL9', LB6.ext x7 (by show ¬ _ = _; omega) (by show ¬ _ = _; omega), by simp only [catPart, hg, Bool.true_and]; exact k9', hf2.mv (R6.putQ x7 hL9'), hl2.mv (R6.putQ x7 hL9'), hcpok, hcfok, by show out.2.1.length + _ ≤ n; omega, hcon⟩ (by omega)
            · iterate 2 refine xk rfl ?_
              refine xq rfl ?_
              refine xp rfl (OpP.fieldAddr (off := 0) Tryd.underlying124 rfl rfl H.sz4 rfl) ?_
              refine RW.op0 rfl rfl rfl (OpX.storeOne H.sz4 rfl rfl k9 (by first | decide | exact of_decide_eq_true rfl | (simp; done) | (simp; omega)) rfl) ?_
              rintro _ g7 ⟨rfl, k9', x7, z7⟩
              refine xd [0, 2, 4, 6, 9, 10, 11] rfl ?_
              refine G.blkEnd ?_
              refine G.reg Tryd.func63 rfl ?_
              refine xq rfl ?_
              refine xp rfl (OpP.add64 rfl rfl ⟨by omega, by omega⟩) ?_
              refine xq rfl ?_
              refine xd [0, 2, 4, 6, 9, 10, 11] rfl ?_
              exact ih2 (i + 1) _ _ ⟨rfl, rfl, rfl, rfl, rfl, rfl, trivial⟩ ⟨by omega, vs1, catPart p out.1, _, _, _, _, _, _, _, R6.put x7 hL9', LB6.ext x7 (by show ¬ _ = _; omega) (by show ¬ _ = _; omega), by simp only [catPart, hg, Bool.false_and]; exact k9', hf2.mv (R6.putQ x7 hL9'), hl2.mv (R6.putQ x7 hL9'), hcpok, hcfok, by show out.2.1.length + _ ≤ n; omega, hcon⟩ (by omega)
          refine G.cond rfl rfl (fun hg => ?_) (fun hg => ?_)
          · refine G.reg Tryd.func63 rfl ?_
            refine xp rfl (OpP.fieldAddr (off := 2) Tryd.underlying124 rfl rfl H.sz55 rfl) ?_
            refine xp rfl (OpP.load H.ag55 rfl (k9.cell (i := 2) rfl)) ?_
            refine xp rfl (OpP.fieldAddr (off := 2) Tryd.underlying124 rfl rfl H.sz55 rfl) ?_
            refine xp rfl (OpP.load H.ag55 rfl (k11.cell (i := 2) rfl)) ?_
            refine xo rfl (OpX.call (vs := [_, _]) Tryd.func64 rfl H.nm64 rfl (CallsH.toX (or_calls hl hl1 (by rw [hpok.last, hokx.1.last]; exact Nat.le_refl _) (by rw [hpok.last]; exact hn)))) ?_
            rintro w5 g6 ⟨ho6, e6x⟩
            have R7 := R6.ext0 e6x
            obtain ⟨wa, wc, rfl, _⟩ := (show OwnH g6 g5.size 4 1 w5 (orB p.last out.1.last).length ((orB p.last out.1.last).map Value.bool) from ho6).open
            have hl2 : SlR .bool g6 (ruQ O rb vs1 vb L5) _ (orB p.last out.1.last) := OwE.read (h1 := fun _ => rfl) ho6 (fun b hb k => by have := R6.qlt b k; omega)
            have z6x := e6x.size
            refine xp rfl (OpP.fieldAddr (off := 2) Tryd.underlying124 rfl rfl H.sz55 rfl) ?_
            refine RW.op0 rfl rfl rfl (OpX.storeOne H.sz55 rfl rfl (k9.ext0 e6x) (by first | decide | exact of_decide_eq_true rfl | (simp; done) | (simp; omega)) rfl) ?_
            rintro _ g7 ⟨rfl, k9', x7, z7⟩
            refine xd [0, 2, 4, 6, 9, 10, 11, 82] rfl ?_
            exact st2 _ _ _ _ _ _ _ _ ⟨rfl, rfl, rfl, rfl, rfl, rfl, rfl, trivial⟩ (R7.put x7 hL9') ((LB6.ext0 e6x).ext x7 (by show ¬ _ = _; omega) (by show ¬ _ = _; omega)) k9' ((k11.ext0 e6x).ext x7 (by show ¬ _ = _; omega)) ((hf2.mv (Mv.ext0 e6x)).mv (R7.putQ x7 hL9')) (by simp only [catPart, hg, if_true]; exact hl2.mv (R7.putQ x7 hL9'))
          · refine G.reg Tryd.func63 rfl ?_
            refine xp rfl (OpP.fieldAddr (off := 2) Tryd.underlying124 rfl rfl H.sz55 rfl) ?_
            refine xp rfl (OpP.load H.ag55 rfl (k11.cell (i := 2) rfl)) ?_
            refine xp rfl (OpP.fieldAddr (off := 2) Tryd.underlying124 rfl rfl H.sz55 rfl) ?_
            refine RW.op0 rfl rfl rfl (OpX.storeOne H.sz55 rfl rfl k9 (by first | decide | exact of_decide_eq_true rfl | (simp; done) | (simp; omega)) rfl) ?_
            rintro _ g7 ⟨rfl, k9', x7, z7⟩
            refine xd [0, 2, 4, 6, 9, 10, 11, 82] rfl ?_
            exact st2 _ _ _ _ _ _ _ _ ⟨rfl, rfl, rfl, rfl, rfl, rfl, rfl, trivial⟩ (R6.put x7 hL9') (LB6.ext x7 (by show ¬ _ = _; omega) (by show ¬ _ = _; omega)) k9' (k11.ext x7 (by show ¬ _ = _; omega)) (hf2.mv (R6.putQ x7 hL9')) (by simp only [catPart, hg]; exact hl1.mv (R6.putQ x7 hL9'))
        refine G.cond rfl rfl (fun hg => ?_) (fun hg => ?_)
        · refine G.reg Tryd.func63 rfl ?_
          refine xp rfl (OpP.fieldAddr (off := 1) Tryd.underlying124 rfl rfl H.sz55 rfl) ?_
          refine xp rfl (OpP.load H.ag55 rfl (k9.cell (i := 1) rfl)) ?_
          refine xp rfl (OpP.fieldAddr (off := 1) Tryd.underlying124 rfl rfl H.sz55 rfl) ?_
          refine xp rfl (OpP.load H.ag55 rfl (k11.cell (i := 1) rfl)) ?_
          refine xo rfl (OpX.call (vs := [_, _]) Tryd.func64 rfl H.nm64 rfl (CallsH.toX (or_calls hf hf1 (by rw [hpok.first, hokx.1.first]; exact Nat.le_refl _) (by rw [hpok.first]; exact hn)))) ?_
          rintro w5 g6 ⟨ho6, e6x⟩
          have R7 := R4.ext0 e6x
          obtain ⟨wa, wc, rfl, _⟩ := (show OwnH g6 g4.size 4 1 w5 (orB p.first out.1.first).length ((orB p.first out.1.first).map Value.bool) from ho6).open
          have hf2 : SlR .bool g6 (ruQ O rb vs1 vb L5) _ (orB p.first out.1.first) := OwE.read (h1 := fun _ => rfl) ho6 (fun b hb k => by have := R4.qlt b k; omega)
          have z6x := e6x.size
          refine xp rfl (OpP.fieldAddr (off := 1) Tryd.underlying124 rfl rfl H.sz55 rfl) ?_
          refine RW.op0 rfl rfl rfl (OpX.storeOne H.sz55 rfl rfl (k9.ext0 e6x) (by first | decide | exact of_decide_eq_true rfl | (simp; done) | (simp; omega)) rfl) ?_
          rintro _ g7 ⟨rfl, k9', x7, z7⟩
          refine xd [0, 2, 4, 6, 9, 10, 11, 56, 74] rfl ?_
          exact st1 _ _ _ _ _ ⟨rfl, rfl, rfl, rfl, rfl, rfl, rfl, trivial⟩ (R7.put x7 hL9') ((LB4.ext0 e6x).ext x7 (by show ¬ _ = _; omega) (by show ¬ _ = _; omega)) k9' ((k11.ext0 e6x).ext x7 (by show ¬ _ = _; omega)) (by simp only [catPart, hg, if_true]; exact hf2.mv (R7.putQ x7 hL9')) ((hl.mv (Mv.ext0 e6x)).mv (R7.putQ x7 hL9')) ((hl1.mv (Mv.ext0 e6x)).mv (R7.putQ x7 hL9'))
        · refine G.skip rfl ?_
          exact st1 _ _ _ _ _ ⟨rfl, rfl, rfl, rfl, rfl, rfl, rfl, trivial⟩ R4 LB4 k9 k11 (by simp only [catPart, hg]; exact hf) hl hl1
      · have hnil : kids.drop i = [] := List.drop_of_length_le (by omega)
        rw [hnil, gluCat] at hcon
        refine G.exit rfl rfl ?_
        refine xr Tryd.func63 rfl ?_
        refine xp rfl (OpP.loadRowN H.ag124 H.sz124 rfl k9.row (by first | rfl | simp)) ?_
        refine RW.op0 rfl rfl rfl (OpX.storeBlk H.sz124 rfl rfl LB.k6 (by first | rfl | simp) (by first | decide | exact of_decide_eq_true rfl | (simp; done) | (simp; omega)) (by first | decide | simp [Value.oneCell'])) ?_
        rintro _ g9 ⟨rfl, hk9, hx9, hz9⟩
        refine xd [0, 2, 4, 6, 9, 10, 56] rfl ?_
        have hk9 : Blk g9 h1.size 124 [.bool p.null, .slice fa fn fc, .slice la ln lc] := hk9
        refine G.retC Tryd.func63 rfl (.cons (ResOk.rowN H.ag124 H.sz124 rfl (hk9.row) (by first | rfl | simp)) (.nil)) ?_
        subst hcon
        exact ⟨_, rfl, (R.put hx9 hL6').fin (hf.mv (R.putQ hx9 hL6')) (hl.mv (R.putQ hx9 hL6'))⟩
    · have h2k' : ¬ k = 2 := kkR h2k
      refine xr Tryd.func63 rfl ?_
      iterate 2 refine xq rfl ?_
      refine xd [0, 1, 2, 4, 6, 7, 20, 21, 47, 100] rfl ?_
      refine G.ite rfl rfl (fun h3k => ?_) (fun h3k => ?_)
      · obtain rfl : k = 3 := by omega
        have hglu : glu n (.mk 3 s kids) st = gluAlt n kids ⟨false, nob n, nob n⟩ st := by rw [glu]; simp
        rw [hglu]
        generalize htgt : gluAlt n kids ⟨false, nob n, nob n⟩ st = tgt
        rw [if_neg (by decide), Nat.zero_add] at hroom
        refine xr Tryd.func63 rfl ?_
        iterate 2 refine xq rfl ?_
        refine xp rfl (OpP.build (H.bd124_0_1_2 _ _ _ _ _ _ _) rfl) ?_
        refine xo rfl (OpX.allocN H.zr124) ?_
        rintro _ h4 ⟨rfl, k9, e4, z4⟩
        refine RW.op0 rfl rfl rfl (OpX.storeBlk H.sz124 rfl rfl k9 (by first | rfl | simp) (by first | decide | exact of_decide_eq_true rfl | (simp; done) | (simp; omega)) (by first | decide | simp [Value.oneCell'])) ?_
        rintro _ h5 ⟨rfl, k9, x5, z5⟩
        have k9 : Blk h5 h3.size 124 [.bool false, .slice (some ⟨h2.size, 0, none⟩) n n, .slice (some ⟨h2.size, 0, none⟩) n n] := k9
        have e35 : Ext0 h3 h5 := Ext0.only e4 x5 (Nat.le_refl _)
        have e05 := e03.trans e35
        generalize hL5e : (fun b => L2 b ∨ b = Array.size h3 : Nat → Prop) = L5
        have hL5 : ∀ b, L5 b → h.size ≤ b ∧ b < h5.size := by rw [← hL5e]; rintro b (k | k); (have := hL2 b k; omega); omega
        have hL4' : L5 h.size := by rw [← hL5e]; exact .inl hLn
        have hL6' : L5 h1.size := by rw [← hL5e]; exact .inl hLp
        have hL9' : L5 h3.size := by rw [← hL5e]; exact .inr rfl
        have R5 : RuL O rb vs vb vl h L5 h5.size h5 vs st := ⟨hr.ext (O' := ruO O L5) e05 (fun _ _ k => k) (fun _ _ k => k.elim) (fun b hb k => k.elim id (fun k => by have := hL5 b k; omega)), e05.mono (fun _ _ k => k.elim), fun b hb => .inl hb, Nat.le_refl _, by omega, hltM, hO, hL5⟩
        have hnb3 : SlR .bool h3 (ruQ O rb vs vb L2) (.slice (some ⟨h2.size, 0, none⟩) n n) (nob n) := OwE.read (h1 := fun _ => rfl) q7 (fun b hb k => by
          rcases k with k | k | k
          · have := hltM b k; omega
          · have := hO b k; omega
          · rw [← hLe] at k; rcases k with k | k <;> omega)
        have hnb5 : SlR .bool h5 (ruQ O rb vs vb L5) (.slice (some ⟨h2.size, 0, none⟩) n n) (nob n) := hnb3.mv ⟨e35.size, fun b hb hn => ⟨e35.block b hb (fun k => k), by
          rintro (k | k | k)
          · exact hn (.inl k)
          · exact hn (.inr (.inl k))
          · rw [← hL5e] at k
            rcases k with k | k
            · exact hn (.inr (.inr k))
            · omega⟩⟩
        have LB5 : LocB h.size h1.size (ndC 3 s (.slice oa kn kc)) h5 := ⟨q4.ext0 e35, q6.ext0 e35⟩
        refine xd [0, 1, 2, 4, 6, 7, 12, 20, 21, 47, 100] rfl ?_
        refine G.seq rfl ?_
        refine xr Tryd.func63 rfl ?_
        refine xq rfl ?_
        refine xd [0, 1, 2, 4, 6, 7, 12, 13, 20, 21, 47, 100] rfl ?_
        refine G.block rfl rfl ?_
        refine G.loop (σ := Nat) (fun i => [(0, .pointer (some ⟨rb, 0, none⟩)), (2, .int .i64 (n : Nat)), (4, .pointer (some ⟨h.size, 0, none⟩)), (6, .pointer (some ⟨h1.size, 0, none⟩)), (12, .pointer (some ⟨h3.size, 0, none⟩)), (13, .int .i64 (i : Nat))]) (fun i h' => i ≤ kn ∧ ∃ vs' p fa fn fc la ln lc stc, RuL O rb vs vb vl h L5 h5.size h' vs' stc ∧ LocB h.size h1.size (ndC 3 s (.slice oa kn kc)) h' ∧ Blk h' h3.size 124 [.bool p.null, .slice fa fn fc, .slice la ln lc] ∧ SlR .bool h' (ruQ O rb vs' vb L5) (.slice fa fn fc) p.first ∧ SlR .bool h' (ruQ O rb vs' vb L5) (.slice la ln lc) p.last ∧ PartOk n p ∧ RuOk n stc ∧ stc.1.length + cntL (kids.drop i) ≤ n ∧ gluAlt n (kids.drop i) p stc = tgt) (fun i => kn - i) (0) rfl ⟨rfl, rfl, rfl, rfl, rfl, rfl, trivial⟩ ⟨Nat.zero_le _, vs, ⟨false, nob n, nob n⟩, _, _, _, _, _, _, st, R5, LB5, k9, hnb5, hnb5, nob_ok n false, hok, hroom, htgt⟩ ?_
        rintro i g ⟨hi, vs', p, fa, fn, fc, la, ln, lc, stc, R, LB, k9, hf, hl, hpok, hcok, hcroom, hcon⟩ ih2
        have hvb := hr.ownB
        have hL5s : Array.size h3 < Array.size h5 := (hL5 _ hL9').2
        refine G.seq rfl ?_
        refine xr Tryd.func63 rfl ?_
        refine xq rfl ?_
        refine xp rfl (OpP.fieldAddr (off := 5) Tryd.underlying94 rfl rfl H.sz92 rfl) ?_
        refine xp rfl (OpP.load H.ag92 rfl (LB.k4.cell (i := 5) rfl)) ?_
        refine xp rfl (OpP.lenSlice Tryd.underlying92 rfl) ?_
        refine xq rfl ?_
        refine xd [0, 2, 4, 6, 12, 13, 109] rfl ?_
        refine G.ite rfl rfl (fun hlt => ?_) (fun hlt => ?_)
        · have hik : i < kids.length := by omega
          obtain ⟨x, hx⟩ : ∃ x, kids[i]? = some x := ⟨_, List.getElem?_eq_getElem hik⟩
          have hdr : kids.drop i = x :: kids.drop (i + 1) := by
            obtain ⟨hi', rfl⟩ := List.getElem?_eq_some_iff.1 hx
            exact List.drop_eq_getElem_cons hi'
          rw [hdr, gluAlt] at hcon
          rw [hdr] at hcroom
          simp only [cntL] at hcroom
          have hszx := szL_mem hx
          have hwx := wfL_mem hwl hx
          have hokx := glu_ok n x stc hcok
          have hroomx := hokx.2.2.2 hwx
          obtain ⟨b, o, cs, ha, hob, hrow, hnd⟩ := (hsl.mv R.old).get i x hx
          obtain ⟨w2, rfl, -⟩ := NdAt.open hnd
          have hgz := R.size
          refine G.skip rfl ?_
          refine G.seq rfl ?_
          refine G.block rfl rfl ?_
          refine xr Tryd.func63 rfl ?_
          refine xq rfl ?_
          refine xp rfl (OpP.fieldAddr (off := 5) Tryd.underlying94 rfl rfl H.sz92 rfl) ?_
          refine xp rfl (OpP.load H.ag92 rfl (LB.k4.cell (i := 5) rfl)) ?_
          refine xq rfl ?_
          refine xp rfl (OpP.indexSlice Tryd.underlying92 H.sz94 rfl rfl i rfl ha (by omega)) ?_
          refine xp rfl (OpP.loadRowN H.ag94 H.sz94 rfl hrow (by first | rfl | simp)) ?_
          refine xq rfl ?_
          refine xo rfl (OpX.call (vs := [_, _, _]) Tryd.func63 rfl H.nm63 rfl (CallsH.toX (ih (x := x) (O := ruO O L5) (by omega) R.at_ (fun b hb => R.qlt b (.inr hb)) hnd hwx hcok (by omega) hn))) ?_
          rintro _ g1 ⟨vs1, f1, l1, rfl, a1, hf1, hl1, e1x, ho1⟩
          refine xo rfl (OpX.allocN H.zr124) ?_
          rintro _ g2 ⟨rfl, k11, e2x, z2x⟩
          generalize glu n x stc = out at *
          have hf1' : ∃ oa n c, f1 = .slice oa n c := by obtain ⟨oa, n, c, rfl, _⟩ := hf1; exact ⟨_, _, _, rfl⟩
          obtain ⟨f1a, f1n, f1c, rfl⟩ := hf1'
          have hl1' : ∃ oa n c, l1 = .slice oa n c := by obtain ⟨oa, n, c, rfl, _⟩ := hl1; exact ⟨_, _, _, rfl⟩
          obtain ⟨l1a, l1n, l1c, rfl⟩ := hl1'
          have R1 := R.sub a1 e1x ho1
          have z1x := e1x.size
          have LB1 := LB.ext e1x (R.loc _ hL4') (R.loc _ hL6')
          have k9 := k9.ext e1x (R.loc _ hL9')
          have hf := hf.mv (R.subQ e1x ho1)
          have hl := hl.mv (R.subQ e1x ho1)
          refine RW.op0 rfl rfl rfl (OpX.storeBlk H.sz124 rfl rfl k11 (by first | rfl | simp) (by first | decide | exact of_decide_eq_true rfl | (simp; done) | (simp; omega)) (by first | decide | simp [Value.oneCell'])) ?_
          rintro _ g3 ⟨rfl, k11, x3, z3x⟩
          have k11 : Blk g3 g1.size 124 [.bool out.1.null, .slice f1a f1n f1c, .slice l1a l1n l1c] := k11
          have e13 : Ext0 g1 g3 := Ext0.only e2x x3 (Nat.le_refl _)
          have R3' := R1.ext0 e13
          have LB3 := LB1.ext0 e13
          have k9 := k9.ext0 e13
          have hf := hf.mv (Mv.ext0 e13)
          have hl := hl.mv (Mv.ext0 e13)
          have hf1 : SlR .bool g3 (ruQ O rb vs1 vb L5) _ out.1.first := SlR.mv hf1 (Mv.ext0 e13)
          have hl1 : SlR .bool g3 (ruQ O rb vs1 vb L5) _ out.1.last := SlR.mv hl1 (Mv.ext0 e13)
          have hcpok := altPart_ok hpok hokx.1
          have hg1n : ¬ g1.size = h3.size := by omega
          have wmask : ∀ {ga gb : Heap} {w : Value} {xs : List Bool}, RuL O rb vs vb vl h L5 h5.size ga vs1 out.2 → OwE Value.bool gb ga.size 4 w xs → SlR .bool gb (ruQ O rb vs1 vb L5) w xs := fun R ho => OwE.read (h1 := fun _ => rfl) ho (fun b hb k => by have := R.qlt b k; omega)
          have hgl : ∀ {ga gb : Heap}, Ext0 ga gb → Ext (fun b => g3.size ≤ b) ga gb := fun e => e.mono (fun _ _ k => k.elim)
          have lf : p.first.length ≤ out.1.first.length := by rw [hpok.first, hokx.1.first]; exact Nat.le_refl _
          have ll : p.last.length ≤ out.1.last.length := by rw [hpok.last, hokx.1.last]; exact Nat.le_refl _
          have lfn : p.first.length ≤ 1000000 := by rw [hpok.first]; exact hn
          have lln : p.last.length ≤ 1000000 := by rw [hpok.last]; exact hn
          refine xd [0, 2, 4, 6, 12, 13, 14, 109] rfl ?_
          refine G.draw (fun b => Array.size g3 ≤ b) (fun i => Nat.blt i 17) (sz := 18) (listed := #[false, false, false, false, false, false, false, false, false, false, false, false, false, false, false, false, false, false]) Tryd.func63 H.mixed rfl rfl rfl ?_
          refine RD.takeS 0 (listed' := #[true, false, false, false, false, false, false, false, false, false, false, false, false, false, false, false, false, false]) rfl (by kernel_rfl) (by kernel_rfl) (by kernel_rfl) rfl rfl rfl (fun h' e => OpP.fieldAddr (off := 0) Tryd.underlying124 rfl rfl H.sz4 rfl) rfl ?_
          refine RD.takeS 1 (listed' := #[true, true, false, false, false, false, false, false, false, false, false, false, false, false, false, false, false, false]) rfl (by kernel_rfl) (by kernel_rfl) (by kernel_rfl) rfl rfl rfl (fun h' e => OpP.load H.ag4 rfl (e.old (k9.cell (i := 0) rfl))) rfl ?_
          refine RD.takeS 2 (listed' := #[true, true, true, false, false, false, false, false, false, false, false, false, false, false, false, false, false, false]) rfl (by kernel_rfl) (by kernel_rfl) (by kernel_rfl) rfl rfl rfl (fun h' e => OpP.move rfl) rfl ?_
          refine RD.takeS 6 (listed' := #[true, true, true, false, false, false, true, false, false, false, false, false, false, false, false, false, false, false]) rfl (by kernel_rfl) (by kernel_rfl) (by kernel_rfl) rfl rfl rfl (fun h' e => OpP.fieldAddr (off := 1) Tryd.underlying124 rfl rfl H.sz55 rfl) rfl ?_
          refine RD.split (d := 122) rfl (fun hg => ?_) (fun hg => ?_)
          · refine RD.skipS 3 (listed' := #[true, true, true, true, false, false, true, false, false, false, false, false, false, false, false, false, false, false]) rfl (by kernel_rfl) (by kernel_rfl) (by kernel_rfl) rfl rfl rfl rfl ?_
            refine RD.skipS 4 (listed' := #[true, true, true, true, true, false, true, false, false, false, false, false, false, false, false, false, false, false]) rfl (by kernel_rfl) (by kernel_rfl) (by kernel_rfl) rfl rfl rfl rfl ?_
            refine RD.takeS 5 (listed' := #[true, true, true, true, true, true, true, false, false, false, false, false, false, false, false, false, false, false]) rfl (by kernel_rfl) (by kernel_rfl) (by kernel_rfl) rfl rfl rfl (fun h' e => OpP.pickT rfl rfl) rfl ?_
            refine RD.takeS 7 (listed' := #[true, true, true, true, true, true, true, true, false, false, false, false, false, false, false, false, false, false]) rfl (by kernel_rfl) (by kernel_rfl) (by kernel_rfl) rfl rfl rfl (fun h' e => OpP.load H.ag55 rfl (e.old (k9.cell (i := 1) rfl))) rfl ?_
            refine RD.takeS 8 (listed' := #[true, true, true, true, true, true, true, true, true, false, false, false, false, false, false, false, false, false]) rfl (by kernel_rfl) (by kernel_rfl) (by kernel_rfl) rfl rfl rfl (fun h' e => OpP.fieldAddr (off := 1) Tryd.underlying124 rfl rfl H.sz55 rfl) rfl ?_
            refine RD.takeS 9 (listed' := #[true, true, true, true, true, true, true, true, true, true, false, false, false, false, false, false, false, false]) rfl (by kernel_rfl) (by kernel_rfl) (by kernel_rfl) rfl rfl rfl (fun h' e => OpP.load H.ag55 rfl (e.old (k11.cell (i := 1) rfl))) rfl ?_
            refine RD.takeS 11 (listed' := #[true, true, true, true, true, true, true, true, true, true, false, true, false, false, false, false, false, false]) rfl (by kernel_rfl) (by kernel_rfl) (by kernel_rfl) rfl rfl rfl (fun h' e => OpP.fieldAddr (off := 2) Tryd.underlying124 rfl rfl H.sz55 rfl) rfl ?_
            refine RD.takeS 12 (listed' := #[true, true, true, true, true, true, true, true, true, true, false, true, true, false, false, false, false, false]) rfl (by kernel_rfl) (by kernel_rfl) (by kernel_rfl) rfl rfl rfl (fun h' e => OpP.load H.ag55 rfl (e.old (k9.cell (i := 2) rfl))) rfl ?_
            refine RD.takeS 13 (listed' := #[true, true, true, true, true, true, true, true, true, true, false, true, true, true, false, false, false, false]) rfl (by kernel_rfl) (by kernel_rfl) (by kernel_rfl) rfl rfl rfl (fun h' e => OpP.fieldAddr (off := 2) Tryd.underlying124 rfl rfl H.sz55 rfl) rfl ?_
            refine RD.takeS 14 (listed' := #[true, true, true, true, true, true, true, true, true, true, false, true, true, true, true, false, false, false]) rfl (by kernel_rfl) (by kernel_rfl) (by kernel_rfl) rfl rfl rfl (fun h' e => OpP.load H.ag55 rfl (e.old (k11.cell (i := 2) rfl))) rfl ?_
            refine RD.oneS 10 (listed' := #[true, true, true, true, true, true, true, true, true, true, true, true, true, true, true, false, false, false]) rfl (by kernel_rfl) rfl rfl rfl (OpX.call (vs := [_, _]) Tryd.func64 rfl H.nm64 rfl (CallsH.toX (or_calls hf hf1 lf lfn))) rfl ?_
            rintro w5 g5 ⟨ho5, e5x⟩
            refine ⟨fun _ => hgl e5x, ?_⟩
            refine RD.oneS 15 (listed' := #[true, true, true, true, true, true, true, true, true, true, true, true, true, true, true, true, false, false]) rfl (by kernel_rfl) rfl rfl rfl (OpX.call (vs := [_, _]) Tryd.func64 rfl H.nm64 rfl (CallsH.toX (or_calls (hl.mv (Mv.ext0 e5x)) (hl1.mv (Mv.ext0 e5x)) ll lln))) rfl ?_
            rintro w6 g6 ⟨ho6, e6x⟩
            refine ⟨fun _ => hgl e6x, ?_⟩
            obtain ⟨wa, wc, rfl, _⟩ := (show OwnH g5 g3.size 4 1 w5 (orB p.first out.1.first).length ((orB p.first out.1.first).map Value.bool) from ho5).open
            obtain ⟨ua, uc, rfl, _⟩ := (show OwnH g6 g5.size 4 1 w6 (orB p.last out.1.last).length ((orB p.last out.1.last).map Value.bool) from ho6).open
            have R5x := R3'.ext0 e5x
            have R6x := R5x.ext0 e6x
            have hf2 := (wmask R3' ho5).mv (Mv.ext0 e6x)
            have hl2 := wmask R5x ho6
            have e36x := e5x.trans e6x
            refine RD.takeS 16 (listed' := #[true, true, true, true, true, true, true, true, true, true, true, true, true, true, true, true, true, false]) rfl (by kernel_rfl) (by kernel_rfl) (by kernel_rfl) rfl rfl rfl (fun h' e => OpP.build (H.bd124_0_1_2 _ _ _ _ _ _ _) rfl) rfl ?_
            refine RD.one0 17 (listed' := #[true, true, true, true, true, true, true, true, true, true, true, true, true, true, true, true, true, true]) rfl (by kernel_rfl) rfl rfl (OpX.storeBlk H.sz124 rfl rfl (k9.ext0 e36x) (by first | rfl | simp) (by first | decide | exact of_decide_eq_true rfl | (simp; done) | (simp; omega)) (by first | decide | simp [Value.oneCell'])) rfl ?_
            rintro _ g7 ⟨rfl, k9', x7, z7⟩
            refine ⟨fun hk => (nomatch hk), ?_⟩
            have k9' : Blk g7 h3.size 124 [.bool true, .slice wa (orB p.first out.1.first).length wc, .slice ua (orB p.last out.1.last).length uc] := k9'
            refine RD.done (by kernel_rfl) ?_
            refine xu [0, 2, 4, 6, 12, 13, 14, 109] rfl ?_
            refine G.blkEnd ?_
            refine G.reg Tryd.func63 rfl ?_
            refine xq rfl ?_
            refine xp rfl (OpP.add64 rfl rfl ⟨by omega, by omega⟩) ?_
            refine xq rfl ?_
            refine xd [0, 2, 4, 6, 12, 13, 14, 109] rfl ?_
            exact ih2 (i + 1) _ _ ⟨rfl, rfl, rfl, rfl, rfl, rfl, trivial⟩ ⟨by omega, vs1, altPart p out.1, _, _, _, _, _, _, _, R6x.put x7 hL9', (LB3.ext0 e36x).ext x7 (by show ¬ _ = _; omega) (by show ¬ _ = _; omega), by simp only [altPart, hg, Bool.true_or]; exact k9', hf2.mv (R6x.putQ x7 hL9'), hl2.mv (R6x.putQ x7 hL9'), hcpok, hokx.2.1, by omega, hcon⟩ (by omega)
          · refine RD.takeS 3 (listed' := #[true, true, true, true, false, false, true, false, false, false, false, false, false, false, false, false, false, false]) rfl (by kernel_rfl) (by kernel_rfl) (by kernel_rfl) rfl rfl rfl (fun h' e => OpP.fieldAddr (off := 0) Tryd.underlying124 rfl rfl H.sz4 rfl) rfl ?_
            refine RD.takeS 4 (listed' := #[true, true, true, true, true, false, true, false, false, false, false, false, false, false, false, false, false, false]) rfl (by kernel_rfl) (by kernel_rfl) (by kernel_rfl) rfl rfl rfl (fun h' e => OpP.load H.ag4 rfl (e.old (k11.cell (i := 0) rfl))) rfl ?_
            refine RD.takeS 5 (listed' := #[true, true, true, true, true, true, true, false, false, false, false, false, false, false, false, false, false, false]) rfl (by kernel_rfl) (by kernel_rfl) (by kernel_rfl) rfl rfl rfl (fun h' e => OpP.pickF rfl rfl) rfl ?_
            refine RD.takeS 7 (listed' := #[true, true, true, true, true, true, true, true, false, false, false, false, false, false, false, false, false, false]) rfl (by kernel_rfl) (by kernel_rfl) (by kernel_rfl) rfl rfl rfl (fun h' e => OpP.load H.ag55 rfl (e.old (k9.cell (i := 1) rfl))) rfl ?_
            refine RD.takeS 8 (listed' := #[true, true, true, true, true, true, true, true, true, false, false, false, false, false, false, false, false, false]) rfl (by kernel_rfl) (by kernel_rfl) (by kernel_rfl) rfl rfl rfl (fun h' e => OpP.fieldAddr (off := 1) Tryd.underlying124 rfl rfl H.sz55 rfl) rfl ?_
            refine RD.takeS 9 (listed' := #[true, true, true, true, true, true, true, true, true, true, false, false, false, false, false, false, false, false]) rfl (by kernel_rfl) (by kernel_rfl) (by kernel_rfl) rfl rfl rfl (fun h' e => OpP.load H.ag55 rfl (e.old (k11.cell (i := 1) rfl))) rfl ?_
            refine RD.takeS 11 (listed' := #[true, true, true, true, true, true, true, true, true, true, false, true, false, false, false, false, false, false]) rfl (by kernel_rfl) (by kernel_rfl) (by kernel_rfl) rfl rfl rfl (fun h' e => OpP.fieldAddr (off := 2) Tryd.underlying124 rfl rfl H.sz55 rfl) rfl ?_
            refine RD.takeS 12 (listed' := #[true, true, true, true, true, true, true, true, true, true, false, true, true, false, false, false, false, false]) rfl (by kernel_rfl) (by kernel_rfl) (by kernel_rfl) rfl rfl rfl (fun h' e => OpP.load H.ag55 rfl (e.old (k9.cell (i := 2) rfl))) rfl ?_
            refine RD.takeS 13 (listed' := #[true, true, true, true, true, true, true, true, true, true, false, true, true, true, false, false, false, false]) rfl (by kernel_rfl) (by kernel_rfl) (by kernel_rfl) rfl rfl rfl (fun h' e => OpP.fieldAddr (off := 2) Tryd.underlying124 rfl rfl H.sz55 rfl) rfl ?_
            refine RD.takeS 14 (listed' := #[true, true, true, true, true, true, true, true, true, true, false, true, true, true, true, false, false, false]) rfl (by kernel_rfl) (by kernel_rfl) (by kernel_rfl) rfl rfl rfl (fun h' e => OpP.load H.ag55 rfl (e.old (k11.cell (i := 2) rfl))) rfl ?_
            refine RD.oneS 10 (listed' := #[true, true, true, true, true, true, true, true, true, true, true, true, true, true, true, false, false, false]) rfl (by kernel_rfl) rfl rfl rfl (OpX.call (vs := [_, _]) Tryd.func64 rfl H.nm64 rfl (CallsH.toX (or_calls hf hf1 lf lfn))) rfl ?_
            rintro w5 g5 ⟨ho5, e5x⟩
            refine ⟨fun _ => hgl e5x, ?_⟩
            refine RD.oneS 15 (listed' := #[true, true, true, true, true, true, true, true, true, true, true, true, true, true, true, true, false, false]) rfl (by kernel_rfl) rfl rfl rfl (OpX.call (vs := [_, _]) Tryd.func64 rfl H.nm64 rfl (CallsH.toX (or_calls (hl.mv (Mv.ext0 e5x)) (hl1.mv (Mv.ext0 e5x)) ll lln))) rfl ?_
            rintro w6 g6 ⟨ho6, e6x⟩
            refine ⟨fun _ => hgl e6x, ?_⟩
            obtain ⟨wa, wc, rfl, _⟩ := (show OwnH g5 g3.size 4 1 w5 (orB p.first out.1.first).length ((orB p.first out.1.first).map Value.bool) from ho5).open
            obtain ⟨ua, uc, rfl, _⟩ := (show OwnH g6 g5.size 4 1 w6 (orB p.last out.1.last).length ((orB p.last out.1.last).map Value.bool) from ho6).open
            have R5x := R3'.ext0 e5x
            have R6x := R5x.ext0 e6x
            have hf2 := (wmask R3' ho5).mv (Mv.ext0 e6x)
            have hl2 := wmask R5x ho6
            have e36x := e5x.trans e6x
            refine RD.takeS 16 (listed' := #[true, true, true, true, true, true, true, true, true, true, true, true, true, true, true, true, true, false]) rfl (by kernel_rfl) (by kernel_rfl) (by kernel_rfl) rfl rfl rfl (fun h' e => OpP.build (H.bd124_0_1_2 _ _ _ _ _ _ _) rfl) rfl ?_
            refine RD.one0 17 (listed' := #[true, true, true, true, true, true, true, true, true, true, true, true, true, true, true, true, true, true]) rfl (by kernel_rfl) rfl rfl (OpX.storeBlk H.sz124 rfl rfl (k9.ext0 e36x) (by first | rfl | simp) (by first | decide | exact of_decide_eq_true rfl | (simp; done) | (simp; omega)) (by first | decide | simp [Value.oneCell'])) rfl ?_
            rintro _ g7 ⟨rfl, k9', x7, z7⟩
            refine ⟨fun hk => (nomatch hk), ?_⟩
            have k9' : Blk g7 h3.size 124 [.bool out.1.null, .slice wa (orB p.first out.1.first).length wc, .slice ua (orB p.last out.1.last).length uc] := k9'
            refine RD.done (by kernel_rfl) ?_
            refine xu [0, 2, 4, 6, 12, 13, 14, 109] rfl ?_
            refine G.blkEnd ?_
            refine G.reg Tryd.func63 rfl ?_
            refine xq rfl ?_
            refine xp rfl (OpP.add64 rfl rfl ⟨by omega, by omega⟩) ?_
            refine xq rfl ?_
            refine xd [0, 2, 4, 6, 12, 13, 14, 109] rfl ?_
            exact ih2 (i + 1) _ _ ⟨rfl, rfl, rfl, rfl, rfl, rfl, trivial⟩ ⟨by omega, vs1, altPart p out.1, _, _, _, _, _, _, _, R6x.put x7 hL9', (LB3.ext0 e36x).ext x7 (by show ¬ _ = _; omega) (by show ¬ _ = _; omega), by simp only [altPart, hg, Bool.false_or]; exact k9', hf2.mv (R6x.putQ x7 hL9'), hl2.mv (R6x.putQ x7 hL9'), hcpok, hokx.2.1, by omega, hcon⟩ (by omega)
        · have hnil : kids.drop i = [] := List.drop_of_length_le (by omega)
          rw [hnil, gluAlt] at hcon
          refine G.exit rfl rfl ?_
          refine xr Tryd.func63 rfl ?_
          refine xp rfl (OpP.loadRowN H.ag124 H.sz124 rfl k9.row (by first | rfl | simp)) ?_
          refine RW.op0 rfl rfl rfl (OpX.storeBlk H.sz124 rfl rfl LB.k6 (by first | rfl | simp) (by first | decide | exact of_decide_eq_true rfl | (simp; done) | (simp; omega)) (by first | decide | simp [Value.oneCell'])) ?_
          rintro _ g9 ⟨rfl, hk9, hx9, hz9⟩
          refine xd [0, 2, 4, 6, 12, 13, 109] rfl ?_
          have hk9 : Blk g9 h1.size 124 [.bool p.null, .slice fa fn fc, .slice la ln lc] := hk9
          refine G.retC Tryd.func63 rfl (.cons (ResOk.rowN H.ag124 H.sz124 rfl (hk9.row) (by first | rfl | simp)) (.nil)) ?_
          subst hcon
          exact ⟨_, rfl, (R.put hx9 hL6').fin (hf.mv (R.putQ hx9 hL6')) (hl.mv (R.putQ hx9 hL6'))⟩
      · have h3k' : ¬ k = 3 := kkR h3k
        refine G.seq rfl ?_
        refine xr Tryd.func63 rfl ?_
        iterate 2 refine xq rfl ?_
        refine xd [0, 1, 2, 4, 6, 7, 20, 21, 47, 100, 138] rfl ?_
        have st45 : ∀ (b45 : Bool) (h' : Heap) (ρ' : Env), Sub [(0, .pointer (some ⟨rb, 0, none⟩)), (2, .int .i64 (n : Nat)), (4, .pointer (some ⟨h.size, 0, none⟩)), (6, .pointer (some ⟨h1.size, 0, none⟩)), (7, .slice (some ⟨h2.size, 0, none⟩) n n), (20, .int .i64 (k : Nat)), (138, .bool b45)] ρ' → h' = h3 → b45 = decide (k = 4 ∨ k = 5) → G Tryd.prog 63 Tryd.f63 [.code [1, 1, 1, 1, 1, 1, 1, 0, 1, 0, 1, 1], .blk 0, .code [1, 1, 1]] ρ' h' (Ret (LayRV O rb h vs vb vl (glu n (.mk k s kids) st))) := by
          rintro b45 h3' ρ' hsub rfl hb45
          refine G.sub (ρ' := [(0, .pointer (some ⟨rb, 0, none⟩)), (2, .int .i64 (n : Nat)), (4, .pointer (some ⟨h.size, 0, none⟩)), (6, .pointer (some ⟨h1.size, 0, none⟩)), (7, .slice (some ⟨h2.size, 0, none⟩) n n), (20, .int .i64 (k : Nat)), (138, .bool b45)]) hsub ?_
          refine G.cond rfl rfl (fun h45 => ?_) (fun h45 => ?_)
          · have hk45 : k = 4 ∨ k = 5 := by rw [h45] at hb45; exact of_decide_eq_true hb45.symm
            have hone : kids.length = 1 := by
              rcases hk45 with rfl | rfl <;> (simp [wfN] at hw; exact hw.1)
            obtain ⟨x, rfl⟩ : ∃ x, kids = [x] := by match kids, hone with | [x], _ => exact ⟨x, rfl⟩
            have hkn1 : kn = 1 := by simpa using hkn.symm
            have hszx : szN x ≤ szL [x] := by simp [szL]
            have hcx : cnt x ≤ cntL [x] := by simp [cntL]
            have hwx : wfN x = true := by simpa [wfL] using hwl
            have hglu : glu n (.mk k s [x]) st = (⟨(glu n x st).1.null || k == 4, (glu n x st).1.first, (glu n x st).1.last⟩, ((glu n x st).2.1, followB (glu n x st).1.last (glu n x st).1.first (glu n x st).2.2)) := by rw [glu]; simp [gluOne, h1k', h2k', h3k', hk45]
            rw [hglu]
            have hokx := glu_ok n x st hok
            obtain ⟨b, o, cs, ha, hob, hrow, hnd⟩ := (hsl.mv (Mv.ext0 e03)).get 0 x rfl
            obtain ⟨w2, rfl, -⟩ := NdAt.open hnd
            have hO3 : ∀ b, ruO O L2 b → b < h3'.size := fun b hb => R3.qlt b (.inr hb)
            refine xr Tryd.func63 rfl ?_
            refine xq rfl ?_
            refine xp rfl (OpP.fieldAddr (off := 5) Tryd.underlying94 rfl rfl H.sz92 rfl) ?_
            refine xp rfl (OpP.load H.ag92 rfl (q4.cell (i := 5) rfl)) ?_
            refine xp rfl (OpP.indexSlice Tryd.underlying92 H.sz94 rfl rfl 0 rfl ha (by omega)) ?_
            refine xp rfl (OpP.loadRowN H.ag94 H.sz94 rfl hrow (by first | rfl | simp)) ?_
            refine xq rfl ?_
            refine xo rfl (OpX.call (vs := [_, _, _]) Tryd.func63 rfl H.nm63 rfl (CallsH.toX (ih (x := x) (O := ruO O L2) (by omega) R3.at_ hO3 hnd hwx hok (by omega) hn))) ?_
            rintro _ h5 ⟨vs5, f5, l5, rfl, a5, hf5, hl5, e5, ho5⟩
            refine xo rfl (OpX.allocN H.zr124) ?_
            rintro _ h6 ⟨rfl, k15, e6, z6⟩
            generalize glu n x st = out at *
            have hf1 : ∃ oa n c, f5 = .slice oa n c := by obtain ⟨oa, n, c, rfl, _⟩ := hf5; exact ⟨_, _, _, rfl⟩
            obtain ⟨fa, fn, fc, rfl⟩ := hf1
            have hl1 : ∃ oa n c, l5 = .slice oa n c := by obtain ⟨oa, n, c, rfl, _⟩ := hl5; exact ⟨_, _, _, rfl⟩
            obtain ⟨la, ln, lc, rfl⟩ := hl1
            have R5 := R3.sub a5 e5 ho5
            have z5 := e5.size
            have q4 := (q4.ext e5 (R3.loc _ hLn)).ext0 e6
            have q6 := (q6.ext e5 (R3.loc _ hLp)).ext0 e6
            refine RW.op0 rfl rfl rfl (OpX.storeBlk H.sz124 rfl rfl k15 (by first | rfl | simp) (by first | decide | exact of_decide_eq_true rfl | (simp; done) | (simp; omega)) (by first | decide | simp [Value.oneCell'])) ?_
            rintro _ h7 ⟨rfl, k15, x7, z7⟩
            have k15 : Blk h7 h5.size 124 [.bool out.1.null, .slice fa fn fc, .slice la ln lc] := k15
            have e57 : Ext0 h5 h7 := Ext0.only e6 x7 (Nat.le_refl _)
            have q4 := q4.ext x7 (by show ¬ _ = _; omega)
            have q6 := q6.ext x7 (by show ¬ _ = _; omega)
            have R7 := R5.ext0 e57
            have hf7 : SlR .bool h7 (ruQ O rb vs5 vb L2) _ out.1.first := SlR.mv hf5 (Mv.ext0 e57)
            have hl7 : SlR .bool h7 (ruQ O rb vs5 vb L2) _ out.1.last := SlR.mv hl5 (Mv.ext0 e57)
            refine xd [0, 2, 4, 6, 7, 15, 20, 138] rfl ?_
            refine xr Tryd.func63 rfl ?_
            refine xq rfl ?_
            refine xp rfl (OpP.fieldAddr (off := 2) Tryd.underlying124 rfl rfl H.sz55 rfl) ?_
            refine xp rfl (OpP.load H.ag55 rfl (k15.cell (i := 2) rfl)) ?_
            refine xp rfl (OpP.fieldAddr (off := 1) Tryd.underlying124 rfl rfl H.sz55 rfl) ?_
            refine xp rfl (OpP.load H.ag55 rfl (k15.cell (i := 1) rfl)) ?_
            refine xo rfl (OpX.call (vs := [_, _, _]) Tryd.func81 rfl H.nm81 rfl (CallsH.toX (follow_calls R7.at_ (fun b hb => R7.qlt b (.inr hb)) (SlR.less hl7 (fun _ k => .inl k)) (SlR.less hf7 (fun _ k => .inl k)) hokx.2.1 hokx.1.last hokx.1.first hn))) ?_
            rintro _ h8 ⟨a8, e8⟩
            have R8 := R7.fol a8 e8
            have hf8 := hf7.mv (R7.folQ e8)
            have hl8 := hl7.mv (R7.folQ e8)
            have hvb := hr.ownB
            have k15 := k15.ext e8 (fun k => by have := hvb _ k.symm; omega)
            have q4 := q4.ext e8 (fun k => by have := hvb _ k.symm; omega)
            have q6 := q6.ext e8 (fun k => by have := hvb _ k.symm; omega)
            refine xd [0, 2, 4, 6, 7, 15, 20, 138] rfl ?_
            refine xr Tryd.func63 rfl ?_
            refine xp rfl (OpP.fieldAddr (off := 0) Tryd.underlying124 rfl rfl H.sz4 rfl) ?_
            refine xp rfl (OpP.load H.ag4 rfl (k15.cell (i := 0) rfl)) ?_
            refine xq rfl ?_
            refine RW.split (d := 156) rfl (fun hg => ?_) (fun hg => ?_)
            · iterate 3 refine xk rfl ?_
              refine xq rfl ?_
              refine xp rfl (OpP.fieldAddr (off := 1) Tryd.underlying124 rfl rfl H.sz55 rfl) ?_
              refine xp rfl (OpP.load H.ag55 rfl (k15.cell (i := 1) rfl)) ?_
              refine xp rfl (OpP.fieldAddr (off := 2) Tryd.underlying124 rfl rfl H.sz55 rfl) ?_
              refine xp rfl (OpP.load H.ag55 rfl (k15.cell (i := 2) rfl)) ?_
              refine xp rfl (OpP.build (H.bd124_0_1_2 _ _ _ _ _ _ _) rfl) ?_
              refine RW.op0 rfl rfl rfl (OpX.storeBlk H.sz124 rfl rfl q6 (by first | rfl | simp) (by first | decide | exact of_decide_eq_true rfl | (simp; done) | (simp; omega)) (by first | decide | simp [Value.oneCell'])) ?_
              rintro _ h9 ⟨rfl, hk9, hx9, hz9⟩
              refine xd [0, 2, 4, 6, 7, 15, 20, 138] rfl ?_
              have hk9 : Blk h9 h1.size 124 [.bool true, .slice fa fn fc, .slice la ln lc] := hk9
              refine G.retC Tryd.func63 rfl (.cons (ResOk.rowN H.ag124 H.sz124 rfl (hk9.row) (by first | rfl | simp)) (.nil)) ?_
              have R9 := R8.put hx9 hLp
              have hfin := R9.fin (p := ⟨out.1.null || k == 4, out.1.first, out.1.last⟩) (hf8.mv (R8.putQ hx9 hLp)) (hl8.mv (R8.putQ hx9 hLp))
              simp only [hg, Bool.true_or] at hfin ⊢
              exact ⟨_, rfl, hfin⟩
            · refine xp rfl (OpP.fieldAddr (off := 0) Tryd.underlying94 rfl rfl H.sz3 rfl) ?_
              refine xp rfl (OpP.load H.ag3 rfl (q4.cell (i := 0) rfl)) ?_
              iterate 2 refine xq rfl ?_
              refine xp rfl (OpP.fieldAddr (off := 1) Tryd.underlying124 rfl rfl H.sz55 rfl) ?_
              refine xp rfl (OpP.load H.ag55 rfl (k15.cell (i := 1) rfl)) ?_
              refine xp rfl (OpP.fieldAddr (off := 2) Tryd.underlying124 rfl rfl H.sz55 rfl) ?_
              refine xp rfl (OpP.load H.ag55 rfl (k15.cell (i := 2) rfl)) ?_
              refine xp rfl (OpP.build (H.bd124_0_1_2 _ _ _ _ _ _ _) rfl) ?_
              refine RW.op0 rfl rfl rfl (OpX.storeBlk H.sz124 rfl rfl q6 (by first | rfl | simp) (by first | decide | exact of_decide_eq_true rfl | (simp; done) | (simp; omega)) (by first | decide | simp [Value.oneCell'])) ?_
              rintro _ h9 ⟨rfl, hk9, hx9, hz9⟩
              refine xd [0, 2, 4, 6, 7, 15, 20, 138] rfl ?_
              have hk9 : Blk h9 h1.size 124 [.bool (decide ((k : Int) = 4)), .slice fa fn fc, .slice la ln lc] := hk9
              refine G.retC Tryd.func63 rfl (.cons (ResOk.rowN H.ag124 H.sz124 rfl (hk9.row) (by first | rfl | simp)) (.nil)) ?_
              have R9 := R8.put hx9 hLp
              have hfin := R9.fin (p := ⟨out.1.null || k == 4, out.1.first, out.1.last⟩) (hf8.mv (R8.putQ hx9 hLp)) (hl8.mv (R8.putQ hx9 hLp))
              have hkd : (k == 4) = decide ((k : Int) = 4) := by rcases hk45 with rfl | rfl <;> rfl
              simp only [hg, Bool.false_or, hkd] at hfin ⊢
              exact ⟨_, rfl, hfin⟩
          · have hk45 : ¬ (k = 4 ∨ k = 5) := by rw [h45] at hb45; exact of_decide_eq_false hb45.symm
            refine xr Tryd.func63 rfl ?_
            iterate 2 refine xq rfl ?_
            refine xd [0, 2, 4, 6, 7, 20, 138, 166] rfl ?_
            refine G.ite rfl rfl (fun h6k => ?_) (fun h6k => ?_)
            · obtain rfl : k = 6 := by omega
              have hone : kids.length = 1 := by simp [wfN] at hw; exact hw.1
              obtain ⟨x, rfl⟩ : ∃ x, kids = [x] := by match kids, hone with | [x], _ => exact ⟨x, rfl⟩
              have hkn1 : kn = 1 := by simpa using hkn.symm
              have hszx : szN x ≤ szL [x] := by simp [szL]
              have hcx : cnt x ≤ cntL [x] := by simp [cntL]
              have hwx : wfN x = true := by simpa [wfL] using hwl
              have hglu : glu n (.mk 6 s [x]) st = (⟨true, (glu n x st).1.first, (glu n x st).1.last⟩, (glu n x st).2) := by rw [glu]; simp [gluOne]
              rw [hglu]
              have hokx := glu_ok n x st hok
              obtain ⟨b, o, cs, ha, hob, hrow, hnd⟩ := (hsl.mv (Mv.ext0 e03)).get 0 x rfl
              obtain ⟨w2, rfl, -⟩ := NdAt.open hnd
              have hO3 : ∀ b, ruO O L2 b → b < h3'.size := fun b hb => R3.qlt b (.inr hb)
              refine xr Tryd.func63 rfl ?_
              refine xq rfl ?_
              refine xp rfl (OpP.fieldAddr (off := 5) Tryd.underlying94 rfl rfl H.sz92 rfl) ?_
              refine xp rfl (OpP.load H.ag92 rfl (q4.cell (i := 5) rfl)) ?_
              refine xp rfl (OpP.indexSlice Tryd.underlying92 H.sz94 rfl rfl 0 rfl ha (by omega)) ?_
              refine xp rfl (OpP.loadRowN H.ag94 H.sz94 rfl hrow (by first | rfl | simp)) ?_
              refine xq rfl ?_
              refine xo rfl (OpX.call (vs := [_, _, _]) Tryd.func63 rfl H.nm63 rfl (CallsH.toX (ih (x := x) (O := ruO O L2) (by omega) R3.at_ hO3 hnd hwx hok (by omega) hn))) ?_
              rintro _ h5 ⟨vs5, f5, l5, rfl, a5, hf5, hl5, e5, ho5⟩
              refine xo rfl (OpX.allocN H.zr124) ?_
              rintro _ h6 ⟨rfl, k15, e6, z6⟩
              generalize glu n x st = out at *
              have hf1 : ∃ oa n c, f5 = .slice oa n c := by obtain ⟨oa, n, c, rfl, _⟩ := hf5; exact ⟨_, _, _, rfl⟩
              obtain ⟨fa, fn, fc, rfl⟩ := hf1
              have hl1 : ∃ oa n c, l5 = .slice oa n c := by obtain ⟨oa, n, c, rfl, _⟩ := hl5; exact ⟨_, _, _, rfl⟩
              obtain ⟨la, ln, lc, rfl⟩ := hl1
              have R5 := R3.sub a5 e5 ho5
              have z5 := e5.size
              have q6 := (q6.ext e5 (R3.loc _ hLp)).ext0 e6
              refine RW.op0 rfl rfl rfl (OpX.storeBlk H.sz124 rfl rfl k15 (by first | rfl | simp) (by first | decide | exact of_decide_eq_true rfl | (simp; done) | (simp; omega)) (by first | decide | simp [Value.oneCell'])) ?_
              rintro _ h7 ⟨rfl, k15, x7, z7⟩
              have k15 : Blk h7 h5.size 124 [.bool out.1.null, .slice fa fn fc, .slice la ln lc] := k15
              have e57 : Ext0 h5 h7 := Ext0.only e6 x7 (Nat.le_refl _)
              have q6 := q6.ext x7 (by show ¬ _ = _; omega)
              have R7 := R5.ext0 e57
              have hf7 : SlR .bool h7 (ruQ O rb vs5 vb L2) _ out.1.first := SlR.mv hf5 (Mv.ext0 e57)
              have hl7 : SlR .bool h7 (ruQ O rb vs5 vb L2) _ out.1.last := SlR.mv hl5 (Mv.ext0 e57)
              refine xd [0, 2, 4, 6, 7, 16, 20, 138, 166] rfl ?_
              refine xr Tryd.func63 rfl ?_
              refine xp rfl (OpP.fieldAddr (off := 1) Tryd.underlying124 rfl rfl H.sz55 rfl) ?_
              refine xp rfl (OpP.load H.ag55 rfl (k15.cell (i := 1) rfl)) ?_
              refine xp rfl (OpP.fieldAddr (off := 2) Tryd.underlying124 rfl rfl H.sz55 rfl) ?_
              refine xp rfl (OpP.load H.ag55 rfl (k15.cell (i := 2) rfl)) ?_
              refine xp rfl (OpP.build (H.bd124_0_1_2 _ _ _ _ _ _ _) rfl) ?_
              refine RW.op0 rfl rfl rfl (OpX.storeBlk H.sz124 rfl rfl q6 (by first | rfl | simp) (by first | decide | exact of_decide_eq_true rfl | (simp; done) | (simp; omega)) (by first | decide | simp [Value.oneCell'])) ?_
              rintro _ h9 ⟨rfl, hk9, hx9, hz9⟩
              refine xd [0, 2, 4, 6, 7, 16, 20, 138, 166] rfl ?_
              have hk9 : Blk h9 h1.size 124 [.bool true, .slice fa fn fc, .slice la ln lc] := hk9
              refine G.retC Tryd.func63 rfl (.cons (ResOk.rowN H.ag124 H.sz124 rfl (hk9.row) (by first | rfl | simp)) (.nil)) ?_
              have R9 := R7.put hx9 hLp
              exact ⟨_, rfl, R9.fin (p := ⟨true, out.1.first, out.1.last⟩) (hf7.mv (R7.putQ hx9 hLp)) (hl7.mv (R7.putQ hx9 hLp))⟩
            · have h6k' : ¬ k = 6 := kkR h6k
              have hglu : glu n (.mk k s kids) st = (⟨true, nob n, nob n⟩, st) := by rw [glu]; simp [h1k', h2k', h3k', hk45, h6k']
              rw [hglu]
              refine G.skip rfl ?_
              refine G.blkEnd ?_
              refine xr Tryd.func63 rfl ?_
              iterate 2 refine xq rfl ?_
              refine xp rfl (OpP.build (H.bd124_0_1_2 _ _ _ _ _ _ _) rfl) ?_
              refine RW.op0 rfl rfl rfl (OpX.storeBlk H.sz124 rfl rfl q6 (by first | rfl | simp) (by first | decide | exact of_decide_eq_true rfl | (simp; done) | (simp; omega)) (by first | decide | simp [Value.oneCell'])) ?_
              rintro _ h9 ⟨rfl, hk9, hx9, hz9⟩
              refine xd [0, 2, 4, 6, 7, 20, 138, 166] rfl ?_
              have hk9 : Blk h9 h1.size 124 [.bool true, .slice (some ⟨h2.size, 0, none⟩) n n, .slice (some ⟨h2.size, 0, none⟩) n n] := hk9
              refine G.retC Tryd.func63 rfl (.cons (ResOk.rowN H.ag124 H.sz124 rfl (hk9.row) (by first | rfl | simp)) (.nil)) ?_
              have R9 := R3.put hx9 hLp
              have hnb : SlR .bool h3' (ruQ O rb vs vb L2) (.slice (some ⟨h2.size, 0, none⟩) n n) (nob n) := OwE.read (h1 := fun _ => rfl) q7 (fun b hb k => by
                rcases k with k | k | k
                · have := hltM b k; omega
                · have := hO b k; omega
                · rw [← hLe] at k; rcases k with k | k <;> omega)
              exact ⟨_, rfl, R9.fin (p := ⟨true, nob n, nob n⟩) (hnb.mv (R3.putQ hx9 hLp)) (hnb.mv (R3.putQ hx9 hLp))⟩
        refine G.ite rfl rfl (fun h4k => ?_) (fun h4k => ?_)
        · have h4k' : k = 4 := by omega
          refine G.skip rfl ?_
          exact st45 (decide ((k : Int) = 4)) _ _ ⟨rfl, rfl, rfl, rfl, rfl, rfl, rfl, trivial⟩ rfl (by simp [h4k'])
        · have h4k' : ¬ k = 4 := kkR h4k
          refine G.reg Tryd.func63 rfl ?_
          iterate 2 refine xq rfl ?_
          refine xd [0, 1, 2, 4, 6, 7, 20, 21, 47, 100, 138] rfl ?_
          exact st45 (decide ((k : Int) = 5)) _ _ ⟨rfl, rfl, rfl, rfl, rfl, rfl, rfl, trivial⟩ rfl (by simp only [decide_eq_decide]; omega)
theorem layR_ok : ∀ m, LayROk m := by
  intro m
  induction m with
  | zero => intro x h O rb vs vb vl w st n hsz; have := szN_pos x; omega
  | succ m ih => exact layR_kind ih
def eSet : Elt Nat := .record 4 (by decide) encSet (fun _ => rfl) (fun x v hv => by simp [encSet] at hv; rcases hv with rfl | rfl | rfl | rfl <;> rfl)
def RuRd (h : Heap) (O : Nat → Prop) (rb : Nat) (r : RuP) : Prop :=
  ∃ vs vb vl, ¬ O rb ∧ Blk h rb 57 [vs, vb, vl] ∧ SlR eSet h O vs r.sets ∧ SlR eRow h O vb r.behind ∧ SlR .bool h O vl r.last
theorem RuRd.mv {h h' : Heap} {O O' : Nat → Prop} {rb : Nat} {r : RuP} (k : RuRd h O rb r) (m : Mv O O' h h') : RuRd h' O' rb r := by
  obtain ⟨vs, vb, vl, ho, hk, h1, h2, h3⟩ := k
  have hm := m.block rb hk.lt ho
  exact ⟨vs, vb, vl, hm.2, hm.1.trans hk, h1.mv m, h2.mv m, h3.mv m⟩
theorem of_calls {h : Heap} {O : Nat → Prop} {x : Nd} {w : Value} (hx : NdAt h O (ndC x.kind x.set w) x) (hw : wfN x = true) (hsz : szN x ≤ 500000) :
    CallsH Tryd.prog 43 #[.agg (ndC x.kind x.set w).toArray] h (Ret fun r h' => ∃ rb, r = .pointer (some ⟨rb, 0, none⟩) ∧ RuRd h' (fun b => b < h.size) rb (ofP x) ∧ Ext0 h h') := by
  have hcs := cnt_sz x
  have hx := hx.mv (O' := fun b => O b ∨ h.size ≤ b) ⟨Nat.le_refl _, fun b hb hn => ⟨rfl, fun k => k.elim hn (fun k => by omega)⟩⟩
  refine CallsH.of Tryd.func43 rfl rfl ?_
  refine xr Tryd.func43 rfl ?_
  refine xo rfl (OpX.boxN rfl) ?_
  rintro _ h1 ⟨rfl, k1, e1, z1⟩
  have k1 : Blk h1 h.size 94 (ndC x.kind x.set w) := k1
  refine xq rfl ?_
  refine xd [0, 1, 2] rfl ?_
  refine xr Tryd.func43 rfl ?_
  refine xp rfl (OpP.loadRowN H.ag94 H.sz94 rfl k1.row (by first | rfl | simp)) ?_
  refine xo rfl (OpX.call (vs := [_]) Tryd.func62 rfl H.nm62 rfl (CallsH.toX (count_ok _ (x := x) (Nat.le_refl _) (by omega) (hx.ext0 e1)))) ?_
  rintro _ h2 ⟨rfl, e2⟩
  refine xp rfl (OpP.add64 rfl rfl ⟨by omega, by omega⟩) ?_
  refine xq rfl ?_
  refine xd [0, 1, 2, 3] rfl ?_
  refine xr Tryd.func43 rfl ?_
  refine xp rfl (OpP.build (H.bd60_ ) rfl) ?_
  refine xo rfl (OpX.buildRec (cs := [_, _, _, _]) Tryd.underlying53 H.el60 rfl rfl (by decide)) ?_
  rintro _ _ ⟨rfl, rfl⟩
  refine xp rfl (OpP.build (H.bd57_0 _ _ _) rfl) ?_
  refine xo rfl (OpX.boxN rfl) ?_
  rintro _ h4 ⟨rfl, k4, e4, z4⟩
  have q3 : OwR 4 encSet (h2.push (.cells #[.int .u64 0, .int .u64 0, .int .u64 0, .int .u64 0] 60)) 0 60 (.slice (some ⟨h2.size, 0, none⟩) 1 1) [0] := OwR.made1 (fun _ => rfl) h2 0 60 0 (Nat.zero_le _) (cs := [.int .u64 0, .int .u64 0, .int .u64 0, .int .u64 0]) (by simp [encSet, encW0])
  have e3 : Ext0 h2 (h2.push (.cells #[.int .u64 0, .int .u64 0, .int .u64 0, .int .u64 0] 60)) := Ext.push _ _ _
  have z3 : (h2.push (.cells #[.int .u64 0, .int .u64 0, .int .u64 0, .int .u64 0] 60)).size = h2.size + 1 := by simp
  generalize h2.push (.cells #[.int .u64 0, .int .u64 0, .int .u64 0, .int .u64 0] 60) = h3 at *
  have k4 : Blk h4 h3.size 57 [.slice (some ⟨h2.size, 0, none⟩) 1 1, .slice none 0 0, .slice none 0 0] := k4
  have hz2 := e2.size
  have e04 : Ext0 h h4 := ((e1.trans e2).trans e3).trans e4
  have a4 : RuAt h4 (fun b => b < h.size) h3.size (.slice (some ⟨h2.size, 0, none⟩) 1 1) (.slice none 0 0) (.slice none 0 0) ([0], []) :=
    ⟨k4, OwR.ext0 q3 e4, OwX.nil _ _ _ _ _, fun b _ hb => (by cases hb), fun hb => (by simp [Value.ownBlock] at hb; omega), fun hb => (by cases hb)⟩
  have k1 := ((k1.ext0 e2).ext0 e3).ext0 e4
  have hn : cnt x + 1 ≤ 1000000 := by omega
  generalize hnn : cnt x + 1 = n at *
  have hnn' : ((cnt x : Nat) : Int) + 1 = (n : Nat) := by omega
  rw [hnn']
  refine xq rfl ?_
  refine xd [0, 1, 2, 3, 4] rfl ?_
  refine G.seq rfl ?_
  refine xr Tryd.func43 rfl ?_
  refine xq rfl ?_
  refine xd [0, 1, 2, 3, 4, 5] rfl ?_
  refine G.block rfl rfl ?_
  refine G.loop (σ := Nat × Option Addr × Nat) (fun q => [(3, .int .i64 (n : Nat)), (4, .pointer (some ⟨h3.size, 0, none⟩)), (5, .int .i64 (q.1 : Nat)), (1, .pointer (some ⟨h.size, 0, none⟩))]) (fun q h' => q.1 ≤ n ∧ RuAt h' (fun b => b < h.size) h3.size (.slice (some ⟨h2.size, 0, none⟩) 1 1) (.slice q.2.1 q.1 q.2.2) (.slice none 0 0) ([0], List.replicate q.1 (nob n)) ∧ Ext0 h h' ∧ Blk h' h.size 94 (ndC x.kind x.set w) ∧ h4.size ≤ h'.size ∧ (∀ b, (Value.slice q.2.1 q.1 q.2.2).ownBlock = some b → h4.size ≤ b)) (fun q => n - q.1) ((0, none, 0)) rfl ⟨rfl, rfl, rfl, rfl, trivial⟩ ⟨Nat.zero_le _, a4, e04, k1, Nat.le_refl _, fun b hb => (by cases hb)⟩ ?_
  rintro ⟨i, ba, bc⟩ g ⟨hi, ag, eg, kg, hgz, hvn⟩ ih
  try dsimp only
  dsimp only at hi ag hvn
  have hown := ag.ownB
  refine G.seq rfl ?_
  refine xr Tryd.func43 rfl ?_
  iterate 3 refine xq rfl ?_
  refine xd [1, 3, 4, 5, 16] rfl ?_
  refine G.ite rfl rfl (fun hlt => ?_) (fun hlt => ?_)
  · have hin : i < n := by omega
    obtain ⟨css, hc1, hc2, hc3⟩ := id ag.rows
    simp only [List.length_replicate] at hc1 hc2
    have hrM1 : ¬ (but (Value.slice ba i bc).ownBlock h3.size ∨ Array.size g ≤ h3.size) := by
      rintro (k | k)
      · exact (hown _ k.symm).1 rfl
      · have := ag.blk.lt; omega
    have hlto : ∀ b, (but (Value.slice ba i bc).ownBlock b ∨ b = h3.size ∨ but (Value.slice (some ⟨h2.size, 0, none⟩) 1 1).ownBlock b ∨ b < h.size) → b < g.size := by
      rintro b (k | k | k | k)
      · exact (hown b k.symm).2
      · have := ag.blk.lt; omega
      · exact (ag.ownS b k.symm).2
      · have := eg.size; omega
    refine G.skip rfl ?_
    refine G.seq rfl ?_
    refine G.block rfl rfl ?_
    refine G.draw (fun b => but (Value.slice ba i bc).ownBlock b ∨ Array.size g ≤ b) (fun i => Nat.blt i 11) (sz := 12) (listed := #[false, false, false, false, false, false, false, false, false, false, false, false]) Tryd.func43 H.mixed rfl rfl rfl ?_
    refine RD.takeS 0 (listed' := #[true, false, false, false, false, false, false, false, false, false, false, false]) rfl (by kernel_rfl) (by kernel_rfl) (by kernel_rfl) rfl rfl rfl (fun h' e => OpP.move rfl) rfl ?_
    refine RD.takeS 1 (listed' := #[true, true, false, false, false, false, false, false, false, false, false, false]) rfl (by kernel_rfl) (by kernel_rfl) (by kernel_rfl) rfl rfl rfl (fun h' e => OpP.move rfl) rfl ?_
    refine RD.takeS 2 (listed' := #[true, true, true, false, false, false, false, false, false, false, false, false]) rfl (by kernel_rfl) (by kernel_rfl) (by kernel_rfl) rfl rfl rfl (fun h' e => OpP.nilCheck rfl) rfl ?_
    refine RD.takeS 3 (listed' := #[true, true, true, true, false, false, false, false, false, false, false, false]) rfl (by kernel_rfl) (by kernel_rfl) (by kernel_rfl) rfl rfl rfl (fun h' e => OpP.fieldAddr (off := 1) Tryd.underlying57 rfl rfl H.sz54 rfl) rfl ?_
    refine RD.takeS 4 (listed' := #[true, true, true, true, true, false, false, false, false, false, false, false]) rfl (by kernel_rfl) (by kernel_rfl) (by kernel_rfl) rfl rfl rfl (fun h' e => OpP.load H.ag54 rfl (e.cell hrM1 (ag.blk.cell (i := 1) rfl))) rfl ?_
    refine RD.takeS 5 (listed' := #[true, true, true, true, true, true, false, false, false, false, false, false]) rfl (by kernel_rfl) (by kernel_rfl) (by kernel_rfl) rfl rfl rfl (fun h' e => OpP.move rfl) rfl ?_
    refine RD.oneS 6 (listed' := #[true, true, true, true, true, true, true, false, false, false, false, false]) rfl (by kernel_rfl) rfl rfl rfl (OpX.makeOnes Tryd.underlying55 H.el4 H.zr4 rfl rfl rfl (by omega) (by decide)) rfl ?_
    rintro _ g5 ⟨rfl, k5, e5⟩
    refine ⟨fun _ => e5.mono (fun _ _ k => k.elim), ?_⟩
    have k5 : OwE Value.bool g5 g.size 4 (.slice (some ⟨g.size, 0, none⟩) n n) (nob n) := by unfold OwE nob; simpa using k5
    have z5 := e5.size
    have hc2' : OwnH g5 0 55 1 (.slice ba i bc) i css.flatten := OwnH.ext0' hc2 e5
    refine RD.oneS 7 (listed' := #[true, true, true, true, true, true, true, true, false, false, false, false]) rfl (by kernel_rfl) rfl rfl rfl (OpX.buildOnes (us := [_]) Tryd.underlying54 H.el55 rfl rfl (by decide) (by simp [Value.oneCell'])) rfl ?_
    rintro _ _ ⟨rfl, rfl⟩
    refine ⟨fun _ => by first | exact Ext.push _ _ _ | assumption, ?_⟩
    refine RD.oneS 8 (listed' := #[true, true, true, true, true, true, true, true, true, false, false, false]) rfl (by kernel_rfl) rfl rfl rfl (OpX.appendNew Tryd.underlying54 H.el55 rfl rfl (hc2') rfl rfl (by first | decide | simp [Value.oneCell']) (by omega) (by decide) (by omega)) rfl ?_
    rintro v2 g6 ⟨ho6, hx6, hx6', hv6⟩
    refine ⟨fun _ => hx6'.mono (fun _ _ k => .inl k), ?_⟩
    obtain ⟨oa2, c2, rfl, _⟩ := ho6.open
    have hrow6 : OwX eRow (fun b => b = h3.size ∨ but (Value.slice (some ⟨h2.size, 0, none⟩) 1 1).ownBlock b ∨ b < h.size) g6 0 55 (.slice oa2 (i + 1) c2) (List.replicate i (nob n) ++ [nob n]) :=
      OwX.pushed (e := eRow) (h := g5) (v := .slice ba i bc) (css := css) (cs := [.slice (some ⟨g.size, 0, none⟩) n n]) (by simpa using hc1) (fun j cs y a b => eRow.mv (hc3 j cs y a b) (Mv.ext0 e5)) (by rw [List.length_replicate]; exact ho6) hx6 hv6
        ⟨_, rfl, OwE.read (h1 := fun _ => rfl) k5 (fun b hb k => by have := hlto b k; omega)⟩
    rw [← List.replicate_succ'] at hrow6
    have z6 := hx6.size
    refine RD.oneS 9 (listed' := #[true, true, true, true, true, true, true, true, true, true, false, false]) rfl (by kernel_rfl) rfl rfl rfl (OpP.toX (OpP.nilCheck rfl)) rfl ?_
    rintro _ hq_ ⟨rfl, hqe_⟩
    replace hqe_ := hqe_.symm
    subst hqe_
    refine ⟨fun _ => Ext.refl _ _, ?_⟩
    refine RD.takeS 10 (listed' := #[true, true, true, true, true, true, true, true, true, true, true, false]) rfl (by kernel_rfl) (by kernel_rfl) (by kernel_rfl) rfl rfl rfl (fun h' e => OpP.fieldAddr (off := 1) Tryd.underlying57 rfl rfl H.sz54 rfl) rfl ?_
    refine RD.one0 11 (listed' := #[true, true, true, true, true, true, true, true, true, true, true, true]) rfl (by kernel_rfl) rfl rfl (OpX.storeOne H.sz54 rfl rfl ((ag.blk.ext0 e5).ext hx6 (fun k => (hown _ k.symm).1 rfl)) (by first | decide | exact of_decide_eq_true rfl | (simp; done) | (simp; omega)) rfl) rfl ?_
    rintro _ g7 ⟨rfl, k7, x7, z7⟩
    refine ⟨fun hk => (nomatch hk), ?_⟩
    have k7 : Blk g7 h3.size 57 [.slice (some ⟨h2.size, 0, none⟩) 1 1, .slice oa2 (i + 1) c2, .slice none 0 0] := k7
    have a7 : RuAt g7 (fun b => b < h.size) h3.size (.slice (some ⟨h2.size, 0, none⟩) 1 1) (.slice oa2 (i + 1) c2) (.slice none 0 0) ([0], List.replicate (i + 1) (nob n)) :=
      ⟨k7, OwnH.ext x7 (OwnH.ext hx6 (OwnH.ext0' ag.sets e5) (fun b hb k => ag.apart b hb k.symm)) (fun b hb (e : b = h3.size) => (ag.ownS b hb).1 e), hrow6.mv2 x7 (fun b hb (e : b = h3.size) => by
        rcases hv6 b hb with k | k
        · exact (hown b k).1 e
        · omega) (fun b _ k => .inl k) (fun b _ k => k), fun b hb hb2 => by
        have hbs := (ag.ownS b hb).2
        rcases hv6 b hb2 with k | k
        · exact ag.apart b hb k
        · omega, ag.ns, fun hb => by
        have := ag.blk.lt
        rcases hv6 _ hb with k | k
        · exact (hown _ k).1 rfl
        · omega⟩
    have e07 : Ext0 h g7 := ⟨by have := eg.size; omega, fun b hb k => by
      rw [x7.block b (by have := eg.size; omega) (by show ¬ _ = _; omega), hx6.block b (by have := eg.size; omega) (fun k2 => by have := hvn b k2.symm; omega), e5.block b (by have := eg.size; omega) (fun k => k)]
      exact eg.block b hb k⟩
    refine RD.done (by kernel_rfl) ?_
    refine xu [1, 3, 4, 5, 16] rfl ?_
    refine G.blkEnd ?_
    refine G.reg Tryd.func43 rfl ?_
    refine xq rfl ?_
    refine xp rfl (OpP.add64 rfl rfl ⟨by omega, by omega⟩) ?_
    refine xq rfl ?_
    refine xd [1, 3, 4, 5, 16] rfl ?_
    exact ih (i + 1, oa2, c2) _ _ ⟨rfl, rfl, rfl, rfl, trivial⟩ ⟨hin, a7, e07, ((kg.ext0 e5).ext hx6 (fun k2 => by have := hvn _ k2.symm; omega)).ext x7 (by show ¬ _ = _; omega), by omega, fun b hb => by
      rcases hv6 b hb with k | k
      · exact hvn b k
      · omega⟩ (by show n - (i + 1) < n - i; omega)
  · obtain rfl : i = n := by omega
    have hruok : RuOk i ([0], List.replicate i (nob i)) := ⟨by simp, fun b hb => by rw [(List.mem_replicate.1 hb).2]; exact nob_len _⟩
    have hvs : ∀ b, (Value.slice (some ⟨h2.size, 0, none⟩) 1 1).ownBlock = some b → b = h2.size := fun b hb => by simp [Value.ownBlock] at hb; omega
    have hnd : NdAt g (ruM h3.size (.slice (some ⟨h2.size, 0, none⟩) 1 1) (.slice ba i bc)) (ndC x.kind x.set w) x := hx.mv ⟨eg.size, fun b hb hn => ⟨eg.block b hb (fun k => k), by
      rintro (k | k | k)
      · omega
      · have := hvs b k.symm; omega
      · have := hvn b k.symm; omega⟩⟩
    refine G.exit rfl rfl ?_
    refine xr Tryd.func43 rfl ?_
    refine xq rfl ?_
    refine xp rfl (OpP.loadRowN H.ag94 H.sz94 rfl kg.row (by first | rfl | simp)) ?_
    refine xq rfl ?_
    refine xo rfl (OpX.call (vs := [_, _, _]) Tryd.func63 rfl H.nm63 rfl (CallsH.toX (layR_ok (szN x) (x := x) (st := ([0], List.replicate i (nob i))) (n := i) (Nat.le_refl _) ag (fun b k => by have := eg.size; omega) hnd hw hruok (by show 1 + cnt x ≤ i; omega) hn))) ?_
    rintro _ g8 ⟨vs8, f8, l8, rfl, a8, hf8, hl8, e8, ho8⟩
    refine xo rfl (OpX.allocN H.zr124) ?_
    rintro _ g9 ⟨rfl, k6, e9, z9⟩
    have hglu := glu_ok i x ([0], List.replicate i (nob i)) hruok
    have hofe : ofP x = ⟨(glu i x ([0], List.replicate i (nob i))).2.1, (glu i x ([0], List.replicate i (nob i))).2.2.set 0 (glu i x ([0], List.replicate i (nob i))).1.first, (glu i x ([0], List.replicate i (nob i))).1.last.set 0 (glu i x ([0], List.replicate i (nob i))).1.null⟩ := by subst hnn; rfl
    rw [hofe]
    generalize glu i x ([0], List.replicate i (nob i)) = out at *
    obtain ⟨fa, fn, fc, rfl⟩ : ∃ oa n c, f8 = .slice oa n c := by obtain ⟨oa, n, c, rfl, _⟩ := hf8; exact ⟨_, _, _, rfl⟩
    obtain ⟨la, ln, lc, rfl⟩ : ∃ oa n c, l8 = .slice oa n c := by obtain ⟨oa, n, c, rfl, _⟩ := hl8; exact ⟨_, _, _, rfl⟩
    refine RW.op0 rfl rfl rfl (OpX.storeBlk H.sz124 rfl rfl k6 (by first | rfl | simp) (by first | decide | exact of_decide_eq_true rfl | (simp; done) | (simp; omega)) (by first | decide | simp [Value.oneCell'])) ?_
    rintro _ g10 ⟨rfl, k6, x10, z10⟩
    have k6 : Blk g10 g8.size 124 [.bool out.1.null, .slice fa fn fc, .slice la ln lc] := k6
    have e810 : Ext0 g8 g10 := Ext0.only e9 x10 (Nat.le_refl _)
    have a10 := a8.ext0 (O' := fun b => b < h.size) e810 (fun _ _ k => k)
    have hf10 := SlR.mv hf8 (Mv.ext0 e810)
    have hl10 := SlR.mv hl8 (Mv.ext0 e810)
    obtain ⟨row0, hrow0⟩ : ∃ r, out.2.2[0]? = some r := ⟨_, List.getElem?_eq_getElem (by have := hglu.2.1.rows; omega)⟩
    obtain ⟨gb, bc2, cs0, hvb, _, hgb2, hra, hfz, ⟨w0, rfl, _⟩, hput⟩ := a10.rows.put hrow0
    have hlen2 : out.2.2.length = i := hglu.2.1.rows
    rw [hlen2] at hvb
    cases hvb
    have z8 := e8.size
    have z810 := e810.size
    have hgz8 : h4.size ≤ g8.size := by omega
    have hvn' : h4.size ≤ gb := hvn gb rfl
    refine xd [1, 3, 4, 5, 6, 16] rfl ?_
    refine G.seq rfl ?_
    refine G.draw (fun b => Array.size g10 ≤ b) (fun i => Nat.blt i 7) (sz := 8) (listed := #[false, false, false, false, false, false, false, false]) Tryd.func43 H.mixed rfl rfl rfl ?_
    refine RD.takeS 0 (listed' := #[true, false, false, false, false, false, false, false]) rfl (by kernel_rfl) (by kernel_rfl) (by kernel_rfl) rfl rfl rfl (fun h' e => OpP.move rfl) rfl ?_
    refine RD.takeS 1 (listed' := #[true, true, false, false, false, false, false, false]) rfl (by kernel_rfl) (by kernel_rfl) (by kernel_rfl) rfl rfl rfl (fun h' e => OpP.nilCheck rfl) rfl ?_
    refine RD.takeS 2 (listed' := #[true, true, true, false, false, false, false, false]) rfl (by kernel_rfl) (by kernel_rfl) (by kernel_rfl) rfl rfl rfl (fun h' e => OpP.fieldAddr (off := 1) Tryd.underlying57 rfl rfl H.sz54 rfl) rfl ?_
    refine RD.takeS 3 (listed' := #[true, true, true, true, false, false, false, false]) rfl (by kernel_rfl) (by kernel_rfl) (by kernel_rfl) rfl rfl rfl (fun h' e => OpP.load H.ag54 rfl (e.old (a10.blk.cell (i := 1) rfl))) rfl ?_
    refine RD.takeS 4 (listed' := #[true, true, true, true, true, false, false, false]) rfl (by kernel_rfl) (by kernel_rfl) (by kernel_rfl) rfl rfl rfl (fun h' e => OpP.fieldAddr (off := 1) Tryd.underlying124 rfl rfl H.sz55 rfl) rfl ?_
    refine RD.takeS 5 (listed' := #[true, true, true, true, true, true, false, false]) rfl (by kernel_rfl) (by kernel_rfl) (by kernel_rfl) rfl rfl rfl (fun h' e => OpP.load H.ag55 rfl (e.old (k6.cell (i := 1) rfl))) rfl ?_
    refine RD.takeS 6 (listed' := #[true, true, true, true, true, true, true, false]) rfl (by kernel_rfl) (by kernel_rfl) (by kernel_rfl) rfl rfl rfl (fun h' e => OpP.indexSlice Tryd.underlying54 H.sz55 rfl rfl 0 rfl rfl (by omega)) rfl ?_
    refine RD.one0 7 (listed' := #[true, true, true, true, true, true, true, true]) rfl (by kernel_rfl) rfl rfl (OpX.store H.sz55 rfl rfl rfl (hra 0 _ rfl) (hfz _)) rfl ?_
    rintro _ g11 ⟨rfl, hg11⟩
    refine ⟨fun hk => (nomatch hk), ?_⟩
    have hput := hput 0 (.slice fa fn fc) out.1.first (by decide) ⟨_, rfl, SlR.less hf10 (fun b k => by
      rcases k with k | k | k | k
      · exact .inl (.inr (.inr k))
      · exact .inl (.inl k)
      · exact .inl (.inr (.inl k))
      · exact .inr k)⟩
    have hput : OwX eRow (fun b => b = h3.size ∨ but vs8.ownBlock b ∨ b < h.size) g11 0 55 (.slice (some ⟨gb, 0, none⟩) i bc) (out.2.2.set 0 out.1.first) := by rw [hg11]; exact hput
    have x11 : Ext (fun b => b = gb) g10 g11 := by rw [hg11]; exact Ext.setC _ _ _ rfl
    have hgs : vs8.ownBlock ≠ some gb := fun e => a10.apart gb e rfl
    have hgr : gb ≠ h3.size := fun e => a10.nb (by subst e; rfl)
    have a11 : RuAt g11 (fun b => b < h.size) h3.size vs8 (.slice (some ⟨gb, 0, none⟩) i bc) (.slice none 0 0) (out.2.1, out.2.2.set 0 out.1.first) :=
      ⟨a10.blk.ext x11 (by show ¬ _ = _; omega), OwnH.ext x11 a10.sets (fun b hb e => hgs (by subst e; exact hb)), hput, a10.apart, a10.ns, a10.nb⟩
    have z11 := x11.size
    have hn6 : ¬ g8.size = gb := by have := (a8.ownB gb rfl).2; omega
    have k6 := k6.ext x11 hn6
    have hl11 := SlR.less (Q' := fun b => b = gb) hl10 (fun b k => .inl (.inr (.inr (by subst k; rfl))))
    have hl11 := hl11.mv (Mv.ofExt x11 (O' := fun b => b = gb) (fun b _ k => ⟨k, k⟩))
    obtain ⟨hll, hlrow, hlm⟩ := SlR.row hl11
    have hllen := hglu.1.last
    have hone : ∀ u ∈ out.1.last.map Value.bool, u.oneCell' = true := fun u hu => by simp at hu; rcases hu with ⟨_, rfl⟩ | ⟨_, rfl⟩ <;> rfl
    refine RD.done (by kernel_rfl) ?_
    refine xu [1, 3, 4, 5, 6, 16] rfl ?_
    refine xr Tryd.func43 rfl ?_
    refine xq rfl ?_
    refine xp rfl (OpP.fieldAddr (off := 2) Tryd.underlying124 rfl rfl H.sz55 rfl) ?_
    refine xp rfl (OpP.load H.ag55 rfl (k6.cell (i := 2) rfl)) ?_
    refine xo rfl (OpX.append Tryd.underlying55 H.el4 rfl rfl (OwnH.nil g11 g11.size 4 1) (by simp [hll]) hlrow hone (by simp only [maxLen]; omega) (by omega) (by omega)) ?_
    rintro wl g12 ⟨ho12, hx12, -, hv12⟩
    have ho12' : OwnH g12 g11.size 4 1 wl ln (out.1.last.map Value.bool) := by simpa using ho12
    have e12 : Ext0 g11 g12 := ext_but_none hx12
    obtain ⟨oal, cl, rfl, _⟩ := ho12'.open
    have z12 := e12.size
    refine xq rfl ?_
    refine xp rfl (OpP.fieldAddr (off := 2) Tryd.underlying57 rfl rfl H.sz55 rfl) ?_
    refine RW.op0 rfl rfl rfl (OpX.storeOne H.sz55 rfl rfl (a11.blk.ext0 e12) (by first | decide | exact of_decide_eq_true rfl | (simp; done) | (simp; omega)) rfl) ?_
    rintro _ g13 ⟨rfl, k13, x13, z13⟩
    have k13 : Blk g13 h3.size 57 [vs8, .slice (some ⟨gb, 0, none⟩) i bc, .slice oal ln cl] := k13
    have hr11 := a11.blk.lt
    have hol : OwE Value.bool g13 g11.size 4 (.slice oal ln cl) out.1.last := by
      unfold OwE
      rw [hll]
      exact OwnH.ext x13 ho12' (fun b hb (e : b = h3.size) => by have := (OwnH.lt ho12' hb).1; omega)
    obtain ⟨l0, hl0⟩ : ∃ y, out.1.last[0]? = some y := ⟨_, List.getElem?_eq_getElem (by omega)⟩
    obtain ⟨gl, cl', hvl, hgl1, hgl2, hlc, hlf, hlset⟩ := hol.at hl0
    rw [hll] at hvl
    cases hvl
    have hlset := hlset out.1.null
    have hn63 : ¬ g8.size = h3.size := by have := a8.blk.lt; omega
    have k6 := (k6.ext0 e12).ext x13 hn63
    refine xd [1, 3, 4, 5, 6, 16] rfl ?_
    refine G.seq rfl ?_
    refine G.draw (fun b => Array.size g13 ≤ b) (fun i => Nat.blt i 7) (sz := 8) (listed := #[false, false, false, false, false, false, false, false]) Tryd.func43 H.mixed rfl rfl rfl ?_
    refine RD.takeS 0 (listed' := #[true, false, false, false, false, false, false, false]) rfl (by kernel_rfl) (by kernel_rfl) (by kernel_rfl) rfl rfl rfl (fun h' e => OpP.move rfl) rfl ?_
    refine RD.takeS 1 (listed' := #[true, true, false, false, false, false, false, false]) rfl (by kernel_rfl) (by kernel_rfl) (by kernel_rfl) rfl rfl rfl (fun h' e => OpP.nilCheck rfl) rfl ?_
    refine RD.takeS 2 (listed' := #[true, true, true, false, false, false, false, false]) rfl (by kernel_rfl) (by kernel_rfl) (by kernel_rfl) rfl rfl rfl (fun h' e => OpP.fieldAddr (off := 2) Tryd.underlying57 rfl rfl H.sz55 rfl) rfl ?_
    refine RD.takeS 3 (listed' := #[true, true, true, true, false, false, false, false]) rfl (by kernel_rfl) (by kernel_rfl) (by kernel_rfl) rfl rfl rfl (fun h' e => OpP.load H.ag55 rfl (e.old (k13.cell (i := 2) rfl))) rfl ?_
    refine RD.takeS 4 (listed' := #[true, true, true, true, true, false, false, false]) rfl (by kernel_rfl) (by kernel_rfl) (by kernel_rfl) rfl rfl rfl (fun h' e => OpP.fieldAddr (off := 0) Tryd.underlying124 rfl rfl H.sz4 rfl) rfl ?_
    refine RD.takeS 5 (listed' := #[true, true, true, true, true, true, false, false]) rfl (by kernel_rfl) (by kernel_rfl) (by kernel_rfl) rfl rfl rfl (fun h' e => OpP.load H.ag4 rfl (e.old (k6.cell (i := 0) rfl))) rfl ?_
    refine RD.takeS 6 (listed' := #[true, true, true, true, true, true, true, false]) rfl (by kernel_rfl) (by kernel_rfl) (by kernel_rfl) rfl rfl rfl (fun h' e => OpP.indexSlice Tryd.underlying55 H.sz4 rfl rfl 0 rfl rfl (by omega)) rfl ?_
    refine RD.one0 7 (listed' := #[true, true, true, true, true, true, true, true]) rfl (by kernel_rfl) rfl rfl (OpX.store H.sz4 rfl rfl rfl hlc hlf) rfl ?_
    rintro _ g14 ⟨rfl, hg14⟩
    refine ⟨fun hk => (nomatch hk), ?_⟩
    rw [← hg14] at hlset
    have x14 : Ext (fun b => b = gl) g13 g14 := by rw [hg14]; exact Ext.setC _ _ _ rfl
    refine RD.done (by kernel_rfl) ?_
    refine xu [1, 3, 4, 5, 6, 16] rfl ?_
    refine xr Tryd.func43 rfl ?_
    iterate 2 refine xq rfl ?_
    refine xd [1, 2, 3, 4, 5, 6, 16] rfl ?_
    refine G.ret Tryd.func43 rfl rfl ?_
    have hlt11 : ∀ b, ruM h3.size vs8 (.slice (some ⟨gb, 0, none⟩) i bc) b → b < g11.size := by
      rintro b (k | k | k)
      · omega
      · exact (a11.ownS b k.symm).2
      · exact (a11.ownB b k.symm).2
    have e1114 : Ext (fun b => b = h3.size) g11 g14 := ⟨by have := x14.size; omega, fun b hb hn => by rw [x14.block b (by omega) (by omega), x13.block b (by omega) hn]; exact e12.block b hb (fun k => k)⟩
    have hss : ∀ b, vs8.ownBlock = some b → h.size ≤ b := fun b hb => by
      have := eg.size
      rcases ho8 b hb with k | k
      · have := hvs b k; omega
      · omega
    refine ⟨_, rfl, h3.size, rfl, ⟨vs8, _, _, by omega, k13.ext x14 (by show ¬ _ = _; omega), ?_, ?_, ?_⟩, ?_⟩
    · exact OwR.read (OwnH.raise (OwnH.ext e1114 a11.sets (fun b hb e => (a11.ownS b hb).1 e)) hss) (fun b hb k => by omega)
    · exact (a11.rows.mv2 e1114 (fun b hb (e : b = h3.size) => (a11.ownB b hb).1 e) (fun b _ k => .inl k) (fun b _ k => k)).read2 (fun b hb k => by have := hvn b hb; omega) (fun b _ k => .inr (.inr k))
    · exact OwE.read (h1 := fun _ => rfl) hlset (fun b hb k => by omega)
    · have hzg := eg.size
      refine ⟨by have := x14.size; omega, fun b hb k => ?_⟩
      rw [e1114.block b (by omega) (by omega), x11.block b (by omega) (by omega), e810.block b (by omega) (fun k => k), e8.block b (by omega) ?_]
      · exact eg.block b hb k
      · rintro (k | k | k)
        · omega
        · have := hvs b k.symm; omega
        · have := hvn b k.symm; omega
theorem startR_calls {h : Heap} {O : Nat → Prop} {rb n : Nat} {r : RuP} (hr : RuRd h O rb r) (hok : RuleOk r n) (hn : n ≤ 1000000) :
    CallsH Tryd.prog 45 #[.pointer (some ⟨rb, 0, none⟩)] h (Ret fun v h' => OwE Value.bool h' h.size 4 v (startR r) ∧ Ext0 h h') := by
  obtain ⟨vs, vb, vl, ho, hk, h1, h2, h3⟩ := hr
  obtain ⟨sa, sn, sc, rfl, hs1, _⟩ := h1
  have hsl := hok.sets
  have hsp := hok.pos
  refine CallsH.of Tryd.func45 rfl rfl ?_
  refine xr Tryd.func45 rfl ?_
  refine xq rfl ?_
  refine xd [0, 2] rfl ?_
  refine xr Tryd.func45 rfl ?_
  iterate 2 refine xq rfl ?_
  refine xp rfl (OpP.fieldAddr (off := 0) Tryd.underlying57 rfl rfl H.sz53 rfl) ?_
  refine xp rfl (OpP.load H.ag53 rfl (hk.cell (i := 0) rfl)) ?_
  refine xp rfl (OpP.lenSlice Tryd.underlying53 rfl) ?_
  refine xo rfl (OpX.makeOnes Tryd.underlying55 H.el4 H.zr4 rfl rfl rfl (by omega) (by decide)) ?_
  rintro _ g1 ⟨rfl, k1, e1⟩
  have k1 : OwE Value.bool g1 h.size 4 (.slice (some ⟨h.size, 0, none⟩) sn sn) (nob r.sets.length) := by unfold OwE nob; rw [hs1]; simpa using k1
  obtain ⟨g', c', hv', _, _, hcell, hfz, hset⟩ := k1.at (i := 0) (x := false) (by unfold nob; rw [List.getElem?_replicate, if_pos (by omega)])
  rw [nob_len, hs1] at hv'
  cases hv'
  have hset := hset true
  refine xq rfl ?_
  refine xd [0, 2, 3] rfl ?_
  refine xr Tryd.func45 rfl ?_
  refine xq rfl ?_
  refine xp rfl (OpP.indexSlice Tryd.underlying55 H.sz4 rfl rfl 0 rfl rfl (by omega)) ?_
  refine RW.op0 rfl rfl rfl (OpX.store H.sz4 rfl rfl rfl hcell hfz) ?_
  rintro _ g2 ⟨rfl, hg2⟩
  rw [← hg2] at hset
  refine xd [0, 2, 3] rfl ?_
  refine xr Tryd.func45 rfl ?_
  iterate 2 refine xq rfl ?_
  refine xd [0, 2, 3] rfl ?_
  refine G.ret Tryd.func45 rfl rfl ?_
  exact ⟨_, rfl, hset, Ext0.only e1 (by rw [hg2]; exact Ext.setC _ _ _ rfl : Ext (fun b => b = h.size) g1 g2) (Nat.le_refl _)⟩
theorem anyR_calls {h : Heap} {O : Nat → Prop} {v : Value} {a : List Bool} (ha : SlR .bool h O v a) (hn : a.length ≤ 1000000) :
    CallsH Tryd.prog 46 #[v] h (Ret fun r h' => r = .bool (anyR a) ∧ h' = h) := by
  obtain ⟨oa, na, ca, rfl, hsa⟩ := ha.open
  have hna := hsa.len
  refine CallsH.of Tryd.func46 rfl rfl ?_
  refine xr Tryd.func46 rfl ?_
  refine xq rfl ?_
  refine xd [0, 2] rfl ?_
  refine G.seq rfl ?_
  refine xr Tryd.func46 rfl ?_
  refine xq rfl ?_
  refine xd [0, 2, 3] rfl ?_
  refine G.block rfl rfl ?_
  refine G.loop (σ := Nat) (fun i => [(0, .slice oa na ca), (3, .int .i64 (i : Nat))]) (fun i h' => i ≤ na ∧ h' = h ∧ anyR (a.drop i) = anyR a) (fun i => na - i) (0) rfl ⟨rfl, rfl, trivial⟩ ⟨Nat.zero_le _, rfl, rfl⟩ ?_
  rintro i g ⟨hi, rfl, hcon⟩ ih
  refine G.seq rfl ?_
  refine xr Tryd.func46 rfl ?_
  iterate 2 refine xq rfl ?_
  refine xp rfl (OpP.lenSlice Tryd.underlying55 rfl) ?_
  refine xq rfl ?_
  refine xd [0, 3, 7] rfl ?_
  refine G.ite rfl rfl (fun hlt => ?_) (fun hlt => ?_)
  · obtain ⟨ba, oo, x, hoa, _, hx, hcx⟩ := hsa.at (show i < na by omega)
    have hd : a.drop i = x :: a.drop (i + 1) := by
      obtain ⟨hi', rfl⟩ := List.getElem?_eq_some_iff.1 hx
      exact List.drop_eq_getElem_cons hi'
    rw [hd] at hcon
    simp only [anyR, List.any_cons, id] at hcon
    refine G.skip rfl ?_
    refine G.seq rfl ?_
    refine G.block rfl rfl ?_
    refine xr Tryd.func46 rfl ?_
    iterate 2 refine xq rfl ?_
    refine xp rfl (OpP.indexSlice Tryd.underlying55 H.sz4 rfl rfl i rfl hoa (by omega)) ?_
    refine xp rfl (OpP.load H.ag4 rfl hcx) ?_
    refine xd [0, 3, 7, 13] rfl ?_
    refine G.cond rfl rfl (fun hb => ?_) (fun hb => ?_)
    · subst hb
      refine xr Tryd.func46 rfl ?_
      refine xq rfl ?_
      refine xd [0, 2, 3, 7, 13] rfl ?_
      refine G.ret Tryd.func46 rfl rfl ?_
      exact ⟨_, rfl, by rw [show anyR a = true by rw [anyR, ← hcon]; rfl]; rfl, rfl⟩
    · subst hb
      refine G.skip rfl ?_
      refine G.blkEnd ?_
      refine G.reg Tryd.func46 rfl ?_
      refine xq rfl ?_
      refine xp rfl (OpP.add64 rfl rfl ⟨by omega, by omega⟩) ?_
      refine xq rfl ?_
      refine xd [0, 3, 7, 13] rfl ?_
      exact ih (i + 1) _ _ ⟨rfl, rfl, trivial⟩ ⟨by omega, rfl, by rw [anyR, anyR, ← hcon]; rfl⟩ (by omega)
  · have hd : a.drop i = [] := List.drop_of_length_le (by omega)
    rw [hd] at hcon
    refine G.exit rfl rfl ?_
    refine xr Tryd.func46 rfl ?_
    refine xq rfl ?_
    refine xd [0, 2, 3, 7] rfl ?_
    refine G.ret Tryd.func46 rfl rfl ?_
    exact ⟨_, rfl, by rw [← hcon]; rfl, rfl⟩
theorem endsR_calls {h : Heap} {O Oa : Nat → Prop} {rb n : Nat} {r : RuP} {v : Value} {a : List Bool} (hr : RuRd h O rb r) (hok : RuleOk r n) (ha : SlR .bool h Oa v a) (hal : a.length = r.sets.length) (hn : n ≤ 1000000) :
    CallsH Tryd.prog 47 #[.pointer (some ⟨rb, 0, none⟩), v] h (Ret fun u h' => u = .bool (endsR r a) ∧ h' = h) := by
  obtain ⟨vs, vb, vl, ho, hk, h1, h2, h3⟩ := hr
  obtain ⟨la, ln, lc, rfl, hsl⟩ := h3.open
  obtain ⟨oa, na, ca, rfl, hsa⟩ := ha.open
  have hna := hsa.len
  have hln := hsl.len
  have hss := hok.sets
  have hll := hok.last
  refine CallsH.of Tryd.func47 rfl rfl ?_
  refine xr Tryd.func47 rfl ?_
  refine xq rfl ?_
  refine xd [0, 1, 4] rfl ?_
  refine G.seq rfl ?_
  refine xr Tryd.func47 rfl ?_
  refine xq rfl ?_
  refine xd [0, 1, 4, 5] rfl ?_
  refine G.block rfl rfl ?_
  refine G.loop (σ := Nat) (fun i => [(0, .pointer (some ⟨rb, 0, none⟩)), (1, .slice oa na ca), (5, .int .i64 (i : Nat))]) (fun i h' => i ≤ na ∧ h' = h ∧ (List.zipWith (· && ·) (a.drop i) (r.last.drop i)).any id = endsR r a) (fun i => na - i) (0) rfl ⟨rfl, rfl, rfl, trivial⟩ ⟨Nat.zero_le _, rfl, rfl⟩ ?_
  rintro i g ⟨hi, rfl, hcon⟩ ih
  refine G.seq rfl ?_
  refine xr Tryd.func47 rfl ?_
  iterate 2 refine xq rfl ?_
  refine xp rfl (OpP.lenSlice Tryd.underlying55 rfl) ?_
  refine xq rfl ?_
  refine xd [0, 1, 5, 9] rfl ?_
  refine G.ite rfl rfl (fun hlt => ?_) (fun hlt => ?_)
  · obtain ⟨ba, oo, x, hoa, _, hx, hcx⟩ := hsa.at (show i < na by omega)
    obtain ⟨bl, ol, y, hol, _, hy, hcy⟩ := hsl.at (show i < ln by omega)
    have hd : a.drop i = x :: a.drop (i + 1) := by
      obtain ⟨hi', rfl⟩ := List.getElem?_eq_some_iff.1 hx
      exact List.drop_eq_getElem_cons hi'
    have hd2 : r.last.drop i = y :: r.last.drop (i + 1) := by
      obtain ⟨hi', rfl⟩ := List.getElem?_eq_some_iff.1 hy
      exact List.drop_eq_getElem_cons hi'
    rw [hd, hd2] at hcon
    simp only [List.zipWith_cons_cons, List.any_cons, id] at hcon
    refine G.skip rfl ?_
    refine G.seq rfl ?_
    refine G.block rfl rfl ?_
    refine G.seq rfl ?_
    refine G.regTo1 [(24, .bool (x && y))] [(0, _), (1, _), (5, _), (9, _)] ⟨rfl, rfl, rfl, rfl, trivial⟩ Tryd.func47 rfl ?_ ?_
    · iterate 2 refine xq rfl ?_
      refine xp rfl (OpP.indexSlice Tryd.underlying55 H.sz4 rfl rfl i rfl hoa (by omega)) ?_
      refine xp rfl (OpP.load H.ag4 rfl hcx) ?_
      refine xq rfl ?_
      refine RW.split (d := 16) rfl (fun hg => ?_) (fun hg => ?_)
      · iterate 2 refine xq rfl ?_
        refine xp rfl (OpP.fieldAddr (off := 2) Tryd.underlying57 rfl rfl H.sz55 rfl) ?_
        refine xp rfl (OpP.load H.ag55 rfl (hk.cell (i := 2) rfl)) ?_
        refine xq rfl ?_
        refine xp rfl (OpP.indexSlice Tryd.underlying55 H.sz4 rfl rfl i rfl hol (by omega)) ?_
        refine xp rfl (OpP.load H.ag4 rfl hcy) ?_
        refine xq rfl ?_
        refine RW.done rfl ?_
        exact ⟨rfl, at_bool rfl (by simp [hg]), rfl, rfl, rfl, rfl, trivial⟩
      · iterate 7 refine xk rfl ?_
        refine xq rfl ?_
        refine RW.done rfl ?_
        exact ⟨rfl, at_bool rfl (by simp [hg]), rfl, rfl, rfl, rfl, trivial⟩
    · refine G.cond rfl rfl (fun hb => ?_) (fun hb => ?_)
      · refine xr Tryd.func47 rfl ?_
        refine xq rfl ?_
        refine xd [0, 1, 4, 5, 9, 24] rfl ?_
        refine G.ret Tryd.func47 rfl rfl ?_
        rw [hb] at hcon
        exact ⟨_, rfl, by rw [← hcon]; rfl, rfl⟩
      · rw [hb, Bool.false_or] at hcon
        refine G.skip rfl ?_
        refine G.blkEnd ?_
        refine G.reg Tryd.func47 rfl ?_
        refine xq rfl ?_
        refine xp rfl (OpP.add64 rfl rfl ⟨by omega, by omega⟩) ?_
        refine xq rfl ?_
        refine xd [0, 1, 5, 9, 24] rfl ?_
        exact ih (i + 1) _ _ ⟨rfl, rfl, rfl, trivial⟩ ⟨by omega, rfl, hcon⟩ (by omega)
  · have hd : a.drop i = [] := List.drop_of_length_le (by omega)
    rw [hd] at hcon
    refine G.exit rfl rfl ?_
    refine xr Tryd.func47 rfl ?_
    refine xq rfl ?_
    refine xd [0, 1, 4, 5, 9] rfl ?_
    refine G.ret Tryd.func47 rfl rfl ?_
    exact ⟨_, rfl, by rw [← hcon]; rfl, rfl⟩
theorem andB_at (c : UInt8) : ∀ (k : Nat) (out : List Bool) (sets : List Nat) (q : Nat) (o : Bool) (s : Nat), out[q]? = some o → sets[q]? = some s → (andB c k out sets)[q]? = some (o && decide (0 < k + q) && s.testBit c.toNat)
  | k, [], sets, q, o, s, h, _ => by simp at h
  | k, _ :: out, [], q, o, s, _, h => by simp at h
  | k, x :: out, y :: sets, 0, o, s, h1, h2 => by simp at h1 h2; subst h1 h2; simp [andB]
  | k, x :: out, y :: sets, q + 1, o, s, h1, h2 => by
    rw [andB]
    simp only [List.getElem?_cons_succ] at h1 h2 ⊢
    rw [andB_at c (k + 1) out sets q o s h1 h2, show k + 1 + q = k + (q + 1) by omega]
theorem stepR_calls {h : Heap} {O Oa : Nat → Prop} {rb n : Nat} {r : RuP} {v : Value} {a : List Bool} (c : UInt8) (hr : RuRd h O rb r) (hok : RuleOk r n) (ha : SlR .bool h Oa v a) (hal : a.length = r.sets.length) (hn : n ≤ 1000000) :
    CallsH Tryd.prog 48 #[.pointer (some ⟨rb, 0, none⟩), v, .int .u8 (c.toNat : Nat)] h (Ret fun u h' => OwE Value.bool h' h.size 4 u (stepR r a c) ∧ Ext0 h h') := by
  obtain ⟨vs, vb, vl, ho, hk, h1, h2, h3⟩ := hr
  obtain ⟨ba, bn, bc, rfl, hsb⟩ := h2.open
  obtain ⟨sa, sn, sc, rfl, hss⟩ := h1.open
  obtain ⟨oa, na, ca, rfl, hsa⟩ := ha.open
  have hna := hsa.len
  have hbn := hsb.len
  have hsn := hss.len
  have hsl := hok.sets
  have hrows := hok.rows
  subst hna
  refine CallsH.of Tryd.func48 rfl rfl ?_
  refine xr Tryd.func48 rfl ?_
  refine xq rfl ?_
  refine xd [0, 1, 2, 6] rfl ?_
  refine xr Tryd.func48 rfl ?_
  refine xq rfl ?_
  refine xp rfl (OpP.lenSlice Tryd.underlying55 rfl) ?_
  refine xo rfl (OpX.makeOnes Tryd.underlying55 H.el4 H.zr4 rfl rfl rfl (by omega) (by decide)) ?_
  rintro _ h1 ⟨rfl, k1, e1⟩
  have k1 : OwE Value.bool h1 h.size 4 (.slice (some ⟨h.size, 0, none⟩) a.length a.length) (nob a.length) := by unfold OwE nob; simpa using k1
  have hbl : ∀ b ∈ r.behind, (nob a.length).length ≤ b.length := fun b hb => by rw [hok.each b hb, nob_len]; omega
  have hol := orsB_len a r.behind (nob a.length) hbl
  rw [nob_len] at hol
  generalize htgt : orsB a r.behind (nob a.length) = tgt at hol
  refine xq rfl ?_
  refine xd [0, 1, 2, 6, 7] rfl ?_
  refine G.seq rfl ?_
  refine xr Tryd.func48 rfl ?_
  refine xq rfl ?_
  refine xd [0, 1, 2, 6, 7, 8] rfl ?_
  refine G.block rfl rfl ?_
  refine G.loop (σ := Nat × Value × List Bool) (fun q => [(0, .pointer (some ⟨rb, 0, none⟩)), (1, .slice oa a.length ca), (2, .int .u8 (c.toNat : Nat)), (7, q.2.1), (8, .int .i64 (q.1 : Nat))]) (fun q h' => q.1 ≤ a.length ∧ Ext0 h h' ∧ OwE Value.bool h' h.size 4 q.2.1 q.2.2 ∧ q.2.2.length = a.length ∧ orsB (a.drop q.1) (r.behind.drop q.1) q.2.2 = tgt) (fun q => a.length - q.1) ((0, _, nob a.length)) rfl ⟨rfl, rfl, rfl, rfl, rfl, trivial⟩ ⟨Nat.zero_le _, e1, k1, nob_len _, htgt⟩ ?_
  rintro ⟨i, ov, cur⟩ g ⟨hi, eg, hov, hcl, hcon⟩ ih
  try dsimp only
  dsimp only at hi hov hcl hcon
  have hkg := hk.ext0 eg
  have hzg := eg.size
  refine G.seq rfl ?_
  refine xr Tryd.func48 rfl ?_
  iterate 2 refine xq rfl ?_
  refine xp rfl (OpP.lenSlice Tryd.underlying55 rfl) ?_
  refine xq rfl ?_
  refine xd [0, 1, 2, 7, 8, 16] rfl ?_
  refine G.ite rfl rfl (fun hlt => ?_) (fun hlt => ?_)
  · have hia : i < a.length := by omega
    obtain ⟨b1, o1, x, hoa, _, hx, hcx⟩ := (hsa.mv (Mv.ext0 eg)).at hia
    obtain ⟨row, hrow⟩ : ∃ row, r.behind[i]? = some row := ⟨_, List.getElem?_eq_getElem (by omega)⟩
    have hrl := hok.each row (List.mem_of_getElem? hrow)
    have hd : a.drop i = x :: a.drop (i + 1) := by
      obtain ⟨hi', rfl⟩ := List.getElem?_eq_some_iff.1 hx
      exact List.drop_eq_getElem_cons hi'
    have hd2 : r.behind.drop i = row :: r.behind.drop (i + 1) := by
      obtain ⟨hi', rfl⟩ := List.getElem?_eq_some_iff.1 hrow
      exact List.drop_eq_getElem_cons hi'
    rw [hd, hd2, orsB] at hcon
    refine G.skip rfl ?_
    refine G.seq rfl ?_
    refine G.block rfl rfl ?_
    refine xr Tryd.func48 rfl ?_
    iterate 2 refine xq rfl ?_
    refine xp rfl (OpP.indexSlice Tryd.underlying55 H.sz4 rfl rfl i rfl hoa (by omega)) ?_
    refine xp rfl (OpP.load H.ag4 rfl hcx) ?_
    refine xd [0, 1, 2, 7, 8, 16, 22] rfl ?_
    refine G.cond rfl rfl (fun hb => ?_) (fun hb => ?_)
    · rw [if_pos hb] at hcon
      obtain ⟨b2, o2, cs2, hba, _, hra, ⟨w, rfl, hw⟩⟩ := (hsb.mv (Mv.ext0 eg)).get i row hrow
      refine G.reg Tryd.func48 rfl ?_
      iterate 3 refine xq rfl ?_
      refine xp rfl (OpP.fieldAddr (off := 1) Tryd.underlying57 rfl rfl H.sz54 rfl) ?_
      refine xp rfl (OpP.load H.ag54 rfl (hkg.cell (i := 1) rfl)) ?_
      refine xq rfl ?_
      refine xp rfl (OpP.indexSlice Tryd.underlying54 H.sz55 rfl rfl i rfl hba (by omega)) ?_
      refine xp rfl (OpP.load H.ag55 rfl (hra 0 _ rfl)) ?_
      refine xo rfl (OpX.call (vs := [_, _]) Tryd.func64 rfl H.nm64 rfl (CallsH.toX (or_calls (OwE.read (O := fun _ => False) (h1 := fun _ => rfl) hov (fun _ _ k => k)) hw (by omega) (by omega)))) ?_
      rintro w5 g5 ⟨ho5, e5⟩
      refine xq rfl ?_
      refine xd [0, 1, 2, 7, 8, 16, 22] rfl ?_
      refine G.blkEnd ?_
      refine G.reg Tryd.func48 rfl ?_
      refine xq rfl ?_
      refine xp rfl (OpP.add64 rfl rfl ⟨by omega, by omega⟩) ?_
      refine xq rfl ?_
      refine xd [0, 1, 2, 7, 8, 16, 22] rfl ?_
      exact ih (i + 1, w5, orB cur row) _ _ ⟨rfl, rfl, rfl, rfl, rfl, trivial⟩ ⟨hia, eg.trans e5, OwnH.lower ho5 (by omega), by show (orB cur row).length = _; simp [orB]; omega, hcon⟩ (by show a.length - (i + 1) < a.length - i; omega)
    · rw [if_neg (by rw [hb]; decide)] at hcon
      refine G.skip rfl ?_
      refine G.blkEnd ?_
      refine G.reg Tryd.func48 rfl ?_
      refine xq rfl ?_
      refine xp rfl (OpP.add64 rfl rfl ⟨by omega, by omega⟩) ?_
      refine xq rfl ?_
      refine xd [0, 1, 2, 7, 8, 16, 22] rfl ?_
      exact ih (i + 1, ov, cur) _ _ ⟨rfl, rfl, rfl, rfl, rfl, trivial⟩ ⟨hia, eg, hov, hcl, hcon⟩ (by show a.length - (i + 1) < a.length - i; omega)
  · have hd : a.drop i = [] := List.drop_of_length_le (by omega)
    have hz : orsB [] (r.behind.drop i) cur = cur := by simp [orsB]
    rw [hd, hz] at hcon
    subst hcon
    generalize hfin : andB c 0 cur r.sets = fin
    have hfl : fin.length = a.length := by rw [← hfin, andB_len _ _ _ _ (by omega)]; exact hcl
    obtain ⟨ova, ovc, rfl, _⟩ := (show OwnH g h.size 4 1 ov cur.length (cur.map Value.bool) from hov).open
    refine G.exit rfl rfl ?_
    refine G.seq rfl ?_
    refine xr Tryd.func48 rfl ?_
    refine xq rfl ?_
    refine xd [0, 1, 2, 7, 8, 9, 16] rfl ?_
    refine G.block rfl rfl ?_
    refine G.loop (σ := Nat) (fun i => [(0, .pointer (some ⟨rb, 0, none⟩)), (1, .slice oa a.length ca), (2, .int .u8 (c.toNat : Nat)), (7, .slice ova cur.length ovc), (9, .int .i64 (i : Nat))]) (fun i h' => i ≤ a.length ∧ Ext0 h h' ∧ OwE Value.bool h' h.size 4 (.slice ova cur.length ovc) (fin.take i ++ cur.drop i)) (fun i => a.length - i) (0) rfl ⟨rfl, rfl, rfl, rfl, rfl, trivial⟩ ⟨Nat.zero_le _, eg, by simpa using hov⟩ ?_
    rintro i g ⟨hi, eg, hov⟩ ih
    have hkg := hk.ext0 eg
    have hzg := eg.size
    refine G.seq rfl ?_
    refine xr Tryd.func48 rfl ?_
    iterate 2 refine xq rfl ?_
    refine xp rfl (OpP.lenSlice Tryd.underlying55 rfl) ?_
    refine xq rfl ?_
    refine xd [0, 1, 2, 7, 9, 35] rfl ?_
    refine G.ite rfl rfl (fun hlt => ?_) (fun hlt => ?_)
    · have hia : i < a.length := by omega
      obtain ⟨x, hx⟩ : ∃ x, cur[i]? = some x := ⟨_, List.getElem?_eq_getElem (by omega)⟩
      obtain ⟨s, hs⟩ : ∃ s, r.sets[i]? = some s := ⟨_, List.getElem?_eq_getElem (by omega)⟩
      have hfa := andB_at c 0 cur r.sets i x s hx hs
      rw [hfin, Nat.zero_add] at hfa
      obtain ⟨hfi, hfv⟩ := List.getElem?_eq_some_iff.1 hfa
      obtain ⟨g', c', hv', hgb, _, hcell, hfz, hset⟩ := hov.at (by rw [mix_get hfl hia]; exact hx)
      rw [mix_len hfl hcl hi, ← hcl] at hv'
      cases hv'
      have hms := mix_set hfl hcl hia
      rw [hfv] at hms
      have hset := hset (x && decide (0 < i) && s.testBit c.toNat)
      rw [hms] at hset
      have fin2 : ∀ d, d = (x && decide (0 < i) && s.testBit c.toNat) → ∀ ga gb, Ext0 g ga → gb = setC ga ⟨g', 0 + i * 1, none⟩ (.bool d) → Ext0 h gb ∧ OwE Value.bool gb h.size 4 (.slice (some ⟨g', 0, none⟩) cur.length ovc) (fin.take (i + 1) ++ cur.drop (i + 1)) := by
        rintro d rfl ga gb ea rfl
        have hova := hov.ext0 ea
        obtain ⟨g2', c2', hv2, _, _, _, _, hset2⟩ := hova.at (by rw [mix_get hfl hia]; exact hx)
        rw [mix_len hfl hcl hi, ← hcl] at hv2
        cases hv2
        have hset2 := hset2 (x && decide (0 < i) && s.testBit c.toNat)
        rw [hms] at hset2
        exact ⟨Ext0.only (eg.trans ea) (Ext.setC (M := fun b => b = g') ga _ _ rfl) hgb, hset2⟩
      refine G.skip rfl ?_
      refine G.seq rfl ?_
      refine G.block rfl rfl ?_
      refine G.reg Tryd.func48 rfl ?_
      iterate 4 refine xq rfl ?_
      refine xp rfl (OpP.indexSlice Tryd.underlying55 H.sz4 rfl rfl i rfl rfl (by omega)) ?_
      refine xp rfl (OpP.load H.ag4 rfl hcell) ?_
      refine xq rfl ?_
      refine RW.split (d := 44) rfl (fun hg => ?_) (fun hg => ?_)
      · iterate 4 refine xq rfl ?_
        refine RW.split (d := 48) rfl (fun hg2 => ?_) (fun hg2 => ?_)
        · have hg2' := of_decide_eq_true hg2
          obtain ⟨b3, o3, cs3, hsa3, _, hrow3, rfl⟩ := (hss.mv (Mv.ext0 eg)).get i s hs
          iterate 2 refine xq rfl ?_
          refine xp rfl (OpP.fieldAddr (off := 0) Tryd.underlying57 rfl rfl H.sz53 rfl) ?_
          refine xp rfl (OpP.load H.ag53 rfl (hkg.cell (i := 0) rfl)) ?_
          refine xq rfl ?_
          refine xp rfl (OpP.indexSlice Tryd.underlying53 H.sz60 rfl rfl i rfl hsa3 (by omega)) ?_
          refine xp rfl (OpP.loadRowN H.ag60 H.sz60 rfl hrow3 (by first | rfl | simp)) ?_
          refine xq rfl ?_
          refine xo rfl (OpX.call (vs := [_, _]) Tryd.func65 rfl H.nm65 rfl (CallsH.toX (hasR_calls s c))) ?_
          rintro _ g5 ⟨rfl, e5⟩
          obtain ⟨g5', c5', hv5, _, _, hcell5, hfz5, _⟩ := (hov.ext0 e5).at (by rw [mix_get hfl hia]; exact hx)
          rw [mix_len hfl hcl hi, ← hcl] at hv5
          cases hv5
          refine xq rfl ?_
          refine xp rfl (OpP.indexSlice Tryd.underlying55 H.sz4 rfl rfl i rfl rfl (by omega)) ?_
          refine RW.op0 rfl rfl rfl (OpX.store H.sz4 rfl rfl rfl hcell5 hfz5) ?_
          rintro _ g6 ⟨rfl, hg6⟩
          refine xd [0, 1, 2, 7, 9, 35] rfl ?_
          refine G.blkEnd ?_
          refine G.reg Tryd.func48 rfl ?_
          refine xq rfl ?_
          refine xp rfl (OpP.add64 rfl rfl ⟨by omega, by omega⟩) ?_
          refine xq rfl ?_
          refine xd [0, 1, 2, 7, 9, 35] rfl ?_
          exact ih (i + 1) _ _ ⟨rfl, rfl, rfl, rfl, rfl, trivial⟩ ⟨hia, fin2 _ (by rw [hg, decide_eq_true (show 0 < i by omega)]; rfl) g5 g6 e5 hg6⟩ (by omega)
        · have hg2' := of_decide_eq_false hg2
          iterate 9 refine xk rfl ?_
          refine xq rfl ?_
          refine xp rfl (OpP.indexSlice Tryd.underlying55 H.sz4 rfl rfl i rfl rfl (by omega)) ?_
          refine RW.op0 rfl rfl rfl (OpX.store H.sz4 rfl rfl rfl hcell hfz) ?_
          rintro _ g6 ⟨rfl, hg6⟩
          refine xd [0, 1, 2, 7, 9, 35] rfl ?_
          refine G.blkEnd ?_
          refine G.reg Tryd.func48 rfl ?_
          refine xq rfl ?_
          refine xp rfl (OpP.add64 rfl rfl ⟨by omega, by omega⟩) ?_
          refine xq rfl ?_
          refine xd [0, 1, 2, 7, 9, 35] rfl ?_
          exact ih (i + 1) _ _ ⟨rfl, rfl, rfl, rfl, rfl, trivial⟩ ⟨hia, fin2 _ (by rw [decide_eq_false (show ¬ 0 < i by omega)]; simp) g g6 (Ext.refl _ _) hg6⟩ (by omega)
      · iterate 2 refine xk rfl ?_
        iterate 2 refine xq rfl ?_
        iterate 9 refine xk rfl ?_
        refine xq rfl ?_
        refine xp rfl (OpP.indexSlice Tryd.underlying55 H.sz4 rfl rfl i rfl rfl (by omega)) ?_
        refine RW.op0 rfl rfl rfl (OpX.store H.sz4 rfl rfl rfl hcell hfz) ?_
        rintro _ g6 ⟨rfl, hg6⟩
        refine xd [0, 1, 2, 7, 9, 35] rfl ?_
        refine G.blkEnd ?_
        refine G.reg Tryd.func48 rfl ?_
        refine xq rfl ?_
        refine xp rfl (OpP.add64 rfl rfl ⟨by omega, by omega⟩) ?_
        refine xq rfl ?_
        refine xd [0, 1, 2, 7, 9, 35] rfl ?_
        exact ih (i + 1) _ _ ⟨rfl, rfl, rfl, rfl, rfl, trivial⟩ ⟨hia, fin2 _ (by rw [hg]; rfl) g g6 (Ext.refl _ _) hg6⟩ (by omega)
    · have hie : i = a.length := by omega
      rw [List.take_of_length_le (by omega), List.drop_of_length_le (by omega), List.append_nil] at hov
      refine G.exit rfl rfl ?_
      refine xr Tryd.func48 rfl ?_
      iterate 2 refine xq rfl ?_
      refine xd [0, 1, 2, 6, 7, 9, 35] rfl ?_
      refine G.ret Tryd.func48 rfl rfl ?_
      refine ⟨_, rfl, ?_, eg⟩
      rw [stepR, htgt, hfin]
      exact hov
def eRu : Elt RuP := ⟨1, by decide, fun h O cs r => ∃ rb, cs = [.pointer (some ⟨rb, 0, none⟩)] ∧ RuRd h O rb r, fun h => by obtain ⟨rb, rfl, _⟩ := h; rfl, fun h => by
    obtain ⟨rb, rfl, _⟩ := h
    intro u hu
    simp at hu; subst hu; rfl, fun h m => by
    obtain ⟨rb, hc, hv⟩ := h; exact ⟨rb, hc, hv.mv m⟩⟩
def rulesE : List By → Int
  | [] => 0
  | s :: r => if (parseE s).2 ≠ 0 then (parseE s).2 else rulesE r
def rulesP (l : List By) : Int := if l.length = 0 ∨ 64 < l.length then 2 else if rulesE l ≠ 0 then rulesE l else if 2000 < totL l then 70 else 0
def rulesR (l : List By) : List RuP := l.map fun s => ofP (parseE s).1
def RulesV (h h' : Heap) (l : List By) (r : Value) : Prop :=
  ∃ v, r = .tuple #[v, .int .i64 (rulesP l)] ∧ (rulesP l = 0 → SlR eRu h' (fun b => b < h.size) v (rulesR l))
theorem rules_calls {h : Heap} {rv : Value} {rules : List By} (hr : SlR eBy h (fun _ => False) rv rules) (hrl : ∀ s ∈ rules, s.length ≤ 1000000) :
    CallsH Tryd.prog 17 #[rv] h (Ret fun r h' => RulesV h h' rules r ∧ Ext0 h h') := by
  obtain ⟨oa, kn, kc, rfl, hsl⟩ := id hr.open
  have hkn := hsl.len
  have hkc := hsl.le
  have hcap := hsl.cap
  generalize htgt : rulesE rules = tgt
  refine CallsH.of Tryd.func17 rfl rfl ?_
  refine xr Tryd.func17 rfl ?_
  iterate 2 refine xq rfl ?_
  refine xd [0, 2, 3] rfl ?_
  refine G.seq rfl ?_
  refine G.seq rfl ?_
  refine G.regTo1 [(16, .bool (decide (kn = 0 ∨ 64 < kn)))] [(0, _), (2, _), (3, _)] ⟨rfl, rfl, rfl, trivial⟩ Tryd.func17 rfl ?_ ?_
  · refine xq rfl ?_
    refine xp rfl (OpP.lenSlice Tryd.underlying22 rfl) ?_
    iterate 2 refine xq rfl ?_
    refine RW.split (d := 12) rfl (fun hg => ?_) (fun hg => ?_)
    · iterate 3 refine xk rfl ?_
      refine xq rfl ?_
      refine RW.done rfl ?_
      exact ⟨rfl, at_bool rfl (by have := of_decide_eq_true hg; simp; omega), rfl, rfl, rfl, trivial⟩
    · refine xq rfl ?_
      refine xp rfl (OpP.lenSlice Tryd.underlying22 rfl) ?_
      iterate 2 refine xq rfl ?_
      refine RW.done rfl ?_
      exact ⟨rfl, at_bool rfl (by have := of_decide_eq_false hg; simp only [decide_eq_decide]; omega), rfl, rfl, rfl, trivial⟩
  · refine G.ite rfl rfl (fun hbig => ?_) (fun hbig => ?_)
    · refine xr Tryd.func17 rfl ?_
      iterate 2 refine xq rfl ?_
      refine xd [0, 2, 3, 16] rfl ?_
      refine G.ret Tryd.func17 rfl rfl ?_
      have hp : rulesP rules = 2 := by unfold rulesP; rw [if_pos (by omega)]
      exact ⟨_, rfl, ⟨_, by rw [hp]; rfl, fun k => by rw [hp] at k; cases k⟩, Ext.refl _ _⟩
    · have hp : rulesP rules = if rulesE rules ≠ 0 then rulesE rules else if 2000 < totL rules then 70 else 0 := by unfold rulesP; rw [if_neg (by omega)]
      rw [htgt] at hp
      refine G.skip rfl ?_
      refine xr Tryd.func17 rfl ?_
      refine xq rfl ?_
      refine xd [0, 2, 3, 4, 16] rfl ?_
      refine xr Tryd.func17 rfl ?_
      refine xq rfl ?_
      refine xd [0, 2, 3, 4, 5, 16] rfl ?_
      refine G.seq rfl ?_
      refine xr Tryd.func17 rfl ?_
      refine xq rfl ?_
      refine xd [0, 2, 3, 4, 5, 6, 16] rfl ?_
      refine G.block rfl rfl ?_
      refine G.loop (σ := Nat × Value) (fun q => [(0, .slice oa kn kc), (4, q.2), (5, .int .i64 (totL (rules.take q.1) : Nat)), (6, .int .i64 (q.1 : Nat))]) (fun q h' => q.1 ≤ kn ∧ Ext0 h h' ∧ OwX eRu (fun b => b < h.size) h' h.size 58 q.2 (rulesR (rules.take q.1)) ∧ totL (rules.take q.1) ≤ 200 * q.1 ∧ rulesE (rules.drop q.1) = tgt) (fun q => kn - q.1) ((0, .slice none 0 0)) rfl ⟨rfl, rfl, rfl, rfl, trivial⟩ ⟨Nat.zero_le _, Ext.refl _ _, OwX.nil _ _ _ _ _, by simp [totL], htgt⟩ ?_
      rintro ⟨i, ov⟩ g ⟨hi, eg, hov, htot, hcon⟩ ih
      try dsimp only
      dsimp only at hi hov htot hcon
      have hzg := eg.size
      refine G.seq rfl ?_
      refine xr Tryd.func17 rfl ?_
      iterate 2 refine xq rfl ?_
      refine xp rfl (OpP.lenSlice Tryd.underlying22 rfl) ?_
      refine xq rfl ?_
      refine xd [0, 4, 5, 6, 20] rfl ?_
      refine G.ite rfl rfl (fun hlt => ?_) (fun hlt => ?_)
      · obtain ⟨s, hs⟩ : ∃ s, rules[i]? = some s := ⟨_, List.getElem?_eq_getElem (by omega)⟩
        have hdr : rules.drop i = s :: rules.drop (i + 1) := by
          obtain ⟨hi', rfl⟩ := List.getElem?_eq_some_iff.1 hs
          exact List.drop_eq_getElem_cons hi'
        rw [hdr, rulesE] at hcon
        obtain ⟨oa', n', c', hv', _, _, _, hget⟩ := id (hr.ext0 eg)
        cases hv'
        obtain ⟨b, o, cs, ha, hob, hrow, rfl⟩ := hget i s hs
        refine G.skip rfl ?_
        refine G.seq rfl ?_
        refine G.block rfl rfl ?_
        refine xr Tryd.func17 rfl ?_
        iterate 2 refine xq rfl ?_
        refine xp rfl (OpP.indexSlice Tryd.underlying22 H.sz9 rfl rfl i rfl ha (by omega)) ?_
        refine xp rfl (OpP.load H.ag9 rfl (hrow 0 _ rfl)) ?_
        refine xo rfl (OpX.call (vs := [_]) Tryd.func42 rfl H.nm42 rfl (CallsH.toX (parseR_calls s (hrl s (List.mem_of_getElem? hs))))) ?_
        rintro _ g1 ⟨⟨w, rfl, hnd⟩, e01⟩
        iterate 3 refine xq rfl ?_
        refine xo rfl (OpX.allocN H.zr94) ?_
        rintro _ g2 ⟨rfl, k9, e12, z12⟩
        refine RW.op0 rfl rfl rfl (OpX.storeBlk H.sz94 rfl rfl k9 (by first | rfl | simp) (by first | decide | exact of_decide_eq_true rfl | (simp; done) | (simp; omega)) (NdAt.one hnd)) ?_
        rintro _ g3 ⟨rfl, k9', e23, z23⟩
        refine xq rfl ?_
        refine xd [0, 4, 5, 6, 7, 8, 20] rfl ?_
        refine G.seq rfl ?_
        refine xr Tryd.func17 rfl ?_
        iterate 2 refine xq rfl ?_
        refine xd [0, 4, 5, 6, 7, 8, 20, 32] rfl ?_
        have k9' : Blk g3 g1.size 94 (ndC (parseE s).1.kind (parseE s).1.set w) := k9'
        have e13 : Ext0 g1 g3 := Ext0.only e12 e23 (Nat.le_refl _)
        have z01 := e01.size
        have z13 := e13.size
        refine G.ite rfl rfl (fun herr => ?_) (fun herr => ?_)
        · rw [if_pos (by exact herr)] at hcon
          have hp' : rulesP rules = (parseE s).2 := by rw [hp, ← hcon, if_pos herr]
          refine xr Tryd.func17 rfl ?_
          iterate 3 refine xq rfl ?_
          refine xd [0, 2, 3, 4, 5, 6, 7, 8, 20, 32] rfl ?_
          refine G.ret Tryd.func17 rfl rfl ?_
          exact ⟨_, rfl, ⟨_, by rw [hp']; rfl, fun k => by rw [hp'] at k; exact absurd k herr⟩, (eg.trans e01).trans e13⟩
        · have h0 : (parseE s).2 = 0 := by simpa using herr
          rw [if_neg (by simpa using h0)] at hcon
          have hsmall := parseE_small h0
          obtain ⟨css, hc1, hc2, hc3⟩ := id hov
          have hrl2 : (rulesR (rules.take i)).length = i := by simp [rulesR]; omega
          refine G.skip rfl ?_
          refine xr Tryd.func17 rfl ?_
          refine xq rfl ?_
          refine xp rfl (OpP.loadRowN H.ag94 H.sz94 rfl k9'.row (by first | rfl | simp)) ?_
          refine xo rfl (OpX.call (vs := [_]) Tryd.func43 rfl H.nm43 rfl (CallsH.toX (of_calls (hnd.ext0 e13) hsmall.2.1 (by omega)))) ?_
          rintro _ g4 ⟨rb, rfl, hrd, e34⟩
          have z34 := e34.size
          have e04 : Ext0 g g4 := (e01.trans e13).trans e34
          refine xo rfl (OpX.buildOnes (us := [_]) Tryd.underlying28 H.el58 rfl rfl (by decide) (by simp [Value.oneCell'])) ?_
          rintro _ _ ⟨rfl, rfl⟩
          refine xo rfl (OpX.appendNew Tryd.underlying28 H.el58 rfl rfl ((hc2.ext0' e04)) rfl rfl (by first | decide | simp [Value.oneCell']) (by omega) (by decide) (by omega)) ?_
          rintro v2 g6 ⟨ho6, hx6, hx6', hv6⟩
          have htk : rules.take (i + 1) = rules.take i ++ [s] := by rw [List.take_add_one, hs]; rfl
          have hrt : rulesR (rules.take (i + 1)) = rulesR (rules.take i) ++ [ofP (parseE s).1] := by rw [htk]; simp [rulesR]
          have hown : ∀ b, ov.ownBlock = some b → h.size ≤ b ∧ b < g.size := fun b hb => hc2.lt hb
          have hrow6 : OwX eRu (fun b => b < h.size) g6 h.size 58 v2 (rulesR (rules.take (i + 1))) := by
            rw [hrt]
            exact OwX.pushed (h := g4) (v := ov) (css := css) (cs := [.pointer (some ⟨rb, 0, none⟩)]) hc1 (fun j cs y a b => eRu.mv (hc3 j cs y a b) (Mv.ext0 e04)) ho6 hx6 hv6 ⟨rb, rfl, hrd.mv ⟨Nat.le_refl _, fun b hb hn => ⟨rfl, fun k => hn (by
              rcases k with k | k
              · have := hown b k.symm; omega
              · omega)⟩⟩⟩
          have htt := totL_take hs
          have e06 : Ext0 h g6 := ⟨by have := hx6.size; omega, fun b hb k => by
            rw [hx6.block b (by omega) (fun k2 => by have := hown b k2.symm; omega), e04.block b (by omega) (fun k => k)]; exact eg.block b hb k⟩
          obtain ⟨oa', n', c', hv', _, _, _, hget⟩ := id (hr.ext0 e06)
          cases hv'
          obtain ⟨b, o, cs, ha, hob, hrow, rfl⟩ := hget i s hs
          have hv5 : ((totL (rules.take i) : Nat) : Int) + ((bs s).size : Nat) = (totL (rules.take (i + 1)) : Nat) := by rw [bs_size s]; omega
          have hbs := bs_size s
          refine xq rfl ?_
          refine xd [0, 4, 5, 6, 7, 8, 20, 32] rfl ?_
          refine G.reg Tryd.func17 rfl ?_
          iterate 3 refine xq rfl ?_
          refine xp rfl (OpP.indexSlice Tryd.underlying22 H.sz9 rfl rfl i rfl ha (by omega)) ?_
          refine xp rfl (OpP.load H.ag9 rfl (hrow 0 _ rfl)) ?_
          refine xp rfl (OpP.lenString Tryd.underlying9 rfl) ?_
          refine xp rfl (OpP.add64 rfl rfl ⟨by omega, by omega⟩) ?_
          refine xq rfl ?_
          refine xd [0, 4, 5, 6, 7, 8, 20, 32] rfl ?_
          refine G.blkEnd ?_
          refine G.reg Tryd.func17 rfl ?_
          refine xq rfl ?_
          refine xp rfl (OpP.add64 rfl rfl ⟨by omega, by omega⟩) ?_
          refine xq rfl ?_
          refine xd [0, 4, 5, 6, 7, 8, 20, 32] rfl ?_
          exact ih (i + 1, v2) _ _ ⟨rfl, rfl, by rw [← hv5]; rfl, rfl, trivial⟩ ⟨by show i + 1 ≤ kn; omega, e06, hrow6, by show totL (rules.take (i + 1)) ≤ 200 * (i + 1); omega, hcon⟩ (by show kn - (i + 1) < kn - i; omega)
      · have hie : i = rules.length := by omega
        subst hie
        rw [List.take_length] at hov htot
        have hnil : rules.drop rules.length = [] := List.drop_length
        rw [hnil, rulesE] at hcon
        subst hcon
        rw [if_neg (by decide)] at hp
        refine G.exit rfl rfl ?_
        refine G.seq rfl ?_
        refine xr Tryd.func17 rfl ?_
        iterate 2 refine xq rfl ?_
        refine xd [0, 4, 5, 6, 20, 47] rfl ?_
        refine G.ite rfl rfl (fun hlong => ?_) (fun hlong => ?_)
        · rw [List.take_length] at hlong
          have hp' : rulesP rules = 70 := by rw [hp, if_pos (by omega)]
          refine xr Tryd.func17 rfl ?_
          iterate 2 refine xq rfl ?_
          refine xd [0, 2, 3, 4, 5, 6, 20, 47] rfl ?_
          refine G.ret Tryd.func17 rfl rfl ?_
          exact ⟨_, rfl, ⟨_, by rw [hp']; rfl, fun k => by rw [hp'] at k; cases k⟩, eg⟩
        · rw [List.take_length] at hlong
          have hp' : rulesP rules = 0 := by rw [hp, if_neg (by omega)]
          refine G.skip rfl ?_
          refine xr Tryd.func17 rfl ?_
          iterate 3 refine xq rfl ?_
          refine xd [0, 2, 3, 4, 5, 6, 20, 47] rfl ?_
          refine G.ret Tryd.func17 rfl rfl ?_
          exact ⟨_, rfl, ⟨_, by rw [hp']; rfl, fun _ => hov.read (fun b hb k => by omega) (fun b _ k => k)⟩, eg⟩
def refA (rs : List RuP) (s : By) (a : Int) : Int × Int × Int := if a < 0 ∨ (s.length : Int) < a then (0, -1, 0) else refMatch rs (s.drop a.toNat)
def RsOk (rs : List RuP) : Prop := ∀ r ∈ rs, ∃ n, RuleOk r n ∧ n ≤ 1000000
def refB (r : RuP) (ri : Nat) (now : List Bool) (k : Nat) (b : Int × Int × Int) : Int × Int × Int := if endsR r now = true ∧ (b.2.1 < 0 ∨ b.1 < k) then (k, ri, if b.2.2 < k then (k : Int) else b.2.2) else (b.1, b.2.1, if b.2.2 < k then (k : Int) else b.2.2)
theorem matchR_calls {h : Heap} {v : Value} {O : Nat → Prop} {rs : List RuP} {s : By} {a : Int} (hr : SlR eRu h O v rs) (hok : RsOk rs) (hrl : rs.length ≤ 1000000) (hs : s.length ≤ 1000000) :
    CallsH Tryd.prog 20 #[v, .string (bs s), .int .i64 a] h (Ret fun r h' => r = .tuple #[.int .i64 (refA rs s a).1, .int .i64 (refA rs s a).2.1, .int .i64 (refA rs s a).2.2] ∧ Ext0 h h') := by
  have hbs := bs_size s
  obtain ⟨oa, rn, rc, rfl, hsl⟩ := hr.open
  have hrn := hsl.len
  refine CallsH.of Tryd.func20 rfl rfl ?_
  refine xr Tryd.func20 rfl ?_
  iterate 3 refine xq rfl ?_
  refine xd [0, 1, 2, 6, 7, 8] rfl ?_
  refine xr Tryd.func20 rfl ?_
  iterate 3 refine xq rfl ?_
  refine xd [0, 1, 2, 6, 7, 8, 9, 10, 11] rfl ?_
  refine G.seq rfl ?_
  refine G.seq rfl ?_
  refine G.regTo1 [(22, .bool (decide (a < 0 ∨ (s.length : Int) < a)))] [(0, _), (1, _), (2, _), (6, _), (7, _), (8, _), (9, _), (10, _), (11, _)] ⟨rfl, rfl, rfl, rfl, rfl, rfl, rfl, rfl, rfl, trivial⟩ Tryd.func20 rfl ?_ ?_
  · iterate 3 refine xq rfl ?_
    refine RW.split (d := 17) rfl (fun hg => ?_) (fun hg => ?_)
    · have hg' := of_decide_eq_true hg
      iterate 4 refine xk rfl ?_
      refine xq rfl ?_
      refine RW.done rfl ?_
      exact ⟨rfl, at_bool rfl (by simp [hg']), rfl, rfl, rfl, rfl, rfl, rfl, rfl, rfl, rfl, trivial⟩
    · have hg' := of_decide_eq_false hg
      iterate 2 refine xq rfl ?_
      refine xp rfl (OpP.lenString Tryd.underlying9 rfl) ?_
      iterate 2 refine xq rfl ?_
      refine RW.done rfl ?_
      exact ⟨rfl, at_bool rfl (by simp only [decide_eq_decide]; omega), rfl, rfl, rfl, rfl, rfl, rfl, rfl, rfl, rfl, trivial⟩
  · refine G.ite rfl rfl (fun hz => ?_) (fun hz => ?_)
    · refine xr Tryd.func20 rfl ?_
      iterate 3 refine xq rfl ?_
      refine xd [0, 1, 2, 6, 7, 8, 9, 10, 11, 22] rfl ?_
      refine G.ret Tryd.func20 rfl rfl ?_
      rw [refA, if_pos hz]
      exact ⟨_, rfl, rfl, Ext.refl _ _⟩
    · obtain ⟨k0, rfl⟩ := Int.eq_ofNat_of_zero_le (show 0 ≤ a by omega)
      have hk : k0 ≤ s.length := by omega
      have hma : refA rs s (k0 : Nat) = refGs 0 rs (s.drop k0) (0, -1, 0) := by rw [refA, if_neg hz]; rfl
      rw [hma]
      generalize htgt : refGs 0 rs (s.drop k0) (0, -1, 0) = tgt
      refine G.skip rfl ?_
      refine G.seq rfl ?_
      refine xr Tryd.func20 rfl ?_
      refine xq rfl ?_
      refine xd [0, 1, 2, 6, 7, 8, 9, 10, 11, 12, 22] rfl ?_
      refine G.block rfl rfl ?_
      refine G.loop (σ := Nat × Int × Int × Int) (fun q => [(0, .slice oa rn rc), (1, .string (bs s)), (2, .int .i64 (k0 : Nat)), (9, .int .i64 q.2.1), (10, .int .i64 q.2.2.1), (11, .int .i64 q.2.2.2), (12, .int .i64 (q.1 : Nat))]) (fun q h' => Ext0 h h' ∧ q.1 ≤ rn ∧ refGs q.1 (rs.drop q.1) (s.drop k0) q.2 = tgt) (fun q => rn - q.1) ((0, 0, -1, 0)) rfl ⟨rfl, rfl, rfl, rfl, rfl, rfl, rfl, trivial⟩ ⟨Ext.refl _ _, Nat.zero_le _, htgt⟩ ?_
      rintro ⟨i, b⟩ g ⟨eg, hi, hcon⟩ ih
      try dsimp only
      dsimp only at hi hcon
      refine G.seq rfl ?_
      refine xr Tryd.func20 rfl ?_
      iterate 2 refine xq rfl ?_
      refine xp rfl (OpP.lenSlice Tryd.underlying28 rfl) ?_
      refine xq rfl ?_
      refine xd [0, 1, 2, 9, 10, 11, 12, 26] rfl ?_
      refine G.ite rfl rfl (fun hlt => ?_) (fun hlt => ?_)
      · obtain ⟨r, hri⟩ : ∃ r, rs[i]? = some r := ⟨_, List.getElem?_eq_getElem (by omega)⟩
        obtain ⟨n, hrok, hn⟩ := hok r (List.mem_of_getElem? hri)
        have hdr : rs.drop i = r :: rs.drop (i + 1) := by
          obtain ⟨hi', rfl⟩ := List.getElem?_eq_some_iff.1 hri
          exact List.drop_eq_getElem_cons hi'
        rw [hdr, refGs] at hcon
        obtain ⟨b1, o1, cs1, hoa, _, hrow, ⟨rb, rfl, hrd⟩⟩ := (hsl.mv (Mv.ext0 eg)).get i r hri
        refine G.skip rfl ?_
        refine G.seq rfl ?_
        refine G.block rfl rfl ?_
        refine xr Tryd.func20 rfl ?_
        iterate 2 refine xq rfl ?_
        refine xp rfl (OpP.indexSlice Tryd.underlying28 H.sz58 rfl rfl i rfl hoa (by omega)) ?_
        refine xp rfl (OpP.load H.ag58 rfl (hrow 0 _ rfl)) ?_
        refine xo rfl (OpX.call (vs := [_]) Tryd.func45 rfl H.nm45 rfl (CallsH.toX (startR_calls hrd hrok hn))) ?_
        rintro w1 g1 ⟨ho1, e1⟩
        refine xq rfl ?_
        refine xd [0, 1, 2, 9, 10, 11, 12, 13, 26] rfl ?_
        refine xr Tryd.func20 rfl ?_
        iterate 2 refine xq rfl ?_
        refine xd [0, 1, 2, 9, 10, 11, 12, 13, 14, 26] rfl ?_
        refine G.block rfl rfl ?_
        refine G.loop (σ := Nat × Value × List Bool × Int × Int × Int) (fun q => [(0, .slice oa rn rc), (1, .string (bs s)), (2, .int .i64 (k0 : Nat)), (9, .int .i64 q.2.2.2.1), (10, .int .i64 q.2.2.2.2.1), (11, .int .i64 q.2.2.2.2.2), (12, .int .i64 (i : Nat)), (13, q.2.1), (14, .int .i64 (q.1 : Nat))]) (fun q h' => Ext0 h h' ∧ k0 ≤ q.1 ∧ q.1 ≤ s.length ∧ OwE Value.bool h' h.size 4 q.2.1 q.2.2.1 ∧ q.2.2.1.length = r.sets.length ∧ refGs (i + 1) (rs.drop (i + 1)) (s.drop k0) (refG r i (s.drop q.1) q.2.2.1 (q.1 - k0) q.2.2.2) = tgt) (fun q => s.length - q.1) ((k0, w1, startR r, b)) rfl ⟨rfl, rfl, rfl, rfl, rfl, rfl, rfl, rfl, rfl, trivial⟩ ⟨eg.trans e1, Nat.le_refl _, hk, OwnH.lower ho1 eg.size, startR_len r, by rw [Nat.sub_self]; exact hcon⟩ ?_
        rintro ⟨j, nv, now, b⟩ g2 ⟨eg2, hkj, hj, hnv, hnl, hcon⟩ ih2
        try dsimp only
        dsimp only at hkj hj hnv hnl hcon
        have hzg2 := eg2.size
        have hnr : SlR .bool g2 (fun _ => False) nv now := OwE.read (h1 := fun _ => rfl) hnv (fun _ _ k => k)
        have hrs := hrok.sets
        have hjk : (j : Int) - (k0 : Nat) = ((j - k0 : Nat) : Int) := by omega
        obtain ⟨b1, o1, cs1, hoa, _, hrow, ⟨rb2, rfl, hrd⟩⟩ := (hsl.mv (Mv.ext0 eg2)).get i r hri
        refine G.seq rfl ?_
        refine xr Tryd.func20 rfl ?_
        refine xq rfl ?_
        refine xo rfl (OpX.call (vs := [_]) Tryd.func46 rfl H.nm46 rfl (CallsH.toX (anyR_calls hnr (by omega)))) ?_
        rintro _ g3 ⟨rfl, hg3⟩
        refine xd [0, 1, 2, 9, 10, 11, 12, 13, 14, 36] rfl ?_
        subst hg3
        refine G.cond rfl rfl (fun hany => ?_) (fun hany => ?_)
        · refine G.skip rfl ?_
          refine G.seq rfl ?_
          refine G.block rfl rfl ?_
          refine xr Tryd.func20 rfl ?_
          iterate 3 refine xq rfl ?_
          refine xp rfl (OpP.sub64 rfl rfl ⟨by omega, by omega⟩) ?_
          refine xp rfl (OpP.max2 rfl rfl) ?_
          refine xq rfl ?_
          refine xd [0, 1, 2, 9, 10, 11, 12, 13, 14, 36] rfl ?_
          refine G.seq rfl ?_
          refine G.seq rfl ?_
          refine G.regTo1 [(60, .bool (decide (endsR r now = true ∧ (b.2.1 < 0 ∨ b.1 < ((j - k0 : Nat) : Int)))))] [(0, _), (1, _), (2, _), (9, _), (10, _), (11, _), (12, _), (13, _), (14, _), (36, _)] ⟨rfl, rfl, rfl, rfl, rfl, rfl, rfl, rfl, rfl, rfl, trivial⟩ Tryd.func20 rfl ?_ ?_
          · iterate 2 refine xq rfl ?_
            refine xp rfl (OpP.indexSlice Tryd.underlying28 H.sz58 rfl rfl i rfl hoa (by omega)) ?_
            refine xp rfl (OpP.load H.ag58 rfl (hrow 0 _ rfl)) ?_
            refine xq rfl ?_
            refine xo rfl (OpX.call (vs := [_, _]) Tryd.func47 rfl H.nm47 rfl (CallsH.toX (endsR_calls hrd hrok hnr hnl hn))) ?_
            rintro _ g4 ⟨rfl, hg4⟩
            subst hg4
            refine xq rfl ?_
            refine RW.split (d := 50) rfl (fun hg => ?_) (fun hg => ?_)
            · iterate 3 refine xq rfl ?_
              refine RW.split (d := 53) rfl (fun hg2 => ?_) (fun hg2 => ?_)
              · have hg2' := of_decide_eq_true hg2
                iterate 5 refine xk rfl ?_
                iterate 2 refine xq rfl ?_
                refine RW.done rfl ?_
                exact ⟨rfl, at_bool rfl (by simp [hg, hg2']), rfl, rfl, rfl, rfl, rfl, rfl, rfl, rfl, rfl, rfl, trivial⟩
              · have hg2' := of_decide_eq_false hg2
                iterate 2 refine xq rfl ?_
                refine xp rfl (OpP.sub64 rfl rfl ⟨by omega, by omega⟩) ?_
                iterate 4 refine xq rfl ?_
                refine RW.done rfl ?_
                exact ⟨rfl, at_bool rfl (by simp only [hg, true_and, decide_eq_decide]; omega), rfl, rfl, rfl, rfl, rfl, rfl, rfl, rfl, rfl, rfl, trivial⟩
            · iterate 9 refine xk rfl ?_
              refine xq rfl ?_
              refine RW.done rfl ?_
              exact ⟨rfl, at_bool rfl (by simp [hg]), rfl, rfl, rfl, rfl, rfl, rfl, rfl, rfl, rfl, rfl, trivial⟩
          · generalize hb' : refB r i now (j - k0) b = b' at *
            have fin : ∀ (_u : Unit) (h' : Heap) (ρ' : Env), Sub [(0, .slice oa rn rc), (1, .string (bs s)), (2, .int .i64 (k0 : Nat)), (9, .int .i64 b'.1), (10, .int .i64 b'.2.1), (11, .int .i64 b'.2.2), (12, .int .i64 (i : Nat)), (13, nv), (14, .int .i64 (j : Nat))] ρ' → h' = g3 → G Tryd.prog 20 Tryd.f20 [.code [1, 1, 0, 0, 1, 0, 0, 1, 1, 0, 0, 1, 0, 0, 1, 0, 1, 1, 1], .blk 3, .code [1, 1, 0, 0, 1, 1, 0, 0, 1, 0, 0, 1, 0, 1, 1, 1], .loop [0, 0, 1, 1, 0, 0, 1, 0, 0, 1, 0, 1, 1, 1], .blk 2, .blk 1, .code [1, 1, 0, 0, 1, 0, 1, 1, 1], .loop [0, 0, 1, 0, 1, 1, 1], .blk 0, .code [1, 1, 1, 1]] ρ' h' (Ret fun r h' => r = .tuple #[.int .i64 tgt.1, .int .i64 tgt.2.1, .int .i64 tgt.2.2] ∧ Ext0 h h') := by
              rintro _u g4 ρ' hsub rfl
              refine G.sub (ρ' := [(0, .slice oa rn rc), (1, .string (bs s)), (2, .int .i64 (k0 : Nat)), (9, .int .i64 b'.1), (10, .int .i64 b'.2.1), (11, .int .i64 b'.2.2), (12, .int .i64 (i : Nat)), (13, nv), (14, .int .i64 (j : Nat))]) hsub ?_
              refine G.seq rfl ?_
              refine xr Tryd.func20 rfl ?_
              iterate 2 refine xq rfl ?_
              refine xp rfl (OpP.lenString Tryd.underlying9 rfl) ?_
              refine xq rfl ?_
              refine xd [0, 1, 2, 9, 10, 11, 12, 13, 14, 68] rfl ?_
              refine G.ite rfl rfl (fun hend => ?_) (fun hend => ?_)
              · have hje : j = s.length := by omega
                have hd : s.drop j = [] := List.drop_of_length_le (by omega)
                rw [hd, refG, if_neg (by rw [hany]; decide)] at hcon
                have hcon : refGs (i + 1) (rs.drop (i + 1)) (s.drop k0) b' = tgt := by rw [← hb', ← hcon]; rfl
                refine G.exit rfl rfl ?_
                refine G.blkEnd ?_
                refine G.reg Tryd.func20 rfl ?_
                refine xq rfl ?_
                refine xp rfl (OpP.add64 rfl rfl ⟨by omega, by omega⟩) ?_
                refine xq rfl ?_
                refine xd [0, 1, 2, 9, 10, 11, 12, 13, 14, 68] rfl ?_
                exact ih (i + 1, b') _ _ ⟨rfl, rfl, rfl, rfl, rfl, rfl, rfl, trivial⟩ ⟨eg2, by show i + 1 ≤ rn; omega, hcon⟩ (by show rn - (i + 1) < rn - i; omega)
              · have hje : j < s.length := by omega
                have hd : s.drop j = s[j] :: s.drop (j + 1) := List.drop_eq_getElem_cons hje
                rw [hd, refG, if_neg (by rw [hany]; decide)] at hcon
                have hcon : refGs (i + 1) (rs.drop (i + 1)) (s.drop k0) (refG r i (s.drop (j + 1)) (stepR r now s[j]) (j - k0 + 1) b') = tgt := by rw [← hb', ← hcon]; rfl
                refine G.skip rfl ?_
                refine G.draw (fun b => Array.size g4 ≤ b) (fun i => Nat.blt i 10) (sz := 10) (listed := #[false, false, false, false, false, false, false, false, false, false]) Tryd.func20 H.mixed rfl rfl rfl ?_
                refine RD.takeS 0 (listed' := #[true, false, false, false, false, false, false, false, false, false]) rfl (by kernel_rfl) (by kernel_rfl) (by kernel_rfl) rfl rfl rfl (fun h' e => OpP.move rfl) rfl ?_
                refine RD.takeS 1 (listed' := #[true, true, false, false, false, false, false, false, false, false]) rfl (by kernel_rfl) (by kernel_rfl) (by kernel_rfl) rfl rfl rfl (fun h' e => OpP.move rfl) rfl ?_
                refine RD.takeS 2 (listed' := #[true, true, true, false, false, false, false, false, false, false]) rfl (by kernel_rfl) (by kernel_rfl) (by kernel_rfl) rfl rfl rfl (fun h' e => OpP.indexSlice Tryd.underlying28 H.sz58 rfl rfl i rfl hoa (by omega)) rfl ?_
                refine RD.takeS 3 (listed' := #[true, true, true, true, false, false, false, false, false, false]) rfl (by kernel_rfl) (by kernel_rfl) (by kernel_rfl) rfl rfl rfl (fun h' e => OpP.load H.ag58 rfl (e.old (hrow 0 _ rfl))) rfl ?_
                refine RD.takeS 4 (listed' := #[true, true, true, true, true, false, false, false, false, false]) rfl (by kernel_rfl) (by kernel_rfl) (by kernel_rfl) rfl rfl rfl (fun h' e => OpP.move rfl) rfl ?_
                refine RD.takeS 5 (listed' := #[true, true, true, true, true, true, false, false, false, false]) rfl (by kernel_rfl) (by kernel_rfl) (by kernel_rfl) rfl rfl rfl (fun h' e => OpP.move rfl) rfl ?_
                refine RD.takeS 6 (listed' := #[true, true, true, true, true, true, true, false, false, false]) rfl (by kernel_rfl) (by kernel_rfl) (by kernel_rfl) rfl rfl rfl (fun h' e => OpP.move rfl) rfl ?_
                refine RD.takeS 7 (listed' := #[true, true, true, true, true, true, true, true, false, false]) rfl (by kernel_rfl) (by kernel_rfl) (by kernel_rfl) rfl rfl rfl (fun h' e => OpP.indexStr Tryd.underlying9 rfl rfl j rfl (bs_at (List.getElem?_eq_getElem hje))) rfl ?_
                refine RD.oneS 8 (listed' := #[true, true, true, true, true, true, true, true, true, false]) rfl (by kernel_rfl) rfl rfl rfl (OpX.call (vs := [_, _, _]) Tryd.func48 rfl H.nm48 rfl (CallsH.toX (stepR_calls s[j] hrd hrok hnr hnl hn))) rfl ?_
                rintro w5 g5 ⟨ho5, e5⟩
                refine ⟨fun _ => e5.mono (fun _ _ k => k.elim), ?_⟩
                refine RD.takeS 9 (listed' := #[true, true, true, true, true, true, true, true, true, true]) rfl (by kernel_rfl) (by kernel_rfl) (by kernel_rfl) rfl rfl rfl (fun h' e => OpP.assign rfl) rfl ?_
                refine RD.done (by kernel_rfl) ?_
                refine xu [0, 1, 2, 9, 10, 11, 12, 13, 14, 68] rfl ?_
                refine G.blkEnd ?_
                refine G.reg Tryd.func20 rfl ?_
                refine xq rfl ?_
                refine xp rfl (OpP.add64 rfl rfl ⟨by omega, by omega⟩) ?_
                refine xq rfl ?_
                refine xd [0, 1, 2, 9, 10, 11, 12, 13, 14, 68] rfl ?_
                exact ih2 (j + 1, w5, stepR r now s[j], b') _ _ ⟨rfl, rfl, rfl, rfl, rfl, rfl, rfl, rfl, rfl, trivial⟩ ⟨eg2.trans e5, by show k0 ≤ j + 1; omega, hje, OwnH.lower ho5 (by omega), stepR_len hrok hnl _, by show refGs _ _ _ (refG r i _ _ (j + 1 - k0) b') = tgt; rw [show j + 1 - k0 = j - k0 + 1 by omega]; exact hcon⟩ (by show s.length - (j + 1) < s.length - j; omega)
            refine G.ite rfl rfl (fun hbest => ?_) (fun hbest => ?_)
            · have hb1 : b' = (((j - k0 : Nat) : Int), (i : Int), if b.2.2 < ((j - k0 : Nat) : Int) then ((j - k0 : Nat) : Int) else b.2.2) := by rw [← hb', refB, if_pos hbest]
              subst hb1
              refine G.reg Tryd.func20 rfl ?_
              iterate 2 refine xq rfl ?_
              refine xp rfl (OpP.sub64 rfl rfl ⟨by omega, by omega⟩) ?_
              iterate 3 refine xq rfl ?_
              refine xd [0, 1, 2, 9, 10, 11, 12, 13, 14, 36, 60] rfl ?_
              exact fin () _ _ ⟨rfl, rfl, rfl, by show some (Value.int _ _) = _; rw [← hjk], rfl, by rw [← hjk]; rfl, rfl, rfl, rfl, trivial⟩ rfl
            · have hb1 : b' = (b.1, b.2.1, if b.2.2 < ((j - k0 : Nat) : Int) then ((j - k0 : Nat) : Int) else b.2.2) := by rw [← hb', refB, if_neg hbest]
              subst hb1
              refine G.skip rfl ?_
              exact fin () _ _ ⟨rfl, rfl, rfl, rfl, rfl, by rw [← hjk]; rfl, rfl, rfl, rfl, trivial⟩ rfl
        · rw [refG_none (by simpa using hany)] at hcon
          refine G.exit rfl rfl ?_
          refine G.blkEnd ?_
          refine G.reg Tryd.func20 rfl ?_
          refine xq rfl ?_
          refine xp rfl (OpP.add64 rfl rfl ⟨by omega, by omega⟩) ?_
          refine xq rfl ?_
          refine xd [0, 1, 2, 9, 10, 11, 12, 13, 14, 36] rfl ?_
          exact ih (i + 1, b) _ _ ⟨rfl, rfl, rfl, rfl, rfl, rfl, rfl, trivial⟩ ⟨eg2, by show i + 1 ≤ rn; omega, hcon⟩ (by show rn - (i + 1) < rn - i; omega)
      · have hd : rs.drop i = [] := List.drop_of_length_le (by omega)
        rw [hd, refGs] at hcon
        refine G.exit rfl rfl ?_
        refine xr Tryd.func20 rfl ?_
        iterate 6 refine xq rfl ?_
        refine xd [0, 1, 2, 6, 7, 8, 9, 10, 11, 12, 26] rfl ?_
        refine G.ret Tryd.func20 rfl rfl ?_
        exact ⟨_, rfl, by rw [← hcon]; rfl, eg⟩
theorem makeG_err : ∀ (l : List By) (i : Nat) (ss : List Ste) (t : List Nat), (∃ q, makeG i l ss t = .inr q ∧ rulesE l = 0) ∨ (makeG i l ss t = .inl (rulesE l) ∧ rulesE l ≠ 0)
  | [], i, ss, t => .inl ⟨_, rfl, rfl⟩
  | s :: r, i, ss, t => by
    rw [makeG, rulesE]
    by_cases h : (parseE s).2 ≠ 0
    · rw [if_pos h, if_pos h]; exact .inr ⟨rfl, h⟩
    · rw [if_neg h, if_neg h]; exact makeG_err r _ _ _
theorem make_rules (l : List By) : (∃ q, makeP l = .inr q ∧ rulesP l = 0) ∨ (makeP l = .inl (rulesP l) ∧ rulesP l ≠ 0) := by
  unfold makeP rulesP
  by_cases h : l.length = 0 ∨ 64 < l.length
  · rw [if_pos h, if_pos h]; exact .inr ⟨rfl, by decide⟩
  · rw [if_neg h, if_neg h]
    rcases makeG_err l 0 [] [] with ⟨q, h1, h2⟩ | ⟨h1, h2⟩
    · rw [h1, if_neg (by simpa using h2)]
      by_cases hl : 2000 < totL l
      · refine .inr ⟨by simp [hl], by rw [if_pos hl]; decide⟩
      · refine .inl ⟨(q.1 ++ [⟨0, 0, q.2, 0⟩], q.1.length), by simp [hl], by rw [if_neg hl]⟩
    · rw [h1, if_pos h2]; exact .inr ⟨rfl, h2⟩
theorem parse_of {rules : List By} (h : rulesP rules = 0) : ∀ s ∈ rules, (parseE s).2 = 0 := by
  have key : ∀ l : List By, rulesE l = 0 → ∀ s ∈ l, (parseE s).2 = 0 := by
    intro l
    induction l with
    | nil => intro _ s hs; cases hs
    | cons x r ih =>
      intro h s hs
      rw [rulesE] at h
      by_cases hx : (parseE x).2 ≠ 0
      · rw [if_pos hx] at h; exact absurd h hx
      · rw [if_neg hx] at h
        rcases List.mem_cons.1 hs with rfl | hs
        · simpa using hx
        · exact ih h s hs
  unfold rulesP at h
  split at h
  · cases h
  · split at h
    · rename_i h2; exact absurd h h2
    · rename_i h2; exact key rules (by simpa using h2)
theorem rules_wf {rules : List By} (h : rulesP rules = 0) : ∀ x ∈ rules.map (fun s => (parseE s).1), wfN x = true := fun x hx => by
  obtain ⟨s, hs, rfl⟩ := List.mem_map.1 hx
  exact (parseE_small (parse_of h s hs)).2.1
theorem rulesR_map (rules : List By) : rulesR rules = (rules.map fun s => (parseE s).1).map ofP := by simp [rulesR]
theorem rules_ok {rules : List By} (h : rulesP rules = 0) : RsOk (rulesR rules) := fun r hr => by
  obtain ⟨s, hs, rfl⟩ := List.mem_map.1 hr
  have hsm := parseE_small (parse_of h s hs)
  have := cnt_sz (parseE s).1
  exact ⟨_, of_ok hsm.2.1, by omega⟩
theorem matchM_ref {rules : List By} (h : rulesP rules = 0) (s : By) (a : Int) : matchM rules s a = ((refA (rulesR rules) s a).1, (refA (rulesR rules) s a).2.1) := by
  rcases make_rules rules with ⟨⟨ss, st⟩, h1, _⟩ | ⟨_, h2⟩
  · have hm := makeP_made h1
    have hst := hm.stl
    unfold matchM refA matchA
    rw [h1]
    simp only
    by_cases ha : a < 0 ∨ (s.length : Int) < a
    · rw [if_pos (.inr ha), if_pos ha]
    · rw [if_neg (by omega), if_neg ha]
      have k1 := matchP_spec hm (s.drop a.toNat)
      have k2 := refMatch_spec (rules_wf h) (s.drop a.toNat)
      rw [← rulesR_map] at k2
      refine k1.uniq k2 (fun k r _ => ?_)
      simp only [List.getElem?_map]
      constructor
      · rintro ⟨s', hs', hl⟩; exact ⟨_, by rw [hs']; rfl, hl⟩
      · rintro ⟨x, hx, hl⟩
        cases hs' : rules[r]? with
        | none => rw [hs'] at hx; cases hx
        | some s' => rw [hs'] at hx; cases hx; exact ⟨s', rfl, hl⟩
  · exact absurd h h2
theorem least_ref {rules : List By} {ss : List Ste} {st : Nat} (h : makeP rules = .inr (ss, st)) (s : By) : acceptsP ss (runP ss st s) = refLeast 0 (rulesR rules) s := by
  have h0 : rulesP rules = 0 := by
    rcases make_rules rules with ⟨q, _, h2⟩ | ⟨h1, _⟩
    · exact h2
    · rw [h] at h1; cases h1
  have hm := makeP_made h
  have k1 := accepts_least hm.good hm.stl s
  have k2 := refLeast_spec (rules.map fun s => (parseE s).1) 0 s (rules_wf h0)
  rw [← rulesR_map] at k2
  refine k1.uniq k2 (fun r => ?_)
  rw [hm.lng r s]
  constructor
  · rintro ⟨s', hs', hl⟩; exact ⟨r, _, by rw [List.getElem?_map, hs']; rfl, by omega, hl⟩
  · rintro ⟨j, x, hx, hr, hl⟩
    have : r = j := by omega
    subst this
    rw [List.getElem?_map] at hx
    cases hs' : rules[r]? with
    | none => rw [hs'] at hx; cases hx
    | some s' => rw [hs'] at hx; cases hx; exact ⟨s', rfl, hl⟩
def greatP (l : List By) : Bool := decide (8 < l.length) || l.any fun s => decide (60 < s.length)
end Go.Proofs.YtlegopbpofofgaaDoor
namespace Go.Proofs.YtlegopbpofofgaaDoor
open Go
theorem stepP_none (ss : List Ste) : ∀ (w : By) (T : List Nat), T.length = 0 → (w.foldl (fun T c => stepP ss c T) T).length = 0
  | [], T, h => h
  | c :: w, T, h => stepP_none ss w _ (by
      rw [List.length_eq_zero_iff.1 h]; simp only [stepP_nil]; rfl)
theorem Lists.says {ss : List Ste} {st0 : Nat} {L : List (List Nat)} {d : Tab} (k : Lists ss st0 L d) (hL : L.length = d.next.length) : ∀ (w : By) (s : Nat) (T : List Nat), L[s]? = some T → d.says (s : Int) w = acceptsP ss (w.foldl (fun T c => stepP ss c T) T)
  | [], s, T, h => by rw [says_nil, k.ru hL h]; rfl
  | c :: w, s, T, h => by
    rw [says_cons, List.foldl_cons]
    rcases k.to hL h c with ⟨h1, h2⟩ | ⟨h1, i, h2, h3⟩
    · rw [h2, says_neg d w (by decide), List.length_eq_zero_iff.1 (stepP_none ss w _ h1)]
      simp [acceptsP, accG]
    · rw [h2, k.says hL w i _ h3]
theorem Lists.says0 {ss : List Ste} {st0 : Nat} {L : List (List Nat)} {d : Tab} (k : Lists ss st0 L d) (hL : L.length = d.next.length) (w : By) : d.says 0 w = acceptsP ss (runP ss st0 w) := k.says hL w 0 _ k.first
abbrev Pl := List (List Bool)
def stepPl (rs : List RuP) (a : Pl) (c : UInt8) : Pl := List.zipWith (fun r x => stepR r x c) rs a
def anyPl (a : Pl) : Bool := a.any anyR
def startPl (rs : List RuP) : Pl := rs.map startR
def rulePl : Nat → List RuP → Pl → Int
  | i, r :: rs, x :: a => if endsR r x = true then (i : Int) else rulePl (i + 1) rs a
  | _, _, _ => -1
def findP : Nat → List Pl → Pl → Option Nat
  | _, [], _ => none
  | i, x :: r, l => if x = l then some i else findP (i + 1) r l
def plStep (rs : List RuP) (cur : Pl) (ps : List Pl) (b : Nat) : List Pl × Int :=
  if anyPl (stepPl rs cur (UInt8.ofNat b)) = false then (ps, -1)
  else match findP 0 ps (stepPl rs cur (UInt8.ofNat b)) with
    | some i => (ps, (i : Int))
    | none => (ps ++ [stepPl rs cur (UInt8.ofNat b)], (ps.length : Int))
def plRow (rs : List RuP) (cur : Pl) : Nat → Nat → List Pl → List Int → List Pl × List Int
  | 0, _, ps, row => (ps, row)
  | n + 1, b, ps, row => plRow rs cur n (b + 1) (plStep rs cur ps b).1 (row ++ [(plStep rs cur ps b).2])
def allG (rs : List RuP) (most : Nat) : Nat → Nat → List Pl → List Row → List Int → Option Tab
  | 0, _, _, _, _ => none
  | n + 1, k, ps, next, rule =>
    match ps[k]? with
    | none => some ⟨next, rule⟩
    | some cur =>
      if most < (plRow rs cur 256 0 ps []).1.length then none
      else allG rs most n (k + 1) (plRow rs cur 256 0 ps []).1 (next ++ [mkRow (plRow rs cur 256 0 ps []).2]) (rule ++ [rulePl 0 rs cur])
def allP (rs : List RuP) (most : Nat) : Option Tab := allG rs most (most + 2) 0 [startPl rs] [] []
def LeadsP (L : List Pl) (l : Pl) (to : Int) : Prop := (anyPl l = false ∧ to = -1) ∨ (anyPl l = true ∧ ∃ i : Nat, to = (i : Int) ∧ L[i]? = some l)
theorem LeadsP.mono {L L' : List Pl} {l : Pl} {to : Int} (k : LeadsP L l to) (h : L <+: L') : LeadsP L' l to := by
  rcases k with k | ⟨k, i, e, hi⟩
  · exact .inl k
  · obtain ⟨t, rfl⟩ := h
    exact .inr ⟨k, i, e, by rw [List.getElem?_append_left (List.getElem?_eq_some_iff.1 hi).1]; exact hi⟩
structure Pls (rs : List RuP) (ps : List Pl) (d : Tab) : Prop where
  first : ps[0]? = some (startPl rs)
  rlen : d.rule.length = d.next.length
  row : ∀ (k : Nat) (r : Row) (l : Pl), d.next[k]? = some r → ps[k]? = some l → ∀ (b : Nat) (y : Int), r.v[b]? = some y → LeadsP ps (stepPl rs l (UInt8.ofNat b)) y
  rule : ∀ (k : Nat) (x : Int) (l : Pl), d.rule[k]? = some x → ps[k]? = some l → x = rulePl 0 rs l
theorem Pls.to {rs : List RuP} {L : List Pl} {d : Tab} (k : Pls rs L d) (hL : L.length = d.next.length) {st : Nat} {now : Pl} (hn : L[st]? = some now) (c : UInt8) : LeadsP L (stepPl rs now c) (d.to st c) := by
  have hl := (List.getElem?_eq_some_iff.1 hn).1
  have hr : d.next[st]? = some (d.next[st]'(by omega)) := List.getElem?_eq_getElem _
  obtain ⟨x, hx, he, hm⟩ := (d.next[st]'(by omega)).at c
  unfold Tab.to
  rw [hr]
  simp only
  rw [he]
  have := k.row st _ now hr hn c.toNat x hx
  rwa [UInt8.ofNat_toNat] at this
theorem Pls.ru {rs : List RuP} {L : List Pl} {d : Tab} (k : Pls rs L d) (hL : L.length = d.next.length) {st : Nat} {now : Pl} (hn : L[st]? = some now) : d.ru st = rulePl 0 rs now := by
  have hl := (List.getElem?_eq_some_iff.1 hn).1
  have hlt : st < d.rule.length := by rw [k.rlen]; omega
  have hr : d.rule[st]? = some (d.rule[st]'hlt) := List.getElem?_eq_getElem _
  have := k.rule st _ now hr hn
  unfold Tab.ru
  rw [List.getD_eq_getElem?_getD, hr]
  exact this
theorem rulePl_bound : ∀ (rs : List RuP) (a : Pl) (i : Nat), -1 ≤ rulePl i rs a ∧ rulePl i rs a < ((i + rs.length : Nat) : Int)
  | [], a, i => ⟨by show (-1 : Int) ≤ -1; omega, by show (-1 : Int) < _; omega⟩
  | _ :: _, [], i => ⟨by show (-1 : Int) ≤ -1; omega, by show (-1 : Int) < _; omega⟩
  | r :: rs, x :: a, i => by
    rw [rulePl]
    split
    · rw [List.length_cons]; omega
    · have := rulePl_bound rs a (i + 1)
      rw [List.length_cons]; omega
theorem Pls.ok {rs : List RuP} {L : List Pl} {d : Tab} (k : Pls rs L d) (hL : L.length = d.next.length) (hs : L.length ≤ 2000) (hr : rs.length ≤ 1000000) : d.Ok := by
  refine ⟨k.rlen, by omega, fun r hrm x hx => ?_, fun x hx => ?_⟩
  · obtain ⟨i, hi⟩ := List.getElem?_of_mem hrm
    obtain ⟨j, hj⟩ := List.getElem?_of_mem hx
    have hil := (List.getElem?_eq_some_iff.1 hi).1
    have hl : L[i]? = some (L[i]'(by omega)) := List.getElem?_eq_getElem _
    rcases k.row i r _ hi hl j x hj with ⟨_, rfl⟩ | ⟨_, i2, rfl, h2⟩
    · omega
    · have := (List.getElem?_eq_some_iff.1 h2).1; omega
  · obtain ⟨i, hi⟩ := List.getElem?_of_mem hx
    have hil := (List.getElem?_eq_some_iff.1 hi).1
    have hl : L[i]? = some (L[i]'(by rw [hL, ← k.rlen]; exact hil)) := List.getElem?_eq_getElem _
    rw [k.rule i x _ hi hl]
    have := rulePl_bound rs (L[i]'(by rw [hL, ← k.rlen]; exact hil)) 0
    omega
theorem runR_snoc (r : RuP) (w : By) (c : UInt8) : runR r (w ++ [c]) = stepR r (runR r w) c := by simp [runR]
def runPl (rs : List RuP) (w : By) : Pl := rs.map fun r => runR r w
theorem runPl_snoc (rs : List RuP) (w : By) (c : UInt8) : stepPl rs (runPl rs w) c = runPl rs (w ++ [c]) := by
  induction rs with
  | nil => rfl
  | cons r rs ih =>
    have ih' : List.zipWith (fun r x => stepR r x c) rs (rs.map fun r => runR r w) = rs.map fun r => runR r (w ++ [c]) := ih
    simp only [runPl, stepPl, List.map_cons, List.zipWith_cons_cons, ih', runR_snoc]
theorem rulePl_run : ∀ (rs : List RuP) (w : By) (i : Nat), rulePl i rs (runPl rs w) = refLeast i rs w
  | [], w, i => rfl
  | r :: rs, w, i => by
    show (if endsR r (runR r w) = true then (i : Int) else rulePl (i + 1) rs (runPl rs w)) = _
    rw [refLeast, rulePl_run rs w (i + 1)]
theorem none_run {r : RuP} {n : Nat} (hr : RuleOk r n) : ∀ (w v : By), anyR (runR r v) = false → anyR (runR r (v ++ w)) = false
  | [], v, h => by simpa using h
  | c :: w, v, h => by
    have := none_run hr w (v ++ [c]) (by rw [runR_snoc]; exact stepR_none hr (runR_len hr v) h c)
    simpa using this
theorem least_none : ∀ (rs : List RuP) (i : Nat) (v w : By), (∀ r ∈ rs, ∃ n, RuleOk r n) → anyPl (runPl rs v) = false → refLeast i rs (v ++ w) = -1
  | [], i, v, w, _, _ => rfl
  | r :: rs, i, v, w, hok, h => by
    have h : (anyR (runR r v) || anyPl (runPl rs v)) = false := h
    rw [Bool.or_eq_false_iff] at h
    obtain ⟨n, hn⟩ := hok r (by simp)
    rw [refLeast, if_neg (by rw [ends_any (none_run hn w v h.1)]; decide)]
    exact least_none rs (i + 1) v w (fun x hx => hok x (by simp [hx])) h.2
theorem Pls.says {rs : List RuP} (hok : ∀ r ∈ rs, ∃ n, RuleOk r n) {L : List Pl} {d : Tab} (k : Pls rs L d) (hL : L.length = d.next.length) : ∀ (w v : By) (s : Nat), L[s]? = some (runPl rs v) → d.says (s : Int) w = refLeast 0 rs (v ++ w)
  | [], v, s, h => by rw [says_nil, k.ru hL h, rulePl_run, List.append_nil]
  | c :: w, v, s, h => by
    rw [says_cons]
    rcases k.to hL h c with ⟨h1, h2⟩ | ⟨h1, i, h2, h3⟩
    · rw [runPl_snoc] at h1
      rw [h2, says_neg d w (by decide)]
      have := least_none rs 0 (v ++ [c]) w hok h1
      rw [List.append_assoc] at this
      exact this.symm
    · rw [runPl_snoc] at h3
      rw [h2, k.says hok hL w (v ++ [c]) i h3, List.append_assoc]; rfl
end Go.Proofs.YtlegopbpofofgaaDoor
namespace Go.Proofs.YtlegopbpofofgaaDoor
mutual
def altN : Nd → Bool
  | .mk k _ kids => (!(k == 3) || !kids.isEmpty) && altL kids
def altL : List Nd → Bool
  | [] => true
  | x :: r => altN x && altL r
end
theorem altL_append : ∀ (l m : List Nd), altL (l ++ m) = (altL l && altL m)
  | [], m => by simp [altL]
  | x :: l, m => by simp only [List.cons_append, altL]; rw [altL_append l m, Bool.and_assoc]
theorem altL_one (x : Nd) : altL [x] = altN x := by simp [altL]
theorem join_alt {k : Nat} {l : List Nd} (h : altL l = true) : altN (joinNd k l) = true := by
  match l, h with
  | [], _ => rfl
  | [n], h => rw [altL_one] at h; exact h
  | a :: b :: l, h =>
    show altN (.mk k 0 (a :: b :: l)) = true
    rw [altN, h]; simp
theorem signs_alt : ∀ (s : By) (n : Nd), altN n = true → altN (signsP n s).1 = true
  | [], n, h => h
  | c :: s, n, h => by
    rw [signsP]
    split
    · exact h
    · exact signs_alt s _ (by rw [altN, altL_one, h]; simp)
theorem bracket_alt {s r : By} {x : Nd} (h : bracketP s = some (x, r)) : altN x = true := by
  unfold bracketP at h
  split at h
  · obtain ⟨p, _, hp⟩ := Option.map_eq_some_iff.1 h
    cases hp; rfl
  · obtain ⟨p, _, hp⟩ := Option.map_eq_some_iff.1 h
    cases hp; rfl
theorem atom_alt {rows : By → Option (Nd × By)} (hr : ∀ s x r, rows s = some (x, r) → altN x = true) {s r : By} {x : Nd} (h : atomP rows s = some (x, r)) : altN x = true := by
  cases s with
  | nil => cases h
  | cons c s =>
    unfold atomP at h
    simp only at h
    split at h
    · cases hs : rows s with
      | none => rw [hs] at h; cases h
      | some q =>
        obtain ⟨n, r1⟩ := q
        rw [hs] at h
        simp only at h
        split at h
        · cases h; exact hr _ _ _ hs
        · cases h
    · split at h
      · exact bracket_alt h
      · split at h
        · cases h; rfl
        · split at h
          · obtain ⟨p, _, hp⟩ := Option.map_eq_some_iff.1 h
            cases hp; rfl
          · split at h
            · cases h
            · cases h; rfl
theorem rowsG_alt {rows : By → Option (Nd × By)} (hr : ∀ s x r, rows s = some (x, r) → altN x = true) : ∀ (n : Nat) (all row : List Nd) (s r : By) (x : Nd), altL all = true → altL row = true → rowsG rows n all row s = some (x, r) → altN x = true
  | 0, _, _, _, _, _, _, _, h => by cases h
  | n + 1, all, row, s, r, x, ha, hw, h => by
    rw [rowsG] at h
    have hj : altL (all ++ [joinNd 2 row]) = true := by rw [altL_append, ha, altL_one, join_alt hw]; rfl
    split at h
    · split at h
      · exact rowsG_alt hr n _ _ _ r x hj rfl h
      · cases h; exact join_alt hj
    · split at h
      · cases h
      · rename_i y r1 hp
        refine rowsG_alt hr n all (row ++ [y]) r1 r x ha ?_ h
        unfold pieceP at hp
        obtain ⟨q, hq, he⟩ := Option.map_eq_some_iff.1 hp
        have h1 := atom_alt hr (x := q.1) (r := q.2) hq
        have h2 := signs_alt q.2 q.1 h1
        rw [he] at h2
        rw [altL_append, hw, altL_one, h2]; rfl
theorem rowsP_alt : ∀ (d : Nat) (s r : By) (x : Nd), rowsP d s = some (x, r) → altN x = true
  | 0, _, _, _, h => by cases h
  | d + 1, s, r, x, h => by
    rw [rowsP] at h
    exact rowsG_alt (fun s x r h => rowsP_alt d s r x h) _ [] [] s r x rfl rfl h
theorem parseE_alt (s : By) : altN (parseE s).1 = true := by
  unfold parseE
  split
  · rfl
  · split
    · rename_i x hx
      unfold parseP at hx
      split at hx
      · rename_i n hn; cases hx; exact rowsP_alt _ _ _ _ hn
      · cases hx
    · rfl
theorem Eps.trans {ss : List Ste} {i j k : Nat} (h : Eps ss i j) (h2 : Eps ss j k) : Eps ss i k := by
  induction h with
  | refl => exact h2
  | step a b c _ ih => exact .step a b c (ih h2)
def Esc (F : List Ste) (b to : Nat) : Prop := ∃ q, Eps F b q ∧ (q = to ∨ ∃ x, F[q]? = some x ∧ x.kind ≠ 0)
theorem Esc.then {F : List Ste} {b c to : Nat} (h : Esc F b c) (h2 : Esc F c to) : Esc F b to := by
  obtain ⟨q, hq, rfl | hx⟩ := h
  · obtain ⟨r, hr, k⟩ := h2; exact ⟨r, hq.trans hr, k⟩
  · exact ⟨q, hq, .inr hx⟩
theorem Esc.refl {F : List Ste} (b : Nat) : Esc F b b := ⟨b, .refl _, .inl rfl⟩
theorem Esc.by {F : List Ste} {b c to : Nat} {x : Ste} (hx : F[b]? = some x) (hk : x.kind = 0) (hc : c ∈ x.to) (h : Esc F c to) : Esc F b to := by
  obtain ⟨q, hq, k⟩ := h
  exact ⟨q, .step hx hk hc hq, k⟩
mutual
theorem lay_esc {F : List Ste} : ∀ (x : Nd) (ss : List Ste) (to : Nat), altN x = true → Same F (lay x ss to).1 ss.length → Esc F (lay x ss to).2 to
  | .mk k s kids, ss, to, ha, hs => by
    rw [altN, Bool.and_eq_true] at ha
    rw [lay] at hs ⊢
    by_cases h1 : k = 1
    · simp only [if_pos h1] at hs ⊢
      have hx : F[ss.length]? = some ⟨1, s, [to], 0⟩ := by rw [hs _ (Nat.le_refl _) (by simp)]; simp
      exact ⟨_, .refl _, .inr ⟨_, hx, Nat.one_ne_zero⟩⟩
    · simp only [if_neg h1] at hs ⊢
      by_cases h2 : k = 2
      · simp only [if_pos h2] at hs ⊢
        exact layCat_esc kids ss to ha.2 hs
      · simp only [if_neg h2] at hs ⊢
        by_cases h3 : k = 3
        · simp only [if_pos h3] at hs ⊢
          have hl := layAlt_len kids ss to
          have hx : F[(layAlt kids ss to).1.length]? = some ⟨0, 0, (layAlt kids ss to).2, 0⟩ := by rw [hs _ (by omega) (by simp)]; simp
          have hne : kids ≠ [] := by
            intro e
            have := ha.1
            rw [e, h3] at this
            simp at this
          obtain ⟨q, hq, he⟩ := layAlt_esc kids ss to ha.2 hne (fun i h1 h2 => by rw [hs i h1 (by simp; omega), List.getElem?_append_left h2])
          exact Esc.by hx rfl hq he
        · simp only [if_neg h3] at hs ⊢
          by_cases h6 : k = 6
          · simp only [if_pos h6] at hs ⊢
            have hl := layOne_len kids ss to
            have hx : F[(layOne kids ss to).1.length]? = some ⟨0, 0, [(layOne kids ss to).2, to], 0⟩ := by rw [hs _ (by omega) (by simp)]; simp
            exact Esc.by (c := to) hx rfl (by simp) (.refl _)
          · simp only [if_neg h6] at hs ⊢
            by_cases h45 : k = 4 ∨ k = 5
            · simp only [if_pos h45] at hs ⊢
              have hl := layOne_len kids (ss ++ [⟨0, 0, [], 0⟩]) ss.length
              simp only [List.length_append, List.length_singleton] at hl
              have hx : F[ss.length]? = some ⟨0, 0, [(layOne kids (ss ++ [⟨0, 0, [], 0⟩]) ss.length).2, to], 0⟩ := by
                rw [hs _ (Nat.le_refl _) (by simp; omega)]; simp [List.getElem?_set]; omega
              have ih := layOne_esc kids (ss ++ [⟨0, 0, [], 0⟩]) ss.length ha.2 (fun i h1 h2 => by
                simp only [List.length_append, List.length_singleton] at h1
                rw [hs i (by omega) (by simp; omega), List.getElem?_set_ne (by omega)])
              have hst : Esc F ss.length to := Esc.by (c := to) hx rfl (by simp) (.refl _)
              by_cases h5 : k = 5
              · simp only [if_pos h5]; exact ih.then hst
              · simp only [if_neg h5]; exact hst
            · simp only [if_neg h45] at hs ⊢
              exact .refl _
theorem layCat_esc {F : List Ste} : ∀ (l : List Nd) (ss : List Ste) (to : Nat), altL l = true → Same F (layCat l ss to).1 ss.length → Esc F (layCat l ss to).2 to
  | [], ss, to, ha, hs => by rw [layCat]; exact .refl _
  | x :: r, ss, to, ha, hs => by
    rw [altL, Bool.and_eq_true] at ha
    rw [layCat] at hs ⊢
    have hl := layCat_len r ss to
    have hl2 := lay_len x (layCat r ss to).1 (layCat r ss to).2
    have h2 := layCat_esc r ss to ha.2 (fun i h1 h2 => by rw [hs i h1 (by omega), lay_pre x _ _ i h2])
    have h1 := lay_esc x (layCat r ss to).1 (layCat r ss to).2 ha.1 (fun i h1 h2 => hs i (by omega) h2)
    exact h1.then h2
theorem layAlt_esc {F : List Ste} : ∀ (l : List Nd) (ss : List Ste) (to : Nat), altL l = true → l ≠ [] → Same F (layAlt l ss to).1 ss.length → ∃ q, q ∈ (layAlt l ss to).2 ∧ Esc F q to
  | [], ss, to, ha, hne, hs => absurd rfl hne
  | x :: r, ss, to, ha, hne, hs => by
    rw [altL, Bool.and_eq_true] at ha
    rw [layAlt] at hs ⊢
    have hl2 := layAlt_len r (lay x ss to).1 to
    have h1 := lay_esc x ss to ha.1 (fun i h1 h2 => by rw [hs i h1 (by simp only; omega)]; exact layAlt_pre r _ _ i h2)
    exact ⟨_, List.mem_cons_self, h1⟩
theorem layOne_esc {F : List Ste} : ∀ (l : List Nd) (ss : List Ste) (to : Nat), altL l = true → Same F (layOne l ss to).1 ss.length → Esc F (layOne l ss to).2 to
  | [], ss, to, ha, hs => by rw [layOne]; exact .refl _
  | x :: r, ss, to, ha, hs => by
    rw [altL, Bool.and_eq_true] at ha
    rw [layOne] at hs ⊢
    exact lay_esc x ss to ha.1 hs
end
theorem start_some {rules : List By} {ss : List Ste} {st : Nat} (h : makeP rules = .inr (ss, st)) : (startP ss st).length ≠ 0 := by
  have hM := makeP_made h
  unfold makeP at h
  split at h
  · cases h
  · rename_i hn
    split at h
    · cases h
    · rename_i ss0 t hm
      split at h
      · cases h
      · cases h
        cases rules with
        | nil => exact absurd (.inl rfl) hn
        | cons s r =>
          rw [makeG] at hm
          split at hm
          · cases hm
          · have k := makeG_made _ _ _ _ _ _ hm
            obtain ⟨t2, ht2, _, _⟩ := k.starts
            have hl := lay_len (parseE s).1 [⟨2, 0, [], 0⟩] 0
            simp only [List.nil_append, List.length_nil, List.length_singleton] at k ht2 hl
            have hpre := k.pre
            have hlen := k.len.1
            have hF0 : (ss0 ++ [(⟨0, 0, t, 0⟩ : Ste)])[ss0.length]? = some ⟨0, 0, t, 0⟩ := by simp
            have hsame : Same (ss0 ++ [⟨0, 0, t, 0⟩]) (lay (parseE s).1 [⟨2, 0, [], 0⟩] 0).1 1 := fun i _ h2 => by rw [List.getElem?_append_left (by omega), hpre i h2]
            have hesc := lay_esc (parseE s).1 [⟨2, 0, [], 0⟩] 0 (parseE_alt s) hsame
            have h2 : (ss0 ++ [(⟨0, 0, t, 0⟩ : Ste)])[0]? = some ⟨2, 0, [], 0⟩ := by
              rw [List.getElem?_append_left (by omega), hpre 0 (by omega), lay_pre _ _ _ 0 (by simp)]; rfl
            obtain ⟨q, hq, hk⟩ := Esc.by (c := (lay (parseE s).1 [⟨2, 0, [], 0⟩] 0).2) hF0 rfl (by rw [ht2]; simp) hesc
            have hkind : ∃ x, (ss0 ++ [(⟨0, 0, t, 0⟩ : Ste)])[q]? = some x ∧ x.kind ≠ 0 := by
              rcases hk with rfl | hx
              · exact ⟨_, h2, by decide⟩
              · exact hx
            obtain ⟨x, hx, hxk⟩ := hkind
            have hmem := (closed_mem hM.good (todo := [ss0.length]) (by intro j hj; simp at hj; subst hj; simp) q).2 ⟨x, hx, hxk, _, by simp, hq⟩
            unfold startP
            rw [if_neg (by simp)]
            intro e
            rw [List.length_eq_zero_iff.1 e] at hmem
            cases hmem
inductive Path (bh : List (List Bool)) : Nat → Nat → Prop where
  | refl (p : Nat) : Path bh p p
  | step {p q r : Nat} : Bh bh p q → Path bh q r → Path bh p r
theorem Path.mono {bh bh' : List (List Bool)} (hm : ∀ a b, Bh bh a b → Bh bh' a b) {p q : Nat} (h : Path bh p q) : Path bh' p q := by
  induction h with
  | refl => exact .refl _
  | step a _ ih => exact .step (hm _ _ a) ih
theorem Path.trans {bh : List (List Bool)} {p q r : Nat} (h : Path bh p q) (h2 : Path bh q r) : Path bh p r := by
  induction h with
  | refl => exact h2
  | step a _ ih => exact .step a (ih h2)
structure Co (lo hi : Nat) (p : PartP) (bh : List (List Bool)) : Prop where
  fr : ∀ q, On p.first q → lo ≤ q ∧ q < hi
  co : ∀ a, lo ≤ a → a < hi → ∃ q, Path bh a q ∧ On p.last q
def Ne (p : PartP) : Prop := p.null = true ∨ ∃ q, On p.first q
theorem co_none (n lo : Nat) (b : Bool) (bh : List (List Bool)) : Co lo lo ⟨b, nob n, nob n⟩ bh := ⟨fun q h => absurd h (on_nob n q), fun a h1 h2 => by omega⟩
section
variable (n : Nat)
mutual
theorem glu_co : ∀ (x : Nd) (st : RuS), RuOk n st → wfN x = true → altN x = true → st.1.length + cnt x ≤ n →
    Co st.1.length (glu n x st).2.1.length (glu n x st).1 (glu n x st).2.2 ∧ Ne (glu n x st).1 ∧ ∀ a b, Bh st.2 a b → Bh (glu n x st).2.2 a b
  | .mk k s kids, st, hok, hw, ha, hn => by
    have hwl : wfL kids = true := by simp only [wfN, Bool.and_eq_true] at hw; exact hw.2
    rw [altN, Bool.and_eq_true] at ha
    simp only [cnt] at hn
    rw [glu]
    by_cases h1 : k = 1
    · simp only [if_pos h1, List.length_append, List.length_singleton] at hn ⊢
      have hset := fun q => on_set (n := n) (j := st.1.length) (by omega) q
      refine ⟨⟨fun q h => ?_, fun a h1 h2 => ⟨a, .refl _, (hset a).2 (by omega)⟩⟩, .inr ⟨_, (hset _).2 rfl⟩, fun _ _ h => h⟩
      have := (hset q).1 h; omega
    · simp only [if_neg h1] at hn ⊢
      by_cases h2 : k = 2
      · simp only [if_pos h2]
        exact gluCat_co kids ⟨true, nob n, nob n⟩ st hok (nob_ok n _) hwl ha.2 (by omega) st.1.length (Nat.le_refl _) (co_none n _ _ _) (.inl rfl)
      · simp only [if_neg h2]
        by_cases h3 : k = 3
        · simp only [if_pos h3]
          have hne : kids ≠ [] := by
            intro e
            have := ha.1
            rw [e, h3] at this
            simp at this
          exact gluAlt_co kids ⟨false, nob n, nob n⟩ st hok (nob_ok n _) hwl ha.2 (by omega) st.1.length (Nat.le_refl _) (co_none n _ _ _) (.inr hne)
        · simp only [if_neg h3]
          have k1 := gluOne_ok n kids st hok
          obtain ⟨c1, c2, c3⟩ := gluOne_co kids st hok hwl ha.2 (by omega)
          by_cases h45 : k = 4 ∨ k = 5
          · simp only [if_pos h45]
            have hB : ∀ a b, Bh (gluOne n kids st).2.2 a b → Bh (followB (gluOne n kids st).1.last (gluOne n kids st).1.first (gluOne n kids st).2.2) a b := fun a b h => (bh_follow k1.1.last k1.1.first k1.2.1 a b).2 (.inl h)
            refine ⟨⟨c1.fr, fun a h1 h2 => ?_⟩, ?_, fun a b h => hB a b (c3 a b h)⟩
            · obtain ⟨q, hq, hl⟩ := c1.co a h1 h2; exact ⟨q, hq.mono hB, hl⟩
            · rcases c2 with h | h
              · exact .inl (by simp [h])
              · exact .inr h
          · simp only [if_neg h45]
            by_cases h6 : k = 6
            · simp only [if_pos h6]
              exact ⟨⟨c1.fr, c1.co⟩, .inl rfl, c3⟩
            · simp only [if_neg h6]
              exact ⟨co_none n _ _ _, .inl rfl, fun _ _ h => h⟩
theorem gluCat_co : ∀ (l : List Nd) (p : PartP) (st : RuS), RuOk n st → PartOk n p → wfL l = true → altL l = true → st.1.length + cntL l ≤ n → ∀ lo, lo ≤ st.1.length → Co lo st.1.length p st.2 → Ne p →
    Co lo (gluCat n l p st).2.1.length (gluCat n l p st).1 (gluCat n l p st).2.2 ∧ Ne (gluCat n l p st).1 ∧ ∀ a b, Bh st.2 a b → Bh (gluCat n l p st).2.2 a b
  | [], p, st, hok, hp, hw, ha, hn, lo, hlo, hC, hN => by
    rw [gluCat]; exact ⟨hC, hN, fun _ _ h => h⟩
  | x :: r, p, st, hok, hp, hw, ha, hn, lo, hlo, hC, hN => by
    simp only [wfL, Bool.and_eq_true] at hw
    simp only [altL, Bool.and_eq_true] at ha
    simp only [cntL] at hn
    rw [gluCat]
    have k1 := glu_ok n x st hok
    have hle := k1.2.2.1
    have hle2 := k1.2.2.2 hw.1
    have hok2 := follow_ok (S := (glu n x st).2.1) hp.last k1.1.first k1.2.1
    obtain ⟨c1, c2, c3⟩ := glu_co x st hok hw.1 ha.1 (by omega)
    have hB := bh_follow hp.last k1.1.first k1.2.1
    have hm1 : ∀ a b, Bh (glu n x st).2.2 a b → Bh (followB p.last (glu n x st).1.first (glu n x st).2.2) a b := fun a b h => (hB a b).2 (.inl h)
    have hm0 : ∀ a b, Bh st.2 a b → Bh (followB p.last (glu n x st).1.first (glu n x st).2.2) a b := fun a b h => hm1 a b (c3 a b h)
    have hl : ∀ q, On (catPart p (glu n x st).1).last q ↔ On (glu n x st).1.last q ∨ ((glu n x st).1.null = true ∧ On p.last q) := fun q => by
      simp only [catPart]
      cases (glu n x st).1.null with
      | true => simp only [if_pos, true_and]; rw [on_or (by rw [hp.last, k1.1.last]) q, or_comm]
      | false => simp
    have hf : ∀ q, On (catPart p (glu n x st).1).first q ↔ On p.first q ∨ (p.null = true ∧ On (glu n x st).1.first q) := fun q => by
      simp only [catPart]
      cases p.null with
      | true => simp only [if_pos, true_and]; exact on_or (by rw [hp.first, k1.1.first]) q
      | false => simp
    have hC2 : Co lo (glu n x st).2.1.length (catPart p (glu n x st).1) (followB p.last (glu n x st).1.first (glu n x st).2.2) := by
      refine ⟨fun q h => ?_, fun a h1 h2 => ?_⟩
      · rcases (hf q).1 h with h | ⟨_, h⟩
        · have := hC.fr q h; omega
        · have := c1.fr q h; omega
      · rcases Nat.lt_or_ge a st.1.length with hlt | hge
        · obtain ⟨q, hq, hql⟩ := hC.co a h1 hlt
          rcases c2 with h | ⟨f, hf1⟩
          · exact ⟨q, hq.mono hm0, (hl q).2 (.inr ⟨h, hql⟩)⟩
          · have hfr := c1.fr f hf1
            obtain ⟨q', hq', hl'⟩ := c1.co f hfr.1 hfr.2
            exact ⟨q', (hq.mono hm0).trans (.step ((hB q f).2 (.inr ⟨hql, hf1⟩)) (hq'.mono hm1)), (hl q').2 (.inl hl')⟩
        · obtain ⟨q, hq, hql⟩ := c1.co a hge h2
          exact ⟨q, hq.mono hm1, (hl q).2 (.inl hql)⟩
    have hN2 : Ne (catPart p (glu n x st).1) := by
      rcases hN with h | ⟨q, hq⟩
      · rcases c2 with h2 | ⟨q, hq⟩
        · exact .inl (by simp [catPart, h, h2])
        · exact .inr ⟨q, (hf q).2 (.inr ⟨h, hq⟩)⟩
      · exact .inr ⟨q, (hf q).2 (.inl hq)⟩
    obtain ⟨d1, d2, d3⟩ := gluCat_co r (catPart p (glu n x st).1) ((glu n x st).2.1, followB p.last (glu n x st).1.first (glu n x st).2.2) hok2 (catPart_ok hp k1.1) hw.2 ha.2 (by simp only; omega) lo (by simp only; omega) hC2 hN2
    exact ⟨d1, d2, fun a b h => d3 a b (hm0 a b h)⟩
theorem gluAlt_co : ∀ (l : List Nd) (p : PartP) (st : RuS), RuOk n st → PartOk n p → wfL l = true → altL l = true → st.1.length + cntL l ≤ n → ∀ lo, lo ≤ st.1.length → Co lo st.1.length p st.2 → (Ne p ∨ l ≠ []) →
    Co lo (gluAlt n l p st).2.1.length (gluAlt n l p st).1 (gluAlt n l p st).2.2 ∧ Ne (gluAlt n l p st).1 ∧ ∀ a b, Bh st.2 a b → Bh (gluAlt n l p st).2.2 a b
  | [], p, st, hok, hp, hw, ha, hn, lo, hlo, hC, hN => by
    rw [gluAlt]; exact ⟨hC, hN.elim id (fun h => absurd rfl h), fun _ _ h => h⟩
  | x :: r, p, st, hok, hp, hw, ha, hn, lo, hlo, hC, hN => by
    simp only [wfL, Bool.and_eq_true] at hw
    simp only [altL, Bool.and_eq_true] at ha
    simp only [cntL] at hn
    rw [gluAlt]
    have k1 := glu_ok n x st hok
    have hle := k1.2.2.1
    have hle2 := k1.2.2.2 hw.1
    obtain ⟨c1, c2, c3⟩ := glu_co x st hok hw.1 ha.1 (by omega)
    have hl : ∀ q, On (altPart p (glu n x st).1).last q ↔ On p.last q ∨ On (glu n x st).1.last q := fun q => on_or (by rw [hp.last, k1.1.last]) q
    have hf : ∀ q, On (altPart p (glu n x st).1).first q ↔ On p.first q ∨ On (glu n x st).1.first q := fun q => on_or (by rw [hp.first, k1.1.first]) q
    have hC2 : Co lo (glu n x st).2.1.length (altPart p (glu n x st).1) (glu n x st).2.2 := by
      refine ⟨fun q h => ?_, fun a h1 h2 => ?_⟩
      · rcases (hf q).1 h with h | h
        · have := hC.fr q h; omega
        · have := c1.fr q h; omega
      · rcases Nat.lt_or_ge a st.1.length with hlt | hge
        · obtain ⟨q, hq, hql⟩ := hC.co a h1 hlt
          exact ⟨q, hq.mono c3, (hl q).2 (.inl hql)⟩
        · obtain ⟨q, hq, hql⟩ := c1.co a hge h2
          exact ⟨q, hq, (hl q).2 (.inr hql)⟩
    have hN2 : Ne (altPart p (glu n x st).1) := by
      rcases c2 with h2 | ⟨q, hq⟩
      · exact .inl (by simp [altPart, h2])
      · exact .inr ⟨q, (hf q).2 (.inr hq)⟩
    obtain ⟨d1, d2, d3⟩ := gluAlt_co r (altPart p (glu n x st).1) (glu n x st).2 k1.2.1 (altPart_ok hp k1.1) hw.2 ha.2 (by omega) lo (by omega) hC2 (.inl hN2)
    exact ⟨d1, d2, fun a b h => d3 a b (c3 a b h)⟩
theorem gluOne_co : ∀ (l : List Nd) (st : RuS), RuOk n st → wfL l = true → altL l = true → st.1.length + cntL l ≤ n →
    Co st.1.length (gluOne n l st).2.1.length (gluOne n l st).1 (gluOne n l st).2.2 ∧ Ne (gluOne n l st).1 ∧ ∀ a b, Bh st.2 a b → Bh (gluOne n l st).2.2 a b
  | [], st, hok, hw, ha, hn => by
    rw [gluOne]; exact ⟨co_none n _ _ _, .inl rfl, fun _ _ h => h⟩
  | x :: r, st, hok, hw, ha, hn => by
    simp only [wfL, Bool.and_eq_true] at hw
    simp only [altL, Bool.and_eq_true] at ha
    simp only [cntL] at hn
    rw [gluOne]
    exact glu_co x st hok hw.1 ha.1 (by omega)
end
end
def FullR (r : RuP) : Prop := ∀ (k s : Nat), 1 ≤ k → r.sets[k]? = some s → ∃ c : UInt8, s.testBit c.toNat = true
theorem full_acc {x : Nd} (hw : wfN x = true) (ha : altN x = true) (hfull : FullR (ofP x)) (p : Nat) (hp : p < (ofP x).sets.length) : ∃ v, RAcc (ofP x) p v := by
  have h0 : RuOk (cnt x + 1) ([0], List.replicate (cnt x + 1) (nob (cnt x + 1))) := ⟨by simp, fun b hb => by rw [(List.mem_replicate.1 hb).2]; exact nob_len _⟩
  have k := glu_ok (cnt x + 1) x ([0], List.replicate (cnt x + 1) (nob (cnt x + 1))) h0
  have hlen := k.2.2.1
  have hrows := k.2.1.rows
  have hlast := k.1.last
  obtain ⟨c1, c2, _⟩ := glu_co (cnt x + 1) x ([0], List.replicate (cnt x + 1) (nob (cnt x + 1))) h0 hw ha (by simp; omega)
  obtain ⟨Fol, hG, hB⟩ := glu_spec (S := fun q c => ∃ s, (glu (cnt x + 1) x ([0], List.replicate (cnt x + 1) (nob (cnt x + 1)))).2.1[q]? = some s ∧ s.testBit c.toNat = true) (cnt x + 1) x ([0], List.replicate (cnt x + 1) (nob (cnt x + 1))) h0 hw (by simp; omega) (fun q _ _ c => Iff.rfl)
  have hnone : ∀ a b, ¬ Bh (List.replicate (cnt x + 1) (nob (cnt x + 1))) a b := fun a b ⟨l, hl, hon⟩ => by
    have := List.mem_of_getElem? hl
    rw [(List.mem_replicate.1 this).2] at hon
    exact on_nob _ _ hon
  have hBr : ∀ a b, Bh (glu (cnt x + 1) x ([0], List.replicate (cnt x + 1) (nob (cnt x + 1)))).2.2 a b → (1 ≤ a ∧ a < (ofP x).sets.length) ∧ 1 ≤ b ∧ b < (ofP x).sets.length := fun a b h => by
    rcases (hB a b).1 h with h | h
    · exact absurd h (hnone a b)
    · have := hG.gr a b h; simpa [ofP] using this
  have hBb : ∀ a b, 1 ≤ a → Bh (glu (cnt x + 1) x ([0], List.replicate (cnt x + 1) (nob (cnt x + 1)))).2.2 a b → Bh (ofP x).behind a b := fun a b ha ⟨l, hl, hon⟩ => ⟨l, by simp only [ofP]; rw [List.getElem?_set_ne (by omega)]; exact hl, hon⟩
  have hE : ∀ q, 1 ≤ q → On (glu (cnt x + 1) x ([0], List.replicate (cnt x + 1) (nob (cnt x + 1)))).1.last q → On (ofP x).last q := fun q hq hon => by
    unfold On at hon ⊢
    simp only [ofP]; rw [List.getElem?_set_ne (by omega)]; exact hon
  have key : ∀ p q, Path (glu (cnt x + 1) x ([0], List.replicate (cnt x + 1) (nob (cnt x + 1)))).2.2 p q → 1 ≤ p → On (glu (cnt x + 1) x ([0], List.replicate (cnt x + 1) (nob (cnt x + 1)))).1.last q → ∃ v, RAcc (ofP x) p v := by
    intro p q h
    induction h with
    | refl p => exact fun h1 h2 => ⟨[], .done (hE p h1 h2)⟩
    | @step a b c hab _ ih =>
      intro h1 h2
      have hr := hBr a b hab
      obtain ⟨v, hv⟩ := ih hr.2.1 h2
      obtain ⟨s, hs⟩ : ∃ s, (ofP x).sets[b]? = some s := ⟨_, List.getElem?_eq_getElem hr.2.2⟩
      obtain ⟨ch, hch⟩ := hfull b s hr.2.1 hs
      exact ⟨ch :: v, .go ⟨hBb a b h1 hab, hr.2.1, hr.2.2⟩ ⟨s, hs, hch⟩ hv⟩
  have hpos : ∀ p, 1 ≤ p → p < (ofP x).sets.length → ∃ v, RAcc (ofP x) p v := fun p h1 h2 => by
    obtain ⟨q, hq, hl⟩ := c1.co p (by simpa using h1) (by simpa [ofP] using h2)
    exact key p q hq h1 hl
  rcases Nat.eq_zero_or_pos p with rfl | h1
  · rcases c2 with hnl | ⟨q, hq⟩
    · refine ⟨[], .done ?_⟩
      unfold On
      simp only [ofP]
      rw [List.getElem?_set_self (by rw [hlast]; omega), hnl]
    · have hfr := c1.fr q hq
      simp only [List.length_singleton] at hfr
      have hql : q < (ofP x).sets.length := hfr.2
      obtain ⟨v, hv⟩ := hpos q hfr.1 hql
      obtain ⟨s, hs⟩ : ∃ s, (ofP x).sets[q]? = some s := ⟨_, List.getElem?_eq_getElem hql⟩
      obtain ⟨ch, hch⟩ := hfull q s hfr.1 hs
      refine ⟨ch :: v, .go ⟨⟨_, ?_, hq⟩, hfr.1, hql⟩ ⟨s, hs, hch⟩ hv⟩
      simp only [ofP]
      rw [List.getElem?_set_self (by rw [hrows]; omega)]
  · exact hpos p h1 hp
end Go.Proofs.YtlegopbpofofgaaDoor
namespace Go.Proofs.YtlegopbpofofgaaDoor
open Go
def farV (rs : List RuP) : By → By → Nat → Nat
  | _, [], k => k
  | v, c :: l, k => if anyPl (runPl rs (v ++ [c])) = true then farV rs (v ++ [c]) l (k + 1) else k
theorem farV_ge (rs : List RuP) : ∀ (l v : By) (k : Nat), k ≤ farV rs v l k
  | [], v, k => Nat.le_refl _
  | c :: l, v, k => by
    rw [farV]
    split
    · have := farV_ge rs l (v ++ [c]) (k + 1); omega
    · exact Nat.le_refl _
theorem any_cons (r : RuP) (rs : List RuP) (v : By) : anyPl (runPl (r :: rs) v) = (anyR (runR r v) || anyPl (runPl rs v)) := rfl
theorem any_stay {rs : List RuP} (hok : ∀ r ∈ rs, ∃ n, RuleOk r n) {v : By} (h : anyPl (runPl rs v) = false) (c : UInt8) : anyPl (runPl rs (v ++ [c])) = false := by
  induction rs with
  | nil => rfl
  | cons r rs ih =>
    rw [any_cons, Bool.or_eq_false_iff] at h
    obtain ⟨n, hn⟩ := hok r (by simp)
    rw [any_cons, none_run hn [c] v h.1, ih (fun x hx => hok x (by simp [hx])) h.2]; rfl
theorem farV_none {rs : List RuP} (hok : ∀ r ∈ rs, ∃ n, RuleOk r n) {v : By} (h : anyPl (runPl rs v) = false) (l : By) (k : Nat) : farV rs v l k = k := by
  cases l with
  | nil => rfl
  | cons c l => rw [farV, if_neg (by rw [any_stay hok h c]; decide)]
theorem farV_cons {r : RuP} {rs : List RuP} (hok : ∀ x ∈ r :: rs, ∃ n, RuleOk x n) : ∀ (l v : By) (k : Nat), farV (r :: rs) v l k = max (farV [r] v l k) (farV rs v l k)
  | [], v, k => by simp [farV]
  | c :: l, v, k => by
    have hok1 : ∀ x ∈ [r], ∃ n, RuleOk x n := fun x hx => hok x (by simp at hx; simp [hx])
    have hok2 : ∀ x ∈ rs, ∃ n, RuleOk x n := fun x hx => hok x (by simp [hx])
    have ih := farV_cons hok l (v ++ [c]) (k + 1)
    have h1 : anyPl (runPl [r] (v ++ [c])) = anyR (runR r (v ++ [c])) := by rw [any_cons]; simp [anyPl, runPl]
    rw [farV, farV, farV, any_cons, h1]
    have g1 := farV_ge [r] l (v ++ [c]) (k + 1)
    have g2 := farV_ge rs l (v ++ [c]) (k + 1)
    cases ha : anyR (runR r (v ++ [c])) with
    | true =>
      cases hb : anyPl (runPl rs (v ++ [c])) with
      | true => simp only [Bool.or_self, if_true]; exact ih
      | false =>
        rw [farV_none hok2 hb] at ih
        simp only [Bool.or_false, if_true, Bool.false_eq_true, if_false]
        rw [ih]; omega
    | false =>
      cases hb : anyPl (runPl rs (v ++ [c])) with
      | true =>
        rw [farV_none hok1 (by rw [h1]; exact ha)] at ih
        simp only [Bool.false_or, if_true, Bool.false_eq_true, if_false]
        rw [ih]; omega
      | false => simp
theorem refG_far {r : RuP} {n : Nat} (hr : RuleOk r n) (ri : Nat) : ∀ (l v : By) (k : Nat) (b : Int × Int × Int), (refG r ri l (runR r v) k b).2.2 = if anyR (runR r v) = true then max b.2.2 (farV [r] v l k : Nat) else b.2.2
  | [], v, k, b => by
    rw [refG]
    cases ha : anyR (runR r v) with
    | false => simp
    | true =>
      simp only [Bool.true_eq_false, if_false, if_true, farV]
      split
      · simp only; split <;> omega
      · simp only; split <;> omega
  | c :: l, v, k, b => by
    rw [refG]
    cases ha : anyR (runR r v) with
    | false => simp
    | true =>
      simp only [Bool.true_eq_false, if_false, if_true]
      rw [← runR_snoc, refG_far hr ri l (v ++ [c]) (k + 1), farV]
      have h1 : anyPl (runPl [r] (v ++ [c])) = anyR (runR r (v ++ [c])) := by rw [any_cons]; simp [anyPl, runPl]
      have g1 := farV_ge [r] l (v ++ [c]) (k + 1)
      have hb : (if endsR r (runR r v) = true ∧ (b.2.1 < 0 ∨ b.1 < k) then ((k : Int), (ri : Int), if b.2.2 < k then (k : Int) else b.2.2) else (b.1, b.2.1, if b.2.2 < k then (k : Int) else b.2.2)).2.2 = max b.2.2 (k : Int) := by
        split
        · simp only; split <;> omega
        · simp only; split <;> omega
      rw [h1, hb]
      cases hs : anyR (runR r (v ++ [c])) with
      | true => simp only [if_true]; omega
      | false => simp
theorem start_any {r : RuP} {n : Nat} (hr : RuleOk r n) : anyR (runR r []) = true := (on_any _).2 ⟨0, (on_set hr.pos 0).2 rfl⟩
theorem refGs_far : ∀ (rs : List RuP) (i : Nat) (l : By) (b : Int × Int × Int), (∀ r ∈ rs, ∃ n, RuleOk r n) → 0 ≤ b.2.2 → (refGs i rs l b).2.2 = max b.2.2 (farV rs [] l 0 : Nat)
  | [], i, l, b, _, h => by
    rw [refGs, farV_none (rs := []) (fun r hr => by cases hr) rfl]
    omega
  | r :: rs, i, l, b, hok, h => by
    obtain ⟨n, hn⟩ := hok r (by simp)
    have h1 : (refG r i l (startR r) 0 b).2.2 = max b.2.2 (farV [r] [] l 0 : Nat) := by
      have := refG_far hn i l [] 0 b
      rw [start_any hn, if_pos rfl] at this
      exact this
    rw [refGs, refGs_far rs (i + 1) l _ (fun x hx => hok x (by simp [hx])) (by rw [h1]; omega), h1, farV_cons hok]
    omega
theorem steps_far {m : Tab} (hm : m.Ok) (ht : Trim m) {rs : List RuP} (hok : ∀ r ∈ rs, ∃ n, RuleOk r n) (hlive : ∀ v, anyPl (runPl rs v) = true → ∃ w, 0 ≤ refLeast 0 rs (v ++ w)) : ∀ (l v : By) (s k : Nat) (b : Int × Int), s < m.next.length → (∀ w, m.says (s : Int) w = refLeast 0 rs (v ++ w)) →
    (dmatchG m l s k b).2.2 = (farV rs v l k : Nat)
  | [], v, s, k, b, hs, h => by rw [dmatchG, farV]; split <;> rfl
  | c :: l, v, s, k, b, hs, h => by
    have hc : ∀ w, m.says (m.to s c) w = refLeast 0 rs ((v ++ [c]) ++ w) := fun w => by rw [← says_cons, h, List.append_assoc]; rfl
    have hto := Tab.to_lt hm (s := s) c
    rw [dmatchG, farV]
    by_cases h0 : 0 ≤ m.to s c
    · obtain ⟨w, hw⟩ := ht s c hs h0
      rw [hc] at hw
      have ha : anyPl (runPl rs (v ++ [c])) = true := by
        cases ha : anyPl (runPl rs (v ++ [c])) with
        | true => rfl
        | false => rw [least_none rs 0 _ w hok ha] at hw; omega
      rw [if_pos h0, if_pos ha]
      exact steps_far hm ht hok hlive l (v ++ [c]) _ (k + 1) _ (by omega) (fun w => by rw [Int.toNat_of_nonneg h0]; exact hc w)
    · have ha : ¬ anyPl (runPl rs (v ++ [c])) = true := fun ha => by
        obtain ⟨w, hw⟩ := hlive _ ha
        rw [← hc, says_neg m w (by omega)] at hw; omega
      rw [if_neg h0, if_neg ha]
      split <;> rfl
theorem least_bound : ∀ (rs : List RuP) (i : Nat) (w : By), (∃ r ∈ rs, endsR r (runR r w) = true) → 0 ≤ refLeast i rs w
  | [], i, w, h => by obtain ⟨r, hr, _⟩ := h; cases hr
  | r :: rs, i, w, h => by
    rw [refLeast]
    split
    · omega
    · rename_i hn
      refine least_bound rs (i + 1) w ?_
      obtain ⟨x, hx, he⟩ := h
      rcases List.mem_cons.1 hx with rfl | hx
      · exact absurd he hn
      · exact ⟨x, hx, he⟩
theorem full_live {xs : List Nd} (hw : ∀ x ∈ xs, wfN x = true) (ha : ∀ x ∈ xs, altN x = true) (hf : ∀ r ∈ xs.map ofP, FullR r) (v : By) (h : anyPl (runPl (xs.map ofP) v) = true) : ∃ w, 0 ≤ refLeast 0 (xs.map ofP) (v ++ w) := by
  unfold anyPl runPl at h
  obtain ⟨a, hm, hany⟩ := List.any_eq_true.1 h
  obtain ⟨r, hr, rfl⟩ := List.mem_map.1 hm
  obtain ⟨x, hx, rfl⟩ := List.mem_map.1 hr
  obtain ⟨p, hp⟩ := (on_any _).1 hany
  have hpl : p < (ofP x).sets.length := by
    have := (List.getElem?_eq_some_iff.1 hp).1
    rwa [runR_len (of_ok (hw x hx))] at this
  obtain ⟨w, hv⟩ := full_acc (hw x hx) (ha x hx) (hf _ hr) p hpl
  refine ⟨w, least_bound _ 0 _ ⟨_, hr, ?_⟩⟩
  rw [ends_lng (hw x hx), ← of_lng (hw x hx)]
  exact (runR_acc (of_ok (hw x hx)) v w).1 ⟨p, hp, hv⟩
end Go.Proofs.YtlegopbpofofgaaDoor
