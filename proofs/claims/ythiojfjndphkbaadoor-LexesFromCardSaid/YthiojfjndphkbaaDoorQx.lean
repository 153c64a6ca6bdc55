/- Plain words, the logic of walks, and walks that the statement's proof leans on (part 24). -/
import Derived.Below
import Derived.Lib.TrimUEq
import Derived.Test.YthiojfjndphkbaaDoorQa
import Derived.Test.YthiojfjndphkbaaDoorQb
import Derived.Test.YthiojfjndphkbaaDoorQc
import Derived.Test.YthiojfjndphkbaaDoorQd
import Derived.Test.YthiojfjndphkbaaDoorQe
import Derived.Test.YthiojfjndphkbaaDoorQf
import Derived.Test.YthiojfjndphkbaaDoorQg
import Derived.Test.YthiojfjndphkbaaDoorQh
import Derived.Test.YthiojfjndphkbaaDoorQi
import Derived.Test.YthiojfjndphkbaaDoorQj
import Derived.Test.YthiojfjndphkbaaDoorQk
import Derived.Test.YthiojfjndphkbaaDoorQl
import Derived.Test.YthiojfjndphkbaaDoorQm
import Derived.Test.YthiojfjndphkbaaDoorQn
import Derived.Test.YthiojfjndphkbaaDoorQo
import Derived.Test.YthiojfjndphkbaaDoorQp
import Derived.Test.YthiojfjndphkbaaDoorQq
import Derived.Test.YthiojfjndphkbaaDoorQr
import Derived.Test.YthiojfjndphkbaaDoorQs
import Derived.Test.YthiojfjndphkbaaDoorQt
import Derived.Test.YthiojfjndphkbaaDoorQu
import Derived.Test.YthiojfjndphkbaaDoorQv
import Derived.Test.YthiojfjndphkbaaDoorQw

namespace Go.Proofs.YthiojfjndphkbaaDoor
open Go Go.Lw
set_option maxRecDepth 20000
def Utf8H (h : Heap) : Prop := (∀ c, c < 256 → cellAt h ⟨1, c, none⟩ = some (.int .u8 (Lib.firstT c))) ∧
  (∀ i, i < 16 → cellAt h ⟨2, 2 * i, none⟩ = some (.int .u8 (Lib.accLo i)) ∧ cellAt h ⟨2, 2 * i + 1, none⟩ = some (.int .u8 (Lib.accHi i)))
structure LxG (h : Heap) : Prop where
  sg : ∃ lim, lim ≤ h.size ∧ Sg h lim
  tens : Tens h
  rules : RulesAt h
  utf : Utf8H h
  most : ∃ m, cellAt h ⟨3, 0, none⟩ = some (.int .i64 m)
theorem LxG.ext0 {h h' : Heap} (k : LxG h) (e : Ext0 h h') : LxG h' := by
  obtain ⟨⟨lim, h1, h2⟩, h3, h4, h5, m, h6⟩ := k
  have hz := e.size
  exact ⟨⟨lim, by omega, h2.ext e (fun _ k => k.elim)⟩, h3.ext0 e, h4.ext0 e, ⟨fun c hc => e.cell (fun k => k) (h5.1 c hc), fun i hi => ⟨e.cell (fun k => k) (h5.2 i hi).1, e.cell (fun k => k) (h5.2 i hi).2⟩⟩, m, e.cell (fun k => k) h6⟩
theorem decode_calls {h : Heap} (hg : LxG h) (l : By) (hl : l ≠ []) : CallsH Tryd.prog 23 #[.string (bs l)] h (Ret fun r h' => (∃ x : Nat, r = .tuple #[.int .i32 (x : Nat), .int .i64 (runeN l : Nat)]) ∧ Ext0 h h') := by
  refine CallsH.ofBelow fun w hw => ?_
  subst hw
  have hT : Lib.Utf8Tabs 1 2 w := ⟨fun c hc => by rw [cell_heap]; exact hg.utf.1 c hc, fun i hi => ⟨by rw [cell_heap]; exact (hg.utf.2 i hi).1, by rw [cell_heap]; exact (hg.utf.2 i hi).2⟩⟩
  refine (Tryd.utf8_DecodeRuneInString (bs l) w hT).mono ?_
  rintro e w' ⟨rfl, hb⟩
  have hn : (Lib.decodeGo (bs l)).2 = runeN l := by
    have h0 : ¬ (bs l).size = 0 := by rw [bs_size]; have := List.length_pos_iff.2 hl; omega
    unfold Lib.decodeGo
    rw [if_neg h0, Lib.decode_N, bs_list]
    rfl
  refine ⟨_, rfl, ⟨⟨(Lib.decodeGo (bs l)).1, by rw [hn]⟩, ⟨hb.size, fun b hlt _ => hb.block b hlt⟩⟩, hb.os, hb.tape, hb.output⟩
theorem contains_calls {h : Heap} (hg : LxG h) (s t : By) (hs : s.length ≤ 1000000) : CallsH Tryd.prog 25 #[.string (bs s), .string (bs t)] h (Ret fun r h' => r = .bool (Lib.contains s t) ∧ h' = h) := by
  obtain ⟨m, hm⟩ := hg.most
  refine CallsH.ofBelow fun w hw => ?_
  subst hw
  refine (Tryd.strings_Contains (bs s) (bs t) m w (by rw [bs_size]; omega) (by rw [cell_heap]; exact hm)).mono ?_
  rintro e w' ⟨rfl, rfl⟩
  rw [bs_list, bs_list]
  exact ⟨_, rfl, ⟨rfl, rfl⟩, rfl, rfl, rfl⟩
theorem word_calls {h : Heap} (hg : LxG h) (s : By) (hs : s.length ≤ 1000000) : CallsH Tryd.prog 16 #[.string (bs s)] h (Ret fun r h' => r = .bool (wordP s) ∧ h' = h) := by
  have hbs := bs_size s
  have e1 : ((⟨#[32]⟩ : ByteArray) ++ bs s) ++ ⟨#[32]⟩ = bs (32 :: (s ++ [32])) := by
    rw [show (⟨#[32]⟩ : ByteArray) = bs [32] from rfl, bs_append, bs_append]; rfl
  have w1 : (⟨#[32]⟩ : ByteArray).size = 1 := rfl
  refine CallsH.of Tryd.func16 rfl rfl ?_
  refine xr Tryd.func16 rfl ?_
  refine xq rfl ?_
  refine xd [0, 2] rfl ?_
  refine G.seq rfl ?_
  refine G.regTo1 [(2, .bool (wordP s))] [(0, _)] ⟨rfl, trivial⟩ Tryd.func16 rfl ?_ ?_
  · refine xq rfl ?_
    refine xp rfl (OpP.neqStr rfl rfl) ?_
    refine xq rfl ?_
    refine RW.split (d := 5) rfl (fun hc => ?_) (fun hc => ?_)
    · have hc' : decide (s ≠ []) = true := decide_eq_true (fun e => of_decide_eq_true hc (by rw [e]; rfl))
      refine xq rfl ?_
      refine xo rfl (OpX.call (vs := [_, _]) Tryd.func25 rfl H.nm25 rfl (CallsH.toX (contains_calls hg s [32] hs))) ?_
      rintro _ h0 ⟨rfl, hh0⟩
      subst hh0
      iterate 3 refine xq rfl ?_
      refine RW.split (d := 10) rfl (fun hc2 => ?_) (fun hc2 => ?_)
      · refine xq rfl ?_
        refine xp rfl (OpP.addStr rfl rfl (by omega)) ?_
        refine xp rfl (OpP.addStr rfl rfl (by rw [ByteArray.size_append]; omega)) ?_
        rw [e1]
        refine xo rfl (OpX.call (vs := [_, _]) Tryd.func25 rfl H.nm25 rfl (CallsH.toX (contains_calls hg wordsB (32 :: (s ++ [32])) (by decide)))) ?_
        rintro _ h1 ⟨rfl, hh1⟩
        subst hh1
        iterate 2 refine xq rfl ?_
        refine RW.done rfl ?_
        exact ⟨rfl, at_bool rfl (by rw [wordP, hc', hc2, Bool.true_and, Bool.true_and]), rfl, trivial⟩
      · iterate 4 refine xk rfl ?_
        iterate 2 refine xq rfl ?_
        refine RW.done rfl ?_
        exact ⟨rfl, at_bool rfl (by rw [wordP, hc', hc2, Bool.true_and, Bool.false_and]), rfl, trivial⟩
    · iterate 3 refine xk rfl ?_
      iterate 2 refine xq rfl ?_
      iterate 4 refine xk rfl ?_
      iterate 2 refine xq rfl ?_
      refine RW.done rfl ?_
      exact ⟨rfl, at_bool rfl (by rw [wordP, decide_eq_false (fun k => of_decide_eq_false hc (fun e => k (bs_inj (m := []) e))), Bool.false_and]), rfl, trivial⟩
  · refine G.ret Tryd.func16 rfl rfl ?_
    exact ⟨_, rfl, rfl, rfl⟩
theorem kindT_row {m : Nat} (hm : m < 3) {i : Nat} : (tabR m)[i]?.map (fun r => (r.2.1, r.2.2)) = (kindT m)[i]? := by
  have h : (tabR m).map (fun r => (r.2.1, r.2.2)) = kindT m := by
    match m, hm with
    | 0, _ => decide
    | 1, _ => decide
    | 2, _ => decide
  rw [← h, List.getElem?_map]
theorem kindT_out {m : Int} (h : m < 0 ∨ 3 ≤ m) : kindT m = [] := by
  unfold kindT
  rw [if_neg (by omega), if_neg (by omega), if_neg (by omega)]
theorem find_leaf {α : Type} {l : List α} {kn : Nat} {n : Int} (hk : l.length = kn) (hn : ¬ n < 0) : decide ((kn : Int) ≤ n) = !(l[n.toNat]?).isSome := by
  cases hq : l[n.toNat]? with
  | none => have := List.getElem?_eq_none_iff.1 hq; simp; omega
  | some v => have := (List.getElem?_eq_some_iff.1 hq).1; simp; omega
theorem find_calls {h : Heap} (hg : LxG h) (m n : Int) : CallsH Tryd.prog 24 #[.int .i64 m, .int .i64 n] h (Ret fun r h' => (∃ x : By × Int × Int, r = .tuple #[.agg (encSII x).toArray, .bool (findT m n).isSome] ∧ ∀ p, findT m n = some p → (x.2.1, x.2.2) = p) ∧ Ext0 h h') := by
  refine CallsH.of Tryd.func24 rfl rfl ?_
  refine xr Tryd.func24 rfl ?_
  refine xo rfl (OpX.allocN H.zr64) ?_
  rintro _ h1 ⟨rfl, k1, e1, z1⟩
  have k1 : Blk h1 h.size 64 [.string ⟨#[]⟩, .int .i64 0, .int .i64 0] := k1
  have hrow : ∀ mm : Nat, mm < 3 → ∃ oa kn kc, cellAt h1 ⟨0, 0 + mm * 1, none⟩ = some (.slice oa kn kc) ∧ Sl eSII h1 (fun _ => False) oa kn kc (tabR mm) := fun mm hmm => by
    obtain ⟨v, hv, hsl⟩ := (hg.rules.ext0 e1) mm hmm
    obtain ⟨oa, kn, kc, rfl, h2⟩ := hsl.open
    exact ⟨oa, kn, kc, by rw [Nat.mul_one, Nat.zero_add]; exact hv, h2⟩
  have hlenT : ∀ mm : Nat, mm < 3 → (tabR mm).length = (kindT mm).length := fun mm hmm => by
    match mm, hmm with
    | 0, _ => rfl
    | 1, _ => rfl
    | 2, _ => rfl
  refine xq rfl ?_
  refine xd [0, 1, 4, 5] rfl ?_
  refine G.seq rfl ?_
  refine G.seq rfl ?_
  refine G.regTo1 [(23, .bool (!(findT m n).isSome))] [(0, _), (1, _), (4, _), (5, _)] ⟨rfl, rfl, rfl, rfl, trivial⟩ Tryd.func24 rfl ?_ ?_
  · iterate 3 refine xq rfl ?_
    refine RW.split (d := 8) rfl (fun c1 => ?_) (fun c1 => ?_)
    · have c1' := of_decide_eq_true c1
      iterate 2 refine xk rfl ?_
      iterate 2 refine xq rfl ?_
      iterate 2 refine xk rfl ?_
      iterate 2 refine xq rfl ?_
      iterate 6 refine xk rfl ?_
      refine xq rfl ?_
      refine RW.done rfl ?_
      exact ⟨rfl, at_bool rfl (by rw [findT, kindT_out (.inl c1')]; simp), rfl, rfl, rfl, rfl, trivial⟩
    · have c1' := of_decide_eq_false c1
      iterate 4 refine xq rfl ?_
      refine RW.split (d := 12) rfl (fun c2 => ?_) (fun c2 => ?_)
      · have c2' := of_decide_eq_true c2
        iterate 2 refine xk rfl ?_
        iterate 2 refine xq rfl ?_
        iterate 6 refine xk rfl ?_
        refine xq rfl ?_
        refine RW.done rfl ?_
        exact ⟨rfl, at_bool rfl (by rw [findT, kindT_out (.inr c2')]; simp), rfl, rfl, rfl, rfl, trivial⟩
      · have c2' := of_decide_eq_false c2
        iterate 4 refine xq rfl ?_
        refine RW.split (d := 16) rfl (fun c3 => ?_) (fun c3 => ?_)
        · have c3' := of_decide_eq_true c3
          iterate 6 refine xk rfl ?_
          refine xq rfl ?_
          refine RW.done rfl ?_
          exact ⟨rfl, at_bool rfl (by rw [findT, if_pos c3']; rfl), rfl, rfl, rfl, rfl, trivial⟩
        · have c3' := of_decide_eq_false c3
          obtain ⟨mm, rfl⟩ := Int.eq_ofNat_of_zero_le (show 0 ≤ m by omega)
          have hmm : mm < 3 := by omega
          obtain ⟨oa, kn, kc, hv, hsl⟩ := hrow mm hmm
          have hkl := hsl.len
          rw [hlenT mm hmm] at hkl
          iterate 2 refine xq rfl ?_
          refine xp rfl (OpP.indexArr Tryd.underlying85 H.sz84 rfl rfl mm rfl (by omega)) ?_
          refine xp rfl (OpP.load H.ag84 rfl hv) ?_
          refine xp rfl (OpP.lenSlice Tryd.underlying84 rfl) ?_
          iterate 2 refine xq rfl ?_
          refine RW.done rfl ?_
          exact ⟨rfl, at_bool rfl (by rw [findT, if_neg c3']; exact find_leaf hkl c3'), rfl, rfl, rfl, rfl, trivial⟩
  · rcases hf : findT m n with _ | p
    · refine G.cond rfl rfl (fun _ => ?_) (fun hc => absurd hc (by simp))
      refine xr Tryd.func24 rfl ?_
      refine xp rfl (OpP.build (H.bd64_ ) rfl) ?_
      refine RW.op0 rfl rfl rfl (OpX.storeBlk H.sz64 rfl rfl k1 (by first | rfl | simp) (by first | decide | exact of_decide_eq_true rfl | (simp; done) | (simp; omega)) (by first | decide | simp [Value.oneCell'])) ?_
      rintro _ h2 ⟨rfl, k2, x2, z2⟩
      refine xq rfl ?_
      refine xd [0, 1, 4, 5, 23] rfl ?_
      have k2 : Blk h2 h.size 64 (encSII ([], 0, 0)) := k2
      refine G.retC Tryd.func24 rfl (.cons (ResOk.rowN H.ag64 H.sz64 rfl (k2.row) (by first | rfl | simp)) (.cons (ResOk.tmp rfl) (.nil))) ?_
      exact ⟨_, rfl, ⟨([], 0, 0), rfl, fun p hp => by cases hp⟩, e1.only x2 (Nat.le_refl _)⟩
    · have hn0 : 0 ≤ n := by
        by_cases q : n < 0
        · rw [findT, if_pos q] at hf; cases hf
        · omega
      have hm0 : 0 ≤ m ∧ m < 3 := by
        by_cases q : m < 0 ∨ 3 ≤ m
        · rw [findT, kindT_out q] at hf; simp at hf
        · omega
      obtain ⟨mm, rfl⟩ := Int.eq_ofNat_of_zero_le hm0.1
      obtain ⟨i, rfl⟩ := Int.eq_ofNat_of_zero_le hn0
      have hmm : mm < 3 := by omega
      obtain ⟨oa, kn, kc, hv, hsl⟩ := hrow mm hmm
      have hkl := hsl.len
      rw [findT, if_neg (by omega), Int.toNat_natCast, ← kindT_row hmm] at hf
      obtain ⟨r, hr, hrp⟩ := Option.map_eq_some_iff.1 hf
      obtain ⟨b3, o3, cs3, ha3, _, hrow3, rfl⟩ := hsl.get i r hr
      have hil := (List.getElem?_eq_some_iff.1 hr).1
      refine G.cond rfl rfl (fun hc => absurd hc (by simp)) (fun _ => ?_)
      refine G.skip rfl ?_
      refine xr Tryd.func24 rfl ?_
      refine xq rfl ?_
      refine xp rfl (OpP.indexArr Tryd.underlying85 H.sz84 rfl rfl mm rfl (by omega)) ?_
      refine xp rfl (OpP.load H.ag84 rfl hv) ?_
      refine xq rfl ?_
      refine xp rfl (OpP.indexSlice Tryd.underlying84 H.sz64 rfl rfl i rfl ha3 (by omega)) ?_
      refine xp rfl (OpP.loadRowN H.ag64 H.sz64 rfl hrow3 (by first | rfl | simp)) ?_
      refine RW.op0 rfl rfl rfl (OpX.storeBlk H.sz64 rfl rfl k1 (by first | rfl | simp) (by first | decide | exact of_decide_eq_true rfl | (simp; done) | (simp; omega)) (sii_one r)) ?_
      rintro _ h2 ⟨rfl, k2, x2, z2⟩
      refine xq rfl ?_
      refine xd [0, 1, 4, 5, 23] rfl ?_
      have k2 : Blk h2 h.size 64 (encSII r) := k2
      refine G.retC Tryd.func24 rfl (.cons (ResOk.rowN H.ag64 H.sz64 rfl (k2.row) (by first | rfl | simp)) (.cons (ResOk.tmp rfl) (.nil))) ?_
      exact ⟨_, rfl, ⟨r, rfl, fun p hp => by cases hp; exact hrp⟩, e1.only x2 (Nat.le_refl _)⟩
theorem kind_calls {h : Heap} (hg : LxG h) (m n : Int) : CallsH Tryd.prog 15 #[.int .i64 m, .int .i64 n] h (Ret fun r h' => r = .int .i64 (kindP m n) ∧ Ext0 h h') := by
  refine CallsH.of Tryd.func15 rfl rfl ?_
  refine xr Tryd.func15 rfl ?_
  refine xq rfl ?_
  refine xd [0, 1, 4] rfl ?_
  refine xr Tryd.func15 rfl ?_
  iterate 2 refine xq rfl ?_
  refine xo rfl (OpX.call (vs := [_, _]) Tryd.func24 rfl H.nm24 rfl (CallsH.toX (find_calls hg m n))) ?_
  rintro _ h1 ⟨⟨x, rfl, hx⟩, e1⟩
  iterate 3 refine xq rfl ?_
  refine xo rfl (OpX.allocN H.zr64) ?_
  rintro _ h2 ⟨rfl, k2, e2, z2⟩
  refine RW.op0 rfl rfl rfl (OpX.storeBlk H.sz64 rfl rfl k2 (by first | rfl | simp) (by first | decide | exact of_decide_eq_true rfl | (simp; done) | (simp; omega)) (sii_one x)) ?_
  rintro _ h3 ⟨rfl, k3, x3, z3⟩
  have k3 : Blk h3 h1.size 64 (encSII x) := k3
  have e3 : Ext0 h1 h3 := e2.only x3 (Nat.le_refl _)
  rcases hf : findT m n with _ | p
  · refine xq rfl ?_
    refine xd [0, 1, 4, 5, 6] rfl ?_
    refine G.seq rfl ?_
    refine xr Tryd.func15 rfl ?_
    iterate 2 refine xq rfl ?_
    refine xd [0, 1, 4, 5, 6, 14] rfl ?_
    refine G.cond rfl rfl (fun _ => ?_) (fun hc => absurd hc (by simp))
    refine xr Tryd.func15 rfl ?_
    refine xq rfl ?_
    refine xd [0, 1, 4, 5, 6, 14] rfl ?_
    refine G.ret Tryd.func15 rfl rfl ?_
    exact ⟨_, rfl, by rw [kindP, hf]; rfl, e1.trans e3⟩
  · have hp := hx p hf
    refine xq rfl ?_
    refine xd [0, 1, 4, 5, 6] rfl ?_
    refine G.seq rfl ?_
    refine xr Tryd.func15 rfl ?_
    iterate 2 refine xq rfl ?_
    refine xd [0, 1, 4, 5, 6, 14] rfl ?_
    refine G.cond rfl rfl (fun hc => absurd hc (by simp)) (fun _ => ?_)
    refine G.skip rfl ?_
    refine xr Tryd.func15 rfl ?_
    refine xp rfl (OpP.fieldAddr (off := 1) Tryd.underlying64 rfl rfl H.sz3 rfl) ?_
    refine xp rfl (OpP.load H.ag3 rfl (k3.cell (i := 1) rfl)) ?_
    refine xq rfl ?_
    refine xd [0, 1, 4, 5, 6, 14] rfl ?_
    refine G.ret Tryd.func15 rfl rfl ?_
    exact ⟨_, rfl, by rw [kindP, hf, ← hp]; rfl, e1.trans e3⟩
def encLSt (s : LSt) : List Value := [.int .i64 s.1, .int .i64 s.2]
theorem lst_one (s : LSt) : ∀ v ∈ encLSt s, v.oneCell' = true := fun v hv => by simp [encLSt] at hv; rcases hv with rfl | rfl <;> rfl
def I64 (i : Int) : Prop := -9223372036854775808 ≤ i ∧ i ≤ 9223372036854775807
theorem after_calls {h : Heap} (hg : LxG h) (s : LSt) (n : Int) (hs : I64 s.2) : CallsH Tryd.prog 17 #[.agg (encLSt s).toArray, .int .i64 n] h (Ret fun r h' => r = .agg (encLSt (afterP s n)).toArray ∧ Ext0 h h') := by
  obtain ⟨m, d⟩ := s
  obtain ⟨hd1, hd2⟩ := hs
  simp only at hd1 hd2
  refine CallsH.of Tryd.func17 rfl rfl ?_
  refine xr Tryd.func17 rfl ?_
  refine xo rfl (OpX.boxN rfl) ?_
  rintro _ h1 ⟨rfl, k1, e1, z1⟩
  refine xo rfl (OpX.allocN H.zr23) ?_
  rintro _ h2 ⟨rfl, k2, e2, z2⟩
  have k1 : Blk h1 h.size 23 [.int .i64 m, .int .i64 d] := k1
  have k2 : Blk h2 h1.size 23 [.int .i64 0, .int .i64 0] := k2
  have e02 := e1.trans e2
  have q1 := k1.ext0 e2
  refine xd [0, 1, 2, 4] rfl ?_
  refine xr Tryd.func17 rfl ?_
  refine xp rfl (OpP.fieldAddr (off := 0) Tryd.underlying23 rfl rfl H.sz3 rfl) ?_
  refine xp rfl (OpP.load H.ag3 rfl (q1.cell (i := 0) rfl)) ?_
  refine xq rfl ?_
  refine xo rfl (OpX.call (vs := [_, _]) Tryd.func24 rfl H.nm24 rfl (CallsH.toX (find_calls (hg.ext0 e02) m n))) ?_
  rintro _ h3 ⟨⟨x, rfl, hx⟩, e3⟩
  iterate 3 refine xq rfl ?_
  refine xo rfl (OpX.allocN H.zr64) ?_
  rintro _ h4 ⟨rfl, k4, e4, z4⟩
  refine RW.op0 rfl rfl rfl (OpX.storeBlk H.sz64 rfl rfl k4 (by first | rfl | simp) (by first | decide | exact of_decide_eq_true rfl | (simp; done) | (simp; omega)) (sii_one x)) ?_
  rintro _ h5 ⟨rfl, k5, x5, z5⟩
  have k5 : Blk h5 h3.size 64 (encSII x) := k5
  have e45 : Ext0 h3 h5 := e4.only x5 (Nat.le_refl _)
  have e25 := e3.trans e45
  have e05 := e02.trans e25
  have s1 := q1.ext0 e25
  have s2 := k2.ext0 e25
  have hz1 := e1.size
  have hz2 := e2.size
  have hz5 := e25.size
  have hne : ¬ h.size = h1.size := by omega
  have hout : ∀ {g : Heap}, Ext (fun b => b = h1.size) h5 g → Ext0 h g := fun e => Ext0.only e05 e hz1
  rcases hf : findT m n with _ | p
  · have haf : afterP (m, d) n = (m, d) := by unfold afterP; rw [hf]
    refine xq rfl ?_
    refine xd [0, 1, 2, 4, 5, 6] rfl ?_
    refine G.seq rfl ?_
    refine G.block rfl rfl ?_
    refine G.seq rfl ?_
    refine xr Tryd.func17 rfl ?_
    iterate 3 refine xq rfl ?_
    refine xd [0, 1, 2, 4, 5, 6, 14] rfl ?_
    refine G.cond rfl rfl (fun _ => ?_) (fun hc => absurd hc (by simp))
    refine G.skip rfl ?_
    refine G.cond rfl rfl (fun _ => ?_) (fun hc => absurd hc (by simp))
    refine xr Tryd.func17 rfl ?_
    refine xp rfl (OpP.loadRowN H.ag23 H.sz23 rfl s1.row (by first | rfl | simp)) ?_
    refine RW.op0 rfl rfl rfl (OpX.storeBlk H.sz23 rfl rfl s2 (by first | rfl | simp) (by first | decide | exact of_decide_eq_true rfl | (simp; done) | (simp; omega)) (by first | decide | simp [Value.oneCell'])) ?_
    rintro _ h6 ⟨rfl, k6, x6, z6⟩
    refine xd [0, 1, 2, 4, 5, 6, 14] rfl ?_
    have k6 : Blk h6 h1.size 23 (encLSt (m, d)) := k6
    refine G.retC Tryd.func17 rfl (.cons (ResOk.rowN H.ag23 H.sz23 rfl (k6.row) (by first | rfl | simp)) (.nil)) ?_
    exact ⟨_, rfl, by rw [haf]; rfl, hout x6⟩
  · have hp := hx p hf
    obtain ⟨hp1, hp2⟩ := Prod.mk.inj hp
    have haf : afterP (m, d) n = if x.2.2 = 0 then (m, d) else if x.2.2 = 1 then (1, 0) else if x.2.2 = 3 then (2, min (max d 0) 16383 + 1) else if x.2.2 = 4 ∧ 1 < d then (m, d - 1) else (0, 0) := by unfold afterP; rw [hf, ← hp]
    refine xq rfl ?_
    refine xd [0, 1, 2, 4, 5, 6] rfl ?_
    refine G.seq rfl ?_
    refine G.block rfl rfl ?_
    refine G.seq rfl ?_
    refine xr Tryd.func17 rfl ?_
    iterate 3 refine xq rfl ?_
    refine xd [0, 1, 2, 4, 5, 6, 14] rfl ?_
    refine G.cond rfl rfl (fun hc => absurd hc (by simp)) (fun _ => ?_)
    refine G.reg Tryd.func17 rfl ?_
    refine xp rfl (OpP.fieldAddr (off := 2) Tryd.underlying64 rfl rfl H.sz3 rfl) ?_
    refine xp rfl (OpP.load H.ag3 rfl (k5.cell (i := 2) rfl)) ?_
    iterate 2 refine xq rfl ?_
    refine xd [0, 1, 2, 4, 5, 6, 14] rfl ?_
    refine G.ite rfl rfl (fun h0 => ?_) (fun h0 => ?_)
    · rw [if_pos h0] at haf
      refine xr Tryd.func17 rfl ?_
      refine xp rfl (OpP.loadRowN H.ag23 H.sz23 rfl s1.row (by first | rfl | simp)) ?_
      refine RW.op0 rfl rfl rfl (OpX.storeBlk H.sz23 rfl rfl s2 (by first | rfl | simp) (by first | decide | exact of_decide_eq_true rfl | (simp; done) | (simp; omega)) (by first | decide | simp [Value.oneCell'])) ?_
      rintro _ h6 ⟨rfl, k6, x6, z6⟩
      refine xd [0, 1, 2, 4, 5, 6, 14] rfl ?_
      have k6 : Blk h6 h1.size 23 (encLSt (m, d)) := k6
      refine G.retC Tryd.func17 rfl (.cons (ResOk.rowN H.ag23 H.sz23 rfl (k6.row) (by first | rfl | simp)) (.nil)) ?_
      exact ⟨_, rfl, by rw [haf]; rfl, hout x6⟩
    · rw [if_neg h0] at haf
      refine xr Tryd.func17 rfl ?_
      refine xp rfl (OpP.fieldAddr (off := 2) Tryd.underlying64 rfl rfl H.sz3 rfl) ?_
      refine xp rfl (OpP.load H.ag3 rfl (k5.cell (i := 2) rfl)) ?_
      iterate 2 refine xq rfl ?_
      refine xd [0, 1, 2, 4, 5, 6, 14, 21] rfl ?_
      refine G.ite rfl rfl (fun h1' => ?_) (fun h1' => ?_)
      · rw [if_pos h1'] at haf
        refine xr Tryd.func17 rfl ?_
        refine xp rfl (OpP.build (H.bd23_0 _) rfl) ?_
        refine RW.op0 rfl rfl rfl (OpX.storeBlk H.sz23 rfl rfl s2 (by first | rfl | simp) (by first | decide | exact of_decide_eq_true rfl | (simp; done) | (simp; omega)) (by first | decide | simp [Value.oneCell'])) ?_
        rintro _ h6 ⟨rfl, k6, x6, z6⟩
        refine xd [0, 1, 2, 4, 5, 6, 14, 21] rfl ?_
        have k6 : Blk h6 h1.size 23 (encLSt (1, 0)) := k6
        refine G.retC Tryd.func17 rfl (.cons (ResOk.rowN H.ag23 H.sz23 rfl (k6.row) (by first | rfl | simp)) (.nil)) ?_
        exact ⟨_, rfl, by rw [haf]; rfl, hout x6⟩
      · rw [if_neg h1'] at haf
        refine xr Tryd.func17 rfl ?_
        refine xp rfl (OpP.fieldAddr (off := 2) Tryd.underlying64 rfl rfl H.sz3 rfl) ?_
        refine xp rfl (OpP.load H.ag3 rfl (k5.cell (i := 2) rfl)) ?_
        iterate 2 refine xq rfl ?_
        refine xd [0, 1, 2, 4, 5, 6, 14, 21, 26] rfl ?_
        refine G.ite rfl rfl (fun h3' => ?_) (fun h3' => ?_)
        · rw [if_pos h3'] at haf
          refine xr Tryd.func17 rfl ?_
          refine xp rfl (OpP.fieldAddr (off := 1) Tryd.underlying23 rfl rfl H.sz3 rfl) ?_
          refine xp rfl (OpP.load H.ag3 rfl (s1.cell (i := 1) rfl)) ?_
          refine xp rfl (OpP.max2 rfl rfl) ?_
          refine xp rfl (OpP.min2 rfl rfl) ?_
          refine xp rfl (OpP.add64 rfl rfl ⟨by omega, by omega⟩) ?_
          refine xp rfl (OpP.build (H.bd23_0_1 _ _) rfl) ?_
          refine RW.op0 rfl rfl rfl (OpX.storeBlk H.sz23 rfl rfl s2 (by first | rfl | simp) (by first | decide | exact of_decide_eq_true rfl | (simp; done) | (simp; omega)) (by first | decide | simp [Value.oneCell'])) ?_
          rintro _ h6 ⟨rfl, k6, x6, z6⟩
          refine xd [0, 1, 2, 4, 5, 6, 14, 21, 26] rfl ?_
          have hmm : (if (16383 : Int) < if d < 0 then 0 else d then 16383 else if d < 0 then 0 else d) = min (max d 0) 16383 := by split <;> split <;> omega
          have k6 : Blk h6 h1.size 23 (encLSt (2, min (max d 0) 16383 + 1)) := by rw [← hmm]; exact k6
          refine G.retC Tryd.func17 rfl (.cons (ResOk.rowN H.ag23 H.sz23 rfl (k6.row) (by first | rfl | simp)) (.nil)) ?_
          exact ⟨_, rfl, by rw [haf]; rfl, hout x6⟩
        · rw [if_neg h3'] at haf
          refine G.seq rfl ?_
          refine G.regTo1 [(36, .bool (decide (x.2.2 = 4 ∧ 1 < d)))] [(0, _), (1, _), (2, _), (4, _), (5, _), (6, _), (14, _), (21, _), (26, _)] ⟨rfl, rfl, rfl, rfl, rfl, rfl, rfl, rfl, rfl, trivial⟩ Tryd.func17 rfl ?_ ?_
          · refine xp rfl (OpP.fieldAddr (off := 2) Tryd.underlying64 rfl rfl H.sz3 rfl) ?_
            refine xp rfl (OpP.load H.ag3 rfl (k5.cell (i := 2) rfl)) ?_
            iterate 2 refine xq rfl ?_
            refine RW.split (d := 40) rfl (fun hc => ?_) (fun hc => ?_)
            · have hc' := of_decide_eq_true hc
              refine xp rfl (OpP.fieldAddr (off := 1) Tryd.underlying23 rfl rfl H.sz3 rfl) ?_
              refine xp rfl (OpP.load H.ag3 rfl (s1.cell (i := 1) rfl)) ?_
              iterate 3 refine xq rfl ?_
              refine RW.done rfl ?_
              exact ⟨rfl, at_bool rfl (by simp [hc']), rfl, rfl, rfl, rfl, rfl, rfl, rfl, rfl, rfl, trivial⟩
            · have hc' := of_decide_eq_false hc
              iterate 3 refine xk rfl ?_
              iterate 2 refine xq rfl ?_
              refine RW.done rfl ?_
              exact ⟨rfl, at_bool rfl (by simp [hc']), rfl, rfl, rfl, rfl, rfl, rfl, rfl, rfl, rfl, trivial⟩
          · refine G.ite rfl rfl (fun h4' => ?_) (fun h4' => ?_)
            · rw [if_pos h4'] at haf
              refine xr Tryd.func17 rfl ?_
              refine xp rfl (OpP.fieldAddr (off := 1) Tryd.underlying23 rfl rfl H.sz3 rfl) ?_
              refine xp rfl (OpP.load H.ag3 rfl (s1.cell (i := 1) rfl)) ?_
              refine xp rfl (OpP.sub64 rfl rfl ⟨by omega, by omega⟩) ?_
              refine xp rfl (OpP.fieldAddr (off := 1) Tryd.underlying23 rfl rfl H.sz3 rfl) ?_
              refine RW.op0 rfl rfl rfl (OpX.store H.sz3 rfl rfl rfl (s1.cell (i := 1) rfl) s1.nf) ?_
              rintro _ h6 ⟨rfl, hg6⟩
              have s6 := s1.set 1 (.int .i64 (d - 1))
              have x6 : Ext (fun b => b = h.size) h5 h6 := by rw [hg6]; exact Ext.setC _ _ _ rfl
              have s6 : Blk h6 h.size 23 (encLSt (m, d - 1)) := by rw [hg6]; exact s6
              refine xd [0, 1, 2, 4, 5, 6, 14, 21, 26, 36] rfl ?_
              refine xr Tryd.func17 rfl ?_
              refine xp rfl (OpP.loadRowN H.ag23 H.sz23 rfl s6.row (by first | rfl | simp)) ?_
              refine RW.op0 rfl rfl rfl (OpX.storeBlk H.sz23 rfl rfl (s2.ext x6 (fun k => by omega)) (by first | rfl | simp) (by first | decide | exact of_decide_eq_true rfl | (simp; done) | (simp; omega)) (lst_one _)) ?_
              rintro _ h7 ⟨rfl, k7, x7, z7⟩
              refine xd [0, 1, 2, 4, 5, 6, 14, 21, 26, 36] rfl ?_
              have k7 : Blk h7 h1.size 23 (encLSt (m, d - 1)) := k7
              refine G.retC Tryd.func17 rfl (.cons (ResOk.rowN H.ag23 H.sz23 rfl (k7.row) (by first | rfl | simp)) (.nil)) ?_
              have hz6 := x6.size
              exact ⟨_, rfl, by rw [haf]; rfl, Ext0.only (Ext0.only e05 x6 (Nat.le_refl _)) x7 hz1⟩
            · rw [if_neg h4'] at haf
              refine G.skip rfl ?_
              refine G.blkEnd ?_
              refine xr Tryd.func17 rfl ?_
              refine xp rfl (OpP.build (H.bd23_ ) rfl) ?_
              refine RW.op0 rfl rfl rfl (OpX.storeBlk H.sz23 rfl rfl s2 (by first | rfl | simp) (by first | decide | exact of_decide_eq_true rfl | (simp; done) | (simp; omega)) (by first | decide | simp [Value.oneCell'])) ?_
              rintro _ h6 ⟨rfl, k6, x6, z6⟩
              refine xd [0, 1, 2, 4, 5, 6, 14, 21, 26, 36] rfl ?_
              have k6 : Blk h6 h1.size 23 (encLSt (0, 0)) := k6
              refine G.retC Tryd.func17 rfl (.cons (ResOk.rowN H.ag23 H.sz23 rfl (k6.row) (by first | rfl | simp)) (.nil)) ?_
              exact ⟨_, rfl, by rw [haf]; rfl, hout x6⟩
theorem cnext_calls {h : Heap} (hg : LxG h) (s : By) (k : Nat) (hk : k < s.length) (hs : s.length ≤ 1000000) : CallsH Tryd.prog 14 #[.string (bs s), .int .i64 (k : Nat)] h (Ret fun r h' => (∃ (x : Nat) (ok : Bool), r = .tuple #[.int .i32 (x : Nat), .int .i64 (runeN (s.drop k) : Nat), .bool ok]) ∧ Ext0 h h') := by
  have hbs := bs_size s
  have hne : s.drop k ≠ [] := fun e => by have := congrArg List.length e; rw [List.length_drop] at this; simp at this; omega
  refine CallsH.of Tryd.func14 rfl rfl ?_
  refine xr Tryd.func14 rfl ?_
  iterate 3 refine xq rfl ?_
  refine xd [0, 1, 4, 5, 6] rfl ?_
  refine G.seq rfl ?_
  refine G.seq rfl ?_
  refine G.regTo1 [(14, .bool false)] [(0, _), (1, _), (4, _), (5, _), (6, _)] ⟨rfl, rfl, rfl, rfl, rfl, trivial⟩ Tryd.func14 rfl ?_ ?_
  · iterate 3 refine xq rfl ?_
    refine RW.know (d := 9) (b' := false) rfl ((by simp)) ?_
    iterate 2 refine xq rfl ?_
    refine xp rfl (OpP.lenString Tryd.underlying9 rfl) ?_
    iterate 2 refine xq rfl ?_
    refine RW.done rfl ?_
    exact ⟨rfl, at_bool rfl (by simp; omega), rfl, rfl, rfl, rfl, rfl, trivial⟩
  · refine G.cond rfl rfl (fun hc => absurd hc (by decide)) (fun _ => ?_)
    refine G.skip rfl ?_
    refine xr Tryd.func14 rfl ?_
    iterate 2 refine xq rfl ?_
    refine xp rfl (OpP.sliceStrLo Tryd.underlying9 rfl rfl k rfl (by omega)) ?_
    rw [bs_drop]
    refine xo rfl (OpX.call (vs := [_]) Tryd.func23 rfl H.nm23 rfl (CallsH.toX (decode_calls hg (s.drop k) hne))) ?_
    rintro _ h1 ⟨⟨x, rfl⟩, e1⟩
    generalize hn : runeN (s.drop k) = n
    iterate 5 refine xq rfl ?_
    refine xd [0, 1, 4, 5, 6, 14] rfl ?_
    refine G.seq rfl ?_
    refine G.regTo1 [(4, .int .i32 (x : Nat)), (5, .int .i64 (n : Nat)), (6, .bool (decide (¬ (x : Int) = 65533 ∨ (1 : Int) < n)))] [(0, _), (1, _), (14, _)] ⟨rfl, rfl, rfl, trivial⟩ Tryd.func14 rfl ?_ ?_
    · iterate 5 refine xq rfl ?_
      refine RW.split (d := 26) rfl (fun hc => ?_) (fun hc => ?_)
      · have hc' := of_decide_eq_true hc
        iterate 2 refine xk rfl ?_
        iterate 4 refine xq rfl ?_
        refine RW.done rfl ?_
        exact ⟨rfl, rfl, rfl, at_bool rfl (by rw [decide_eq_true (Or.inl hc')]), rfl, rfl, rfl, trivial⟩
      · have hc' := of_decide_eq_false hc
        iterate 6 refine xq rfl ?_
        refine RW.done rfl ?_
        exact ⟨rfl, rfl, rfl, at_bool rfl (by simp only [decide_eq_decide]; exact ⟨fun q => .inr q, fun q => q.resolve_left hc'⟩), rfl, rfl, rfl, trivial⟩
    · refine G.ret Tryd.func14 rfl rfl ?_
      exact ⟨_, rfl, ⟨x, _, rfl⟩, e1⟩
theorem lnone_at {h : Heap} {p : Value} (k : LexAt h p) : CallsH Tryd.prog 12 #[p] h (Ret fun r h' => r = .bool false ∧ h' = h) := by
  obtain ⟨lb, vm, rfl, hk, ⟨oa, n, c, rfl, hl, _⟩⟩ := k
  have hl : n = 3 := by rw [← hl]; rfl
  subst hl
  refine CallsH.of Tryd.func12 rfl rfl ?_
  refine xr Tryd.func12 rfl ?_
  refine xq rfl ?_
  refine xd [0, 2] rfl ?_
  refine G.seq rfl ?_
  refine G.regTo1 [(2, .bool false)] [(0, _)] ⟨rfl, trivial⟩ Tryd.func12 rfl ?_ ?_
  · refine xq rfl ?_
    refine xp rfl (OpP.eqlNil Tryd.underlying25 rfl rfl) ?_
    refine xq rfl ?_
    refine RW.know (d := 5) (b' := false) rfl (rfl) ?_
    iterate 2 refine xq rfl ?_
    refine xp rfl (OpP.fieldAddr (off := 0) Tryd.underlying35 rfl rfl H.sz33 rfl) ?_
    refine xp rfl (OpP.load H.ag33 rfl (hk.cell (i := 0) rfl)) ?_
    refine xp rfl (OpP.lenSlice Tryd.underlying33 rfl) ?_
    iterate 3 refine xq rfl ?_
    refine RW.done rfl ?_
    exact ⟨rfl, at_bool rfl (rfl), rfl, trivial⟩
  · refine G.ret Tryd.func12 rfl rfl ?_
    exact ⟨_, rfl, rfl, rfl⟩
def lexS (m : Int) (l : By) : Int := if 0 ≤ m ∧ m < 3 then (dmatchG (minP (lexD m)) l 0 0 (0, -1)).2.2 else 0
theorem lex_match (m : Nat) (hm : m < 3) (s : By) (k : Nat) (hk : k ≤ s.length) : dmatchA (minP (lexD m)) s k = ((lexM m (s.drop k)).1, (lexM m (s.drop k)).2, lexS m (s.drop k)) := by
  obtain ⟨ss, st, h1, h2, h3, h4, h5⟩ := lex_made m hm
  have hok := dmadeP_ok h2
  have hsp := minP_spec hok.1 hok.2
  have htl := table_like hok.1 hsp.1 hsp.2.2.2.2 hok.2 hsp.2.1 (fun w => (hsp.2.2.2.1 w).symm) s k
  have htm := table_match h2 s k
  have hst := (makeP_made h1).stl
  have hM : matchM (rulesM m) s k = lexM m (s.drop k) := by
    unfold matchM matchA
    rw [h1]
    simp only
    rw [if_neg (by omega), Int.toNat_natCast, h4]
  rw [hM] at htm
  have hA : (dmatchA (minP (lexD m)) s k).2.2 = lexS m (s.drop k) := by
    rw [lexS, if_pos (show (0 : Int) ≤ m ∧ (m : Int) < 3 by omega), dmatchA, if_neg (by have := hsp.2.1; omega), Int.toNat_natCast]
  rw [← hA]
  refine Prod.ext ?_ (Prod.ext ?_ rfl)
  · rw [← htl.1]; exact (Prod.mk.inj htm).1
  · rw [← htl.2.1]; exact (Prod.mk.inj htm).2
theorem lexM_out {m : Int} (h : m < 0 ∨ 3 ≤ m) (l : By) : lexM m l = (0, -1) := by
  unfold lexM
  rw [if_neg (by omega), if_neg (by omega), if_neg (by omega)]
theorem lmatch_calls {h : Heap} {p : Value} (k : LexAt h p) (s : By) (i : Nat) (hi : i ≤ s.length) (hs : s.length ≤ 1000000) (m : Int) :
    CallsH Tryd.prog 13 #[p, .string (bs s), .int .i64 (i : Nat), .int .i64 m] h (Ret fun r h' => r = .tuple #[.int .i64 (lexM m (s.drop i)).1, .int .i64 (lexM m (s.drop i)).2, .int .i64 (lexS m (s.drop i))] ∧ h' = h) := by
  obtain ⟨lb, vm, rfl, hk, hv⟩ := k
  obtain ⟨oa, n, c, rfl, hsl⟩ := hv.open
  have hl : n = 3 := by rw [← hsl.len]; rfl
  subst hl
  refine CallsH.of Tryd.func13 rfl rfl ?_
  refine xr Tryd.func13 rfl ?_
  iterate 3 refine xq rfl ?_
  refine xd [0, 1, 2, 3, 8, 9, 10] rfl ?_
  refine G.seq rfl ?_
  refine G.seq rfl ?_
  refine G.regTo1 [(21, .bool (decide (m < 0 ∨ 3 ≤ m)))] [(0, _), (1, _), (2, _), (3, _), (8, _), (9, _), (10, _)] ⟨rfl, rfl, rfl, rfl, rfl, rfl, rfl, trivial⟩ Tryd.func13 rfl ?_ ?_
  · iterate 3 refine xq rfl ?_
    refine RW.split (d := 13) rfl (fun hc => ?_) (fun hc => ?_)
    · have hc' := of_decide_eq_true hc
      iterate 7 refine xk rfl ?_
      refine xq rfl ?_
      refine RW.done rfl ?_
      exact ⟨rfl, at_bool rfl (by simp [hc']), rfl, rfl, rfl, rfl, rfl, rfl, rfl, trivial⟩
    · have hc' := of_decide_eq_false hc
      iterate 3 refine xq rfl ?_
      refine xp rfl (OpP.fieldAddr (off := 0) Tryd.underlying35 rfl rfl H.sz33 rfl) ?_
      refine xp rfl (OpP.load H.ag33 rfl (hk.cell (i := 0) rfl)) ?_
      refine xp rfl (OpP.lenSlice Tryd.underlying33 rfl) ?_
      iterate 2 refine xq rfl ?_
      refine RW.done rfl ?_
      exact ⟨rfl, at_bool rfl (by simp only [decide_eq_decide]; omega), rfl, rfl, rfl, rfl, rfl, rfl, rfl, trivial⟩
  · refine G.ite rfl rfl (fun hout => ?_) (fun hout => ?_)
    · rw [lexM_out hout]
      refine xr Tryd.func13 rfl ?_
      iterate 3 refine xq rfl ?_
      refine xd [0, 1, 2, 3, 8, 9, 10, 21] rfl ?_
      refine G.ret Tryd.func13 rfl rfl ?_
      exact ⟨_, rfl, by rw [lexS, if_neg (by omega)]; rfl, rfl⟩
    · obtain ⟨mm, rfl⟩ := Int.eq_ofNat_of_zero_le (show 0 ≤ m by omega)
      have hmm : mm < 3 := by omega
      have hx : (lexTs 3)[mm]? = some (minP (lexD mm)) := by
        match mm, hmm with
        | 0, _ => rfl
        | 1, _ => rfl
        | 2, _ => rfl
      obtain ⟨b3, o3, cs3, ha3, _, hrow3, db, rfl, htab⟩ := hsl.get mm _ hx
      obtain ⟨ss, st, h1, h2, h3, h4, h5⟩ := lex_made mm hmm
      have hok := dmadeP_ok h2
      have hsp := minP_spec hok.1 hok.2
      refine G.skip rfl ?_
      refine xr Tryd.func13 rfl ?_
      iterate 2 refine xq rfl ?_
      refine xp rfl (OpP.fieldAddr (off := 0) Tryd.underlying35 rfl rfl H.sz33 rfl) ?_
      refine xp rfl (OpP.load H.ag33 rfl (hk.cell (i := 0) rfl)) ?_
      refine xq rfl ?_
      refine xp rfl (OpP.indexSlice Tryd.underlying33 H.sz55 rfl rfl mm rfl ha3 (by omega)) ?_
      refine xp rfl (OpP.load H.ag55 rfl (hrow3 0 _ rfl)) ?_
      iterate 2 refine xq rfl ?_
      refine xo rfl (OpX.call (vs := [_, _, _]) Tryd.func22 rfl H.nm22 rfl (CallsH.toX (dmatch_calls (s := s) (a := (i : Int)) (.inr ⟨db, rfl, htab.rd⟩) hsp.1 hs))) ?_
      rintro _ h0 ⟨rfl, hh0⟩
      subst hh0
      rw [lex_match mm hmm s i hi]
      iterate 6 refine xq rfl ?_
      refine xd [0, 1, 2, 3, 8, 9, 10, 21] rfl ?_
      refine G.ret Tryd.func13 rfl rfl ?_
      exact ⟨_, rfl, rfl, rfl⟩
def encTk (t : Tk) : List Value := [.int .i64 t.1, .int .i64 t.2.1, .int .i64 t.2.2]
theorem tk_one (t : Tk) : ∀ v ∈ encTk t, v.oneCell' = true := fun v hv => by simp [encTk] at hv; rcases hv with rfl | rfl | rfl <;> rfl
theorem after_I64 {s : LSt} (h : I64 s.2) (n : Int) : I64 (afterP s n).2 := by
  unfold I64 at *
  unfold afterP
  split
  · exact h
  · split
    · exact h
    · split
      · simp only; omega
      · split
        · simp only; omega
        · split
          · simp only; omega
          · simp only; omega
theorem nxt_I64 {s : LSt} (h : I64 s.2) (l : By) : I64 (nxtP l s).2 := by
  unfold nxtP
  split
  · exact h
  · exact after_I64 h _
theorem same_ext {h h' : Heap} {b : Nat} {t : TypeId} {cs : List Value} (k : Blk h b t cs) (k' : Blk h' b t cs) (e : Ext (fun x => x = b) h h') : Ext0 h h' := ⟨e.size, fun x hx _ => by
  by_cases q : x = b
  · subst q; exact k'.trans k.symm
  · exact e.block x hx q⟩
def oneV (s : By) (i : Nat) (st : LSt) : Value := .tuple #[.agg (encTk (kndP (s.drop i) st.1, (i : Int), ((i + lenP (s.drop i) st.1 : Nat) : Int))).toArray, .agg (encLSt (nxtP (s.drop i) st)).toArray, .int .i64 (lexS st.1 (s.drop i))]
theorem one_calls {h : Heap} {p : Value} (hg : LxG h) (k : LexAt h p) (s : By) (i : Nat) (hi : i < s.length) (hs : s.length ≤ 1000000) (st : LSt) (hst : I64 st.2) :
    CallsH Tryd.prog 8 #[p, .string (bs s), .int .i64 (i : Nat), .agg (encLSt st).toArray] h (Ret fun r h' => r = oneV s i st ∧ Ext0 h h') := by
  have hbs := bs_size s
  unfold oneV
  have hne : s.drop i ≠ [] := fun e => by have := congrArg List.length e; rw [List.length_drop] at this; simp at this; omega
  have hll := lexM_len st.1 (s.drop i)
  have hrl := rune_len hne
  rw [List.length_drop] at hll hrl
  refine CallsH.of Tryd.func8 rfl rfl ?_
  refine xr Tryd.func8 rfl ?_
  refine xo rfl (OpX.boxN rfl) ?_
  rintro _ h1 ⟨rfl, k7, e1, z1⟩
  refine xo rfl (OpX.allocN H.zr27) ?_
  rintro _ h2 ⟨rfl, k8, e2, z2⟩
  refine xo rfl (OpX.allocN H.zr23) ?_
  rintro _ h3 ⟨rfl, k9, e3, z3⟩
  have k7 : Blk h1 h.size 23 (encLSt st) := k7
  have k8 : Blk h2 h1.size 27 (encTk (0, 0, 0)) := k8
  have k9 : Blk h3 h2.size 23 (encLSt (0, 0)) := k9
  have e03 := (e1.trans e2).trans e3
  have q7 := (k7.ext0 e2).ext0 e3
  have q8 := k8.ext0 e3
  have y1 := e1.size
  have y2 := e2.size
  have hout : ∀ {g g2 g3 : Heap}, Ext0 h3 g → Ext (fun b => b = h1.size) g g2 → Ext (fun b => b = h2.size) g2 g3 → Ext0 h g3 := fun ea eb ec => Ext0.only (Ext0.only (e03.trans ea) eb (by omega)) ec (by omega)
  refine xq rfl ?_
  refine xd [0, 1, 2, 3, 7, 8, 9, 10] rfl ?_
  refine G.seq rfl ?_
  refine G.seq rfl ?_
  refine G.regTo1 [(27, .bool false)] [(0, _), (1, _), (2, _), (3, _), (7, _), (8, _), (9, _), (10, _)] ⟨rfl, rfl, rfl, rfl, rfl, rfl, rfl, rfl, trivial⟩ Tryd.func8 rfl ?_ ?_
  · refine xq rfl ?_
    refine xo rfl (OpX.call (vs := [_]) Tryd.func12 rfl H.nm12 rfl (CallsH.toX (lnone_at (k.ext0 e03)))) ?_
    rintro _ h4 ⟨rfl, hh4⟩
    subst hh4
    refine xq rfl ?_
    refine RW.know (d := 18) (b' := false) rfl (rfl) ?_
    iterate 4 refine xq rfl ?_
    refine RW.know (d := 22) (b' := false) rfl ((by simp)) ?_
    iterate 2 refine xq rfl ?_
    refine xp rfl (OpP.lenString Tryd.underlying9 rfl) ?_
    iterate 2 refine xq rfl ?_
    refine RW.done rfl ?_
    exact ⟨rfl, at_bool rfl (by simp; omega), rfl, rfl, rfl, rfl, rfl, rfl, rfl, rfl, trivial⟩
  · refine G.cond rfl rfl (fun hc => absurd hc (by decide)) (fun _ => ?_)
    refine G.skip rfl ?_
    refine xr Tryd.func8 rfl ?_
    iterate 3 refine xq rfl ?_
    refine xp rfl (OpP.fieldAddr (off := 0) Tryd.underlying23 rfl rfl H.sz3 rfl) ?_
    refine xp rfl (OpP.load H.ag3 rfl (q7.cell (i := 0) rfl)) ?_
    refine xo rfl (OpX.call (vs := [_, _, _, _]) Tryd.func13 rfl H.nm13 rfl (CallsH.toX (lmatch_calls (k.ext0 e03) s i (by omega) hs st.1))) ?_
    rintro _ h4 ⟨rfl, hh4⟩
    subst hh4
    iterate 7 refine xq rfl ?_
    refine xd [0, 1, 2, 3, 7, 8, 9, 10, 11, 12, 27] rfl ?_
    refine G.seq rfl ?_
    refine xr Tryd.func8 rfl ?_
    iterate 2 refine xq rfl ?_
    refine xd [0, 1, 2, 3, 7, 8, 9, 10, 11, 12, 27, 41] rfl ?_
    refine G.ite rfl rfl (fun hz => ?_) (fun hz => ?_)
    · have hlen : lenP (s.drop i) st.1 = runeN (s.drop i) := by rw [lenP, if_pos hz]
      have hknd : kndP (s.drop i) st.1 = 0 := by rw [kndP, if_pos hz]
      have hnxt : nxtP (s.drop i) st = st := by rw [nxtP, if_pos hz]
      rw [hlen, hknd, hnxt]
      refine xr Tryd.func8 rfl ?_
      iterate 2 refine xq rfl ?_
      refine xo rfl (OpX.call (vs := [_, _]) Tryd.func14 rfl H.nm14 rfl (CallsH.toX (cnext_calls (hg.ext0 e03) s i hi hs))) ?_
      rintro _ h5 ⟨⟨x, ok, rfl⟩, e5⟩
      have r7 := q7.ext0 e5
      have r8 := q8.ext0 e5
      have r9 := k9.ext0 e5
      have y5 := e5.size
      have hM7 : ¬ (h.size = h1.size ∨ h.size = h2.size ∨ Array.size h5 ≤ h.size) := by have := e03.size; omega
      iterate 7 refine xq rfl ?_
      refine xd [0, 1, 2, 3, 7, 8, 9, 10, 11, 12, 14, 27, 41] rfl ?_
      refine G.seq rfl ?_
      refine G.draw (fun b => b = Array.size h1 ∨ b = Array.size h2 ∨ Array.size h5 ≤ b) (fun i => Nat.blt i 9) (sz := 10) (listed := #[false, false, false, false, false, false, false, false, false, false]) Tryd.func8 H.mixed rfl rfl rfl ?_
      refine RD.takeS 0 (listed' := #[true, false, false, false, false, false, false, false, false, false]) rfl (by kernel_rfl) (by kernel_rfl) (by kernel_rfl) rfl rfl rfl (fun h' e => OpP.move rfl) rfl ?_
      refine RD.takeS 1 (listed' := #[true, true, false, false, false, false, false, false, false, false]) rfl (by kernel_rfl) (by kernel_rfl) (by kernel_rfl) rfl rfl rfl (fun h' e => OpP.move rfl) rfl ?_
      refine RD.takeS 2 (listed' := #[true, true, true, false, false, false, false, false, false, false]) rfl (by kernel_rfl) (by kernel_rfl) (by kernel_rfl) rfl rfl rfl (fun h' e => OpP.move rfl) rfl ?_
      refine RD.takeS 3 (listed' := #[true, true, true, true, false, false, false, false, false, false]) rfl (by kernel_rfl) (by kernel_rfl) (by kernel_rfl) rfl rfl rfl (fun h' e => OpP.add64 rfl rfl ⟨by omega, by omega⟩) rfl ?_
      refine RD.takeS 4 (listed' := #[true, true, true, true, true, false, false, false, false, false]) rfl (by kernel_rfl) (by kernel_rfl) (by kernel_rfl) rfl rfl rfl (fun h' e => OpP.build (H.bd27_0_1_2 _ _ _) rfl) rfl ?_
      refine RD.takeS 5 (listed' := #[true, true, true, true, true, true, false, false, false, false]) rfl (by kernel_rfl) (by kernel_rfl) (by kernel_rfl) rfl rfl rfl (fun h' e => OpP.loadRowN H.ag23 H.sz23 rfl (e.rowAt hM7 r7.row) (by first | rfl | simp)) rfl ?_
      refine RD.takeS 6 (listed' := #[true, true, true, true, true, true, true, false, false, false]) rfl (by kernel_rfl) (by kernel_rfl) (by kernel_rfl) rfl rfl rfl (fun h' e => OpP.move rfl) rfl ?_
      refine RD.one0 7 (listed' := #[true, true, true, true, true, true, true, true, false, false]) rfl (by kernel_rfl) rfl rfl (OpX.storeBlk H.sz27 rfl rfl r8 (by first | rfl | simp) (by first | decide | exact of_decide_eq_true rfl | (simp; done) | (simp; omega)) (by first | decide | simp [Value.oneCell'])) rfl ?_
      rintro _ h6 ⟨rfl, w8, x6, z6⟩
      refine ⟨fun _ => x6.mono (fun _ _ k => .inl k), ?_⟩
      refine RD.one0 8 (listed' := #[true, true, true, true, true, true, true, true, true, false]) rfl (by kernel_rfl) rfl rfl (OpX.storeBlk H.sz23 rfl rfl (r9.ext x6 (fun k => by omega)) (by first | rfl | simp) (by first | decide | exact of_decide_eq_true rfl | (simp; done) | (simp; omega)) (lst_one st)) rfl ?_
      rintro _ h7 ⟨rfl, w9, x7, z7⟩
      refine ⟨fun _ => x7.mono (fun _ _ k => .inr (.inl k)), ?_⟩
      have w8 : Blk h6 h1.size 27 (encTk (0, (i : Int), ((i + runeN (s.drop i) : Nat) : Int))) := by rw [Int.natCast_add]; exact w8
      have w8 := w8.ext x7 (show ¬ h1.size = h2.size by omega)
      have w9 : Blk h7 h2.size 23 (encLSt st) := w9
      refine RD.takeS 9 (listed' := #[true, true, true, true, true, true, true, true, true, true]) rfl (by kernel_rfl) (by kernel_rfl) (by kernel_rfl) rfl rfl rfl (fun h' e => OpP.assign rfl) rfl ?_
      refine RD.done (by kernel_rfl) ?_
      refine xu [0, 1, 2, 3, 7, 8, 9, 10, 11, 12, 14, 27, 41] rfl ?_
      refine G.retC Tryd.func8 rfl (.cons (ResOk.rowN H.ag27 H.sz27 rfl (w8.row) (by first | rfl | simp)) (.cons (ResOk.rowN H.ag23 H.sz23 rfl (w9.row) (by first | rfl | simp)) (.cons (ResOk.tmp rfl) (.nil)))) ?_
      exact ⟨_, rfl, rfl, hout e5 x6 x7⟩
    · obtain ⟨L, hL⟩ := Int.eq_ofNat_of_zero_le hll.1
      have hL0 : 0 < L := by omega
      have hlen : lenP (s.drop i) st.1 = L := by rw [lenP, if_neg hz, hL]; rfl
      have hknd : kndP (s.drop i) st.1 = if kindP st.1 (lexM st.1 (s.drop i)).2 = 3 ∧ wordP ((s.drop i).take L) = true then 4 else kindP st.1 (lexM st.1 (s.drop i)).2 := by rw [kndP, if_neg hz, hL]; rfl
      have hnxt : nxtP (s.drop i) st = afterP st (lexM st.1 (s.drop i)).2 := by rw [nxtP, if_neg hz]
      rw [hlen, hknd, hnxt, hL]
      generalize (lexM st.1 (s.drop i)).2 = rl at *
      rw [hL] at hll
      refine G.skip rfl ?_
      refine xr Tryd.func8 rfl ?_
      refine xp rfl (OpP.fieldAddr (off := 0) Tryd.underlying23 rfl rfl H.sz3 rfl) ?_
      refine xp rfl (OpP.load H.ag3 rfl (q7.cell (i := 0) rfl)) ?_
      refine xq rfl ?_
      refine xo rfl (OpX.call (vs := [_, _]) Tryd.func15 rfl H.nm15 rfl (CallsH.toX (kind_calls (hg.ext0 e03) st.1 rl))) ?_
      rintro _ h5 ⟨rfl, e5⟩
      iterate 3 refine xq rfl ?_
      refine xp rfl (OpP.add64 rfl rfl ⟨by omega, by omega⟩) ?_
      refine xp rfl (OpP.build (H.bd27_0_1_2 _ _ _) rfl) ?_
      refine RW.op0 rfl rfl rfl (OpX.storeBlk H.sz27 rfl rfl (q8.ext0 e5) (by first | rfl | simp) (by first | decide | exact of_decide_eq_true rfl | (simp; done) | (simp; omega)) (by first | decide | simp [Value.oneCell'])) ?_
      rintro _ h6 ⟨rfl, w8, x6, z6⟩
      have w8 : Blk h6 h1.size 27 (encTk (kindP st.1 rl, (i : Int), ((i + L : Nat) : Int))) := by rw [Int.natCast_add]; exact w8
      generalize kindP st.1 rl = kd at *
      have hcut : (bs s).extract i (i + L) = bs ((s.drop i).take L) := by rw [bs_part s i (i + L) (by omega), List.drop_take, Nat.add_sub_cancel_left]
      have y6 := x6.size
      have e06 : Ext0 h h6 := Ext0.only (e03.trans e5) x6 (by omega)
      have r7 := (q7.ext0 e5).ext x6 (show ¬ h.size = h1.size by omega)
      have r9 := (k9.ext0 e5).ext x6 (show ¬ h2.size = h1.size by omega)
      refine xd [0, 1, 2, 3, 7, 8, 9, 10, 11, 12, 27, 41] rfl ?_
      refine G.seq rfl ?_
      refine G.seq rfl ?_
      refine G.regTo1 [(76, .bool (decide (kd = 3 ∧ wordP ((s.drop i).take L) = true)))] [(0, _), (1, _), (2, _), (3, _), (7, _), (8, _), (9, _), (10, _), (11, _), (12, _), (27, _), (41, _)] ⟨rfl, rfl, rfl, rfl, rfl, rfl, rfl, rfl, rfl, rfl, rfl, rfl, trivial⟩ Tryd.func8 rfl ?_ ?_
      · refine xp rfl (OpP.fieldAddr (off := 0) Tryd.underlying27 rfl rfl H.sz3 rfl) ?_
        refine xp rfl (OpP.load H.ag3 rfl (w8.cell (i := 0) rfl)) ?_
        iterate 2 refine xq rfl ?_
        refine RW.split (d := 68) rfl (fun hc => ?_) (fun hc => ?_)
        · have hc' : kd = 3 := of_decide_eq_true hc
          refine xq rfl ?_
          refine xp rfl (OpP.fieldAddr (off := 1) Tryd.underlying27 rfl rfl H.sz3 rfl) ?_
          refine xp rfl (OpP.load H.ag3 rfl (w8.cell (i := 1) rfl)) ?_
          refine xp rfl (OpP.fieldAddr (off := 2) Tryd.underlying27 rfl rfl H.sz3 rfl) ?_
          refine xp rfl (OpP.load H.ag3 rfl (w8.cell (i := 2) rfl)) ?_
          refine xp rfl (OpP.sliceStr Tryd.underlying9 rfl rfl i rfl rfl (i + L) rfl (by omega) (by omega)) ?_
          rw [hcut]
          refine xo rfl (OpX.call (vs := [_]) Tryd.func16 rfl H.nm16 rfl (CallsH.toX (word_calls (hg.ext0 e06) ((s.drop i).take L) (by rw [List.length_take, List.length_drop]; omega)))) ?_
          rintro _ h7 ⟨rfl, hh7⟩
          subst hh7
          refine xq rfl ?_
          refine RW.done rfl ?_
          exact ⟨rfl, at_bool rfl (by simp [hc']), rfl, rfl, rfl, rfl, rfl, rfl, rfl, rfl, rfl, rfl, rfl, rfl, trivial⟩
        · have hc' : ¬ kd = 3 := of_decide_eq_false hc
          iterate 7 refine xk rfl ?_
          refine xq rfl ?_
          refine RW.done rfl ?_
          exact ⟨rfl, at_bool rfl (by simp [hc']), rfl, rfl, rfl, rfl, rfl, rfl, rfl, rfl, rfl, rfl, rfl, rfl, trivial⟩
      · refine G.ite rfl rfl (fun hw => ?_) (fun hw => ?_)
        · refine G.reg Tryd.func8 rfl ?_
          refine xp rfl (OpP.fieldAddr (off := 0) Tryd.underlying27 rfl rfl H.sz3 rfl) ?_
          refine RW.op0 rfl rfl rfl (OpX.store H.sz3 rfl rfl rfl (w8.cell (i := 0) rfl) w8.nf) ?_
          rintro _ h7 ⟨rfl, hg7⟩
          have w7 := w8.set 0 (.int .i64 4)
          have x7 : Ext (fun b => b = h1.size) h6 h7 := by rw [hg7]; exact Ext.setC _ _ _ rfl
          have w7 : Blk h7 h1.size 27 (encTk (4, (i : Int), ((i + L : Nat) : Int))) := by rw [hg7]; exact w7
          have y7 := x7.size
          have e07 : Ext0 h h7 := Ext0.only e06 x7 (by omega)
          have p7 := r7.ext x7 (show ¬ h.size = h1.size by omega)
          have p9 := r9.ext x7 (show ¬ h2.size = h1.size by omega)
          have hMa : ¬ (h1.size = h2.size ∨ Array.size h7 ≤ h1.size) := by have := e03.size; have := e5.size; omega
          have hMb : ¬ (h.size = h2.size ∨ Array.size h7 ≤ h.size) := by have := e03.size; have := e5.size; omega
          refine xd [0, 1, 2, 3, 7, 8, 9, 10, 11, 12, 27, 41, 76] rfl ?_
          refine G.seq rfl ?_
          refine G.draw (fun b => b = Array.size h2 ∨ Array.size h7 ≤ b) (fun i => Nat.blt i 7) (sz := 8) (listed := #[false, false, false, false, false, false, false, false]) Tryd.func8 H.mixed rfl rfl rfl ?_
          refine RD.takeS 0 (listed' := #[true, false, false, false, false, false, false, false]) rfl (by kernel_rfl) (by kernel_rfl) (by kernel_rfl) rfl rfl rfl (fun h' e => OpP.loadRowN H.ag27 H.sz27 rfl (e.rowAt hMa w7.row) (by first | rfl | simp)) rfl ?_
          refine RD.takeS 1 (listed' := #[true, true, false, false, false, false, false, false]) rfl (by kernel_rfl) (by kernel_rfl) (by kernel_rfl) rfl rfl rfl (fun h' e => OpP.loadRowN H.ag23 H.sz23 rfl (e.rowAt hMb p7.row) (by first | rfl | simp)) rfl ?_
          refine RD.takeS 2 (listed' := #[true, true, true, false, false, false, false, false]) rfl (by kernel_rfl) (by kernel_rfl) (by kernel_rfl) rfl rfl rfl (fun h' e => OpP.move rfl) rfl ?_
          refine RD.takeS 4 (listed' := #[true, true, true, false, true, false, false, false]) rfl (by kernel_rfl) (by kernel_rfl) (by kernel_rfl) rfl rfl rfl (fun h' e => OpP.move rfl) rfl ?_
          refine RD.oneS 3 (listed' := #[true, true, true, true, true, false, false, false]) rfl (by kernel_rfl) rfl rfl rfl (OpX.call (vs := [_, _]) Tryd.func17 rfl H.nm17 rfl (CallsH.toX (after_calls (hg.ext0 e07) st rl hst))) rfl ?_
          rintro _ h8 ⟨rfl, e8⟩
          refine ⟨fun _ => e8.mono (fun _ _ k => k.elim), ?_⟩
          have w8' := w7.ext0 e8
          refine RD.one0 5 (listed' := #[true, true, true, true, true, true, false, false]) rfl (by kernel_rfl) rfl rfl (OpX.storeBlk H.sz27 rfl rfl w8' (by first | rfl | simp) (by first | decide | exact of_decide_eq_true rfl | (simp; done) | (simp; omega)) (tk_one _)) rfl ?_
          rintro _ h9 ⟨rfl, w9', x9, z9⟩
          refine ⟨fun _ => (same_ext w8' w9' x9).mono (fun _ _ k => k.elim), ?_⟩
          have w9' : Blk h9 h1.size 27 (encTk (4, (i : Int), ((i + L : Nat) : Int))) := w9'
          have e9 := same_ext w8' w9' x9
          have p9' := (p9.ext0 e8).ext0 e9
          refine RD.one0 6 (listed' := #[true, true, true, true, true, true, true, false]) rfl (by kernel_rfl) rfl rfl (OpX.storeBlk H.sz23 rfl rfl p9' (by first | rfl | simp) (by first | decide | exact of_decide_eq_true rfl | (simp; done) | (simp; omega)) (lst_one _)) rfl ?_
          rintro _ h10 ⟨rfl, w10, x10, z10⟩
          refine ⟨fun _ => x10.mono (fun _ _ k => .inl k), ?_⟩
          have w10 : Blk h10 h2.size 23 (encLSt (afterP st rl)) := w10
          have w11 := w9'.ext x10 (show ¬ h1.size = h2.size by omega)
          refine RD.takeS 7 (listed' := #[true, true, true, true, true, true, true, true]) rfl (by kernel_rfl) (by kernel_rfl) (by kernel_rfl) rfl rfl rfl (fun h' e => OpP.assign rfl) rfl ?_
          refine RD.done (by kernel_rfl) ?_
          refine xu [0, 1, 2, 3, 7, 8, 9, 10, 11, 12, 27, 41, 76] rfl ?_
          refine G.retC Tryd.func8 rfl (.cons (ResOk.rowN H.ag27 H.sz27 rfl (w11.row) (by first | rfl | simp)) (.cons (ResOk.rowN H.ag23 H.sz23 rfl (w10.row) (by first | rfl | simp)) (.cons (ResOk.tmp rfl) (.nil)))) ?_
          have y10 := x10.size
          exact ⟨_, rfl, by rw [if_pos hw]; rfl, Ext0.only ((e07.trans e8).trans e9) x10 (by omega)⟩
        · have hMa : ¬ (h1.size = h2.size ∨ Array.size h6 ≤ h1.size) := by have := e03.size; have := e5.size; omega
          have hMb : ¬ (h.size = h2.size ∨ Array.size h6 ≤ h.size) := by have := e03.size; have := e5.size; omega
          refine G.skip rfl ?_
          refine G.seq rfl ?_
          refine G.draw (fun b => b = Array.size h2 ∨ Array.size h6 ≤ b) (fun i => Nat.blt i 7) (sz := 8) (listed := #[false, false, false, false, false, false, false, false]) Tryd.func8 H.mixed rfl rfl rfl ?_
          refine RD.takeS 0 (listed' := #[true, false, false, false, false, false, false, false]) rfl (by kernel_rfl) (by kernel_rfl) (by kernel_rfl) rfl rfl rfl (fun h' e => OpP.loadRowN H.ag27 H.sz27 rfl (e.rowAt hMa w8.row) (by first | rfl | simp)) rfl ?_
          refine RD.takeS 1 (listed' := #[true, true, false, false, false, false, false, false]) rfl (by kernel_rfl) (by kernel_rfl) (by kernel_rfl) rfl rfl rfl (fun h' e => OpP.loadRowN H.ag23 H.sz23 rfl (e.rowAt hMb r7.row) (by first | rfl | simp)) rfl ?_
          refine RD.takeS 2 (listed' := #[true, true, true, false, false, false, false, false]) rfl (by kernel_rfl) (by kernel_rfl) (by kernel_rfl) rfl rfl rfl (fun h' e => OpP.move rfl) rfl ?_
          refine RD.takeS 4 (listed' := #[true, true, true, false, true, false, false, false]) rfl (by kernel_rfl) (by kernel_rfl) (by kernel_rfl) rfl rfl rfl (fun h' e => OpP.move rfl) rfl ?_
          refine RD.oneS 3 (listed' := #[true, true, true, true, true, false, false, false]) rfl (by kernel_rfl) rfl rfl rfl (OpX.call (vs := [_, _]) Tryd.func17 rfl H.nm17 rfl (CallsH.toX (after_calls (hg.ext0 e06) st rl hst))) rfl ?_
          rintro _ h8 ⟨rfl, e8⟩
          refine ⟨fun _ => e8.mono (fun _ _ k => k.elim), ?_⟩
          have w8' := w8.ext0 e8
          refine RD.one0 5 (listed' := #[true, true, true, true, true, true, false, false]) rfl (by kernel_rfl) rfl rfl (OpX.storeBlk H.sz27 rfl rfl w8' (by first | rfl | simp) (by first | decide | exact of_decide_eq_true rfl | (simp; done) | (simp; omega)) (tk_one _)) rfl ?_
          rintro _ h9 ⟨rfl, w9', x9, z9⟩
          refine ⟨fun _ => (same_ext w8' w9' x9).mono (fun _ _ k => k.elim), ?_⟩
          have w9' : Blk h9 h1.size 27 (encTk (kd, (i : Int), ((i + L : Nat) : Int))) := w9'
          have e9 := same_ext w8' w9' x9
          have p9' := (r9.ext0 e8).ext0 e9
          refine RD.one0 6 (listed' := #[true, true, true, true, true, true, true, false]) rfl (by kernel_rfl) rfl rfl (OpX.storeBlk H.sz23 rfl rfl p9' (by first | rfl | simp) (by first | decide | exact of_decide_eq_true rfl | (simp; done) | (simp; omega)) (lst_one _)) rfl ?_
          rintro _ h10 ⟨rfl, w10, x10, z10⟩
          refine ⟨fun _ => x10.mono (fun _ _ k => .inl k), ?_⟩
          have w10 : Blk h10 h2.size 23 (encLSt (afterP st rl)) := w10
          have w11 := w9'.ext x10 (show ¬ h1.size = h2.size by omega)
          refine RD.takeS 7 (listed' := #[true, true, true, true, true, true, true, true]) rfl (by kernel_rfl) (by kernel_rfl) (by kernel_rfl) rfl rfl rfl (fun h' e => OpP.assign rfl) rfl ?_
          refine RD.done (by kernel_rfl) ?_
          refine xu [0, 1, 2, 3, 7, 8, 9, 10, 11, 12, 27, 41, 76] rfl ?_
          refine G.retC Tryd.func8 rfl (.cons (ResOk.rowN H.ag27 H.sz27 rfl (w11.row) (by first | rfl | simp)) (.cons (ResOk.rowN H.ag23 H.sz23 rfl (w10.row) (by first | rfl | simp)) (.cons (ResOk.tmp rfl) (.nil)))) ?_
          have y10 := x10.size
          exact ⟨_, rfl, by rw [if_neg hw]; rfl, Ext0.only ((e06.trans e8).trans e9) x10 (by omega)⟩
theorem one_out {h : Heap} {p : Value} {b : Bool} (hn : ∀ g, Ext0 h g → CallsH Tryd.prog 12 #[p] g (Ret fun r h' => r = .bool b ∧ h' = g)) (s : By) (i : Int) (hs : s.length ≤ 1000000) (st : LSt) (hb : b = true ∨ i < 0 ∨ (s.length : Int) ≤ i) :
    CallsH Tryd.prog 8 #[p, .string (bs s), .int .i64 i, .agg (encLSt st).toArray] h (Ret fun r h' => r = .tuple #[.agg (encTk (0, 0, 0)).toArray, .agg (encLSt st).toArray, .int .i64 0] ∧ Ext0 h h') := by
  have hbs := bs_size s
  refine CallsH.of Tryd.func8 rfl rfl ?_
  refine xr Tryd.func8 rfl ?_
  refine xo rfl (OpX.boxN rfl) ?_
  rintro _ h1 ⟨rfl, k7, e1, z1⟩
  refine xo rfl (OpX.allocN H.zr27) ?_
  rintro _ h2 ⟨rfl, k8, e2, z2⟩
  refine xo rfl (OpX.allocN H.zr23) ?_
  rintro _ h3 ⟨rfl, k9, e3, z3⟩
  have k7 : Blk h1 h.size 23 (encLSt st) := k7
  have k8 : Blk h2 h1.size 27 (encTk (0, 0, 0)) := k8
  have k9 : Blk h3 h2.size 23 (encLSt (0, 0)) := k9
  have e03 := (e1.trans e2).trans e3
  have q7 := (k7.ext0 e2).ext0 e3
  have q8 := k8.ext0 e3
  have y1 := e1.size
  have y2 := e2.size
  refine xq rfl ?_
  refine xd [0, 1, 2, 3, 7, 8, 9, 10] rfl ?_
  refine G.seq rfl ?_
  refine G.seq rfl ?_
  refine G.regTo1 [(27, .bool true)] [(0, _), (1, _), (2, _), (3, _), (7, _), (8, _), (9, _), (10, _)] ⟨rfl, rfl, rfl, rfl, rfl, rfl, rfl, rfl, trivial⟩ Tryd.func8 rfl ?_ ?_
  · refine xq rfl ?_
    refine xo rfl (OpX.call (vs := [_]) Tryd.func12 rfl H.nm12 rfl (CallsH.toX (hn _ e03))) ?_
    rintro _ h4 ⟨rfl, hh4⟩
    subst hh4
    refine xq rfl ?_
    refine RW.split (d := 18) rfl (fun c1 => ?_) (fun c1 => ?_)
    · iterate 2 refine xk rfl ?_
      iterate 2 refine xq rfl ?_
      iterate 4 refine xk rfl ?_
      refine xq rfl ?_
      refine RW.done rfl ?_
      exact ⟨rfl, at_bool rfl (rfl), rfl, rfl, rfl, rfl, rfl, rfl, rfl, rfl, trivial⟩
    · iterate 4 refine xq rfl ?_
      refine RW.split (d := 22) rfl (fun c2 => ?_) (fun c2 => ?_)
      · iterate 4 refine xk rfl ?_
        refine xq rfl ?_
        refine RW.done rfl ?_
        exact ⟨rfl, at_bool rfl (rfl), rfl, rfl, rfl, rfl, rfl, rfl, rfl, rfl, trivial⟩
      · have c2' := of_decide_eq_false c2
        iterate 2 refine xq rfl ?_
        refine xp rfl (OpP.lenString Tryd.underlying9 rfl) ?_
        iterate 2 refine xq rfl ?_
        refine RW.done rfl ?_
        exact ⟨rfl, at_bool rfl (by rw [decide_eq_true_iff]; rcases hb with k | k | k; rw [c1] at k; cases k; exact absurd k c2'; omega), rfl, rfl, rfl, rfl, rfl, rfl, rfl, rfl, trivial⟩
  · refine G.cond rfl rfl (fun _ => ?_) (fun hc => absurd hc (by decide))
    have hM : ¬ (h.size = h1.size ∨ Array.size h3 ≤ h.size) := by have := e03.size; omega
    refine G.seq rfl ?_
    refine G.draw (fun b => b = Array.size h1 ∨ Array.size h3 ≤ b) (fun i => Nat.blt i 3) (sz := 5) (listed := #[false, false, false, false, false]) Tryd.func8 H.mixed rfl rfl rfl ?_
    refine RD.takeS 0 (listed' := #[true, false, false, false, false]) rfl (by kernel_rfl) (by kernel_rfl) (by kernel_rfl) rfl rfl rfl (fun h' e => OpP.build (H.bd27_ ) rfl) rfl ?_
    refine RD.takeS 1 (listed' := #[true, true, false, false, false]) rfl (by kernel_rfl) (by kernel_rfl) (by kernel_rfl) rfl rfl rfl (fun h' e => OpP.loadRowN H.ag23 H.sz23 rfl (e.rowAt hM q7.row) (by first | rfl | simp)) rfl ?_
    refine RD.one0 2 (listed' := #[true, true, true, false, false]) rfl (by kernel_rfl) rfl rfl (OpX.storeBlk H.sz27 rfl rfl q8 (by first | rfl | simp) (by first | decide | exact of_decide_eq_true rfl | (simp; done) | (simp; omega)) (by first | decide | simp [Value.oneCell'])) rfl ?_
    rintro _ h4 ⟨rfl, w8, x4, zz4⟩
    refine ⟨fun _ => x4.mono (fun _ _ k => .inl k), ?_⟩
    have w8 : Blk h4 h1.size 27 (encTk (0, 0, 0)) := w8
    refine RD.one0 3 (listed' := #[true, true, true, true, false]) rfl (by kernel_rfl) rfl rfl (OpX.storeBlk H.sz23 rfl rfl (k9.ext x4 (show ¬ h2.size = h1.size by omega)) (by first | rfl | simp) (by first | decide | exact of_decide_eq_true rfl | (simp; done) | (simp; omega)) (lst_one st)) rfl ?_
    rintro _ h5 ⟨rfl, w9, x5, z5⟩
    refine ⟨fun hk => (nomatch hk), ?_⟩
    refine RD.takeS 4 (listed' := #[true, true, true, true, true]) rfl (by kernel_rfl) (by kernel_rfl) (by kernel_rfl) rfl rfl rfl (fun h' e => OpP.assign rfl) rfl ?_
    refine RD.done (by kernel_rfl) ?_
    refine xu [0, 1, 2, 3, 7, 8, 9, 10, 27] rfl ?_
    have w9 : Blk h5 h2.size 23 (encLSt st) := w9
    have w8 := w8.ext x5 (show ¬ h1.size = h2.size by omega)
    refine G.retC Tryd.func8 rfl (.cons (ResOk.rowN H.ag27 H.sz27 rfl (w8.row) (by first | rfl | simp)) (.cons (ResOk.rowN H.ag23 H.sz23 rfl (w9.row) (by first | rfl | simp)) (.cons (ResOk.tmp rfl) (.nil)))) ?_
    exact ⟨_, rfl, rfl, Ext0.only (Ext0.only e03 x4 (by omega)) x5 (by omega)⟩
def eTk : Elt Tk := .record 3 (by decide) encTk (fun _ => rfl) tk_one
theorem allG_nil (n a : Nat) (st : LSt) : allG n [] a st = ([], st) := by cases n <;> simp [allG]
theorem allG_step {n : Nat} {l : By} (hl : l ≠ []) (hn : l.length ≤ n) (a : Nat) (st : LSt) :
    allG n l a st = ((kndP l st.1, (a : Int), ((a + lenP l st.1 : Nat) : Int)) :: (allG n (l.drop (lenP l st.1)) (a + lenP l st.1) (nxtP l st)).1, (allG n (l.drop (lenP l st.1)) (a + lenP l st.1) (nxtP l st)).2) := by
  have hp := List.length_pos_iff.2 hl
  have hk := lenP_len hl st.1
  obtain ⟨m, rfl⟩ : ∃ m, n = m + 1 := ⟨n - 1, by omega⟩
  rw [allG_more (m + 1) (m + 1) (l.drop (lenP l st.1)) _ _ (by rw [List.length_drop]; omega) (by rw [List.length_drop]; omega), ← allG_more m (m + 1) (l.drop (lenP l st.1)) (a + lenP l st.1) (nxtP l st) (by rw [List.length_drop]; omega) (by rw [List.length_drop]; omega)]
  rw [allG, if_neg hl]
theorem lall_calls {h : Heap} {p : Value} (hg : LxG h) (k : LexAt h p) (s : By) (hs : s.length ≤ 1000000) :
    CallsH Tryd.prog 9 #[p, .string (bs s)] h (Ret fun r h' => (∃ v, r = .tuple #[v, .agg (encLSt (allP s).2).toArray] ∧ SlR eTk h' (fun _ => False) v (allP s).1) ∧ Ext0 h h') := by
  have hbs := bs_size s
  generalize hres : allP s = res
  refine CallsH.of Tryd.func9 rfl rfl ?_
  refine xr Tryd.func9 rfl ?_
  refine xq rfl ?_
  refine xo rfl (OpX.allocN H.zr23) ?_
  rintro _ h1 ⟨rfl, k5, e1, z1⟩
  have k5 : Blk h1 h.size 23 (encLSt (0, 0)) := k5
  have y1 := e1.size
  refine xd [0, 1, 4, 5] rfl ?_
  refine G.scope rfl ?_
  refine xr Tryd.func9 rfl ?_
  refine xq rfl ?_
  refine xd [0, 1, 4, 5, 6] rfl ?_
  refine G.seq rfl ?_
  refine G.label rfl ?_
  refine G.seq rfl ?_
  refine G.block rfl rfl ?_
  refine G.loop (σ := Nat × LSt × Value × List Tk) (fun q => [(0, p), (1, .string (bs s)), (4, q.2.2.1), (5, .pointer (some ⟨h.size, 0, none⟩)), (6, .int .i64 (q.1 : Nat))]) (fun q h' => (q.1 ≤ s.length ∧ q.2.2.2.length ≤ q.1 ∧ I64 q.2.1.2) ∧ Ext0 h h' ∧ h1.size ≤ h'.size ∧ Blk h' h.size 23 (encLSt q.2.1) ∧ OwR 3 encTk h' h1.size 27 q.2.2.1 q.2.2.2 ∧ (q.2.2.2 ++ (allG s.length (s.drop q.1) q.1 q.2.1).1, (allG s.length (s.drop q.1) q.1 q.2.1).2) = res) (fun q => s.length + 1 - q.1) ((0, (0, 0), .slice none 0 0, [])) rfl ⟨rfl, rfl, rfl, rfl, rfl, trivial⟩ ⟨⟨Nat.zero_le _, by simp, by show I64 0; unfold I64; omega⟩, e1, Nat.le_refl _, k5, OwR.nil _ _ _ _ _, hres⟩ ?_
  rintro ⟨i, st, vt, toks⟩ g ⟨⟨hi, htl, hst⟩, eg, hz, kS, ho, hcon⟩ ih
  try dsimp only
  dsimp only at hi htl hst kS ho hcon
  have hho : OwnH g h1.size 27 3 vt toks.length (toks.flatMap encTk) := ho
  obtain ⟨ta, tc, rfl, _⟩ := hho.open
  have tge : ∀ b, (Value.slice ta toks.length tc).ownBlock = some b → h1.size ≤ b ∧ b < g.size := fun b hb => hho.lt hb
  rcases Nat.lt_or_ge i s.length with hlt | hge
  · have hne : s.drop i ≠ [] := fun e => by have := congrArg List.length e; rw [List.length_drop] at this; simp at this; omega
    have hkl := lenP_len hne st.1
    rw [List.length_drop] at hkl
    rw [allG_step hne (by rw [List.length_drop]; omega)] at hcon
    have hone := one_calls (hg.ext0 eg) (k.ext0 eg) s i hlt hs st hst
    unfold oneV at hone
    have hnI := nxt_I64 hst (s.drop i)
    rw [List.drop_drop] at hcon
    generalize lenP (s.drop i) st.1 = L at *
    generalize kndP (s.drop i) st.1 = kd at *
    generalize nxtP (s.drop i) st = nx at *
    generalize lexS st.1 (s.drop i) = sp at *
    refine G.block rfl rfl ?_
    refine xr Tryd.func9 rfl ?_
    iterate 3 refine xq rfl ?_
    refine xp rfl (OpP.loadRowN H.ag23 H.sz23 rfl kS.row (by first | rfl | simp)) ?_
    refine xo rfl (OpX.call (vs := [_, _, _, _]) Tryd.func8 rfl H.nm8 rfl (CallsH.toX (hone))) ?_
    rintro _ g1 ⟨rfl, f1⟩
    iterate 4 refine xq rfl ?_
    refine xo rfl (OpX.allocN H.zr27) ?_
    rintro _ g2 ⟨rfl, c7, f2, y2⟩
    refine xo rfl (OpX.allocN H.zr23) ?_
    rintro _ g3 ⟨rfl, c8, f3, y3⟩
    refine RW.op0 rfl rfl rfl (OpX.storeBlk H.sz27 rfl rfl (c7.ext0 f3) (by first | rfl | simp) (by first | decide | exact of_decide_eq_true rfl | (simp; done) | (simp; omega)) (tk_one _)) ?_
    rintro _ g4 ⟨rfl, d7, x4, y4⟩
    have d7 : Blk g4 g1.size 27 (encTk (kd, (i : Int), ((i + L : Nat) : Int))) := d7
    have yz1 := f1.size
    have yz2 := f2.size
    have yz4 := x4.size
    refine RW.op0 rfl rfl rfl (OpX.storeBlk H.sz23 rfl rfl ((c8.ext x4 (show ¬ g2.size = g1.size by omega))) (by first | rfl | simp) (by first | decide | exact of_decide_eq_true rfl | (simp; done) | (simp; omega)) (lst_one nx)) ?_
    rintro _ g5 ⟨rfl, d8, x5, y5⟩
    have d8 : Blk g5 g2.size 23 (encLSt nx) := d8
    have d7 := d7.ext x5 (show ¬ g1.size = g2.size by omega)
    have yz5 := x5.size
    have eg5 : Ext0 g g5 := Ext0.only (Ext0.only ((f1.trans f2).trans f3) x4 (by omega)) x5 (by omega)
    have hho5 := hho.ext0' eg5
    refine xq rfl ?_
    refine xd [0, 1, 4, 5, 6, 7, 8] rfl ?_
    refine G.seq rfl ?_
    refine G.block rfl rfl ?_
    refine xr Tryd.func9 rfl ?_
    refine xp rfl (OpP.fieldAddr (off := 2) Tryd.underlying27 rfl rfl H.sz3 rfl) ?_
    refine xp rfl (OpP.load H.ag3 rfl (d7.cell (i := 2) rfl)) ?_
    iterate 3 refine xq rfl ?_
    refine xd [0, 1, 4, 5, 6, 7, 8, 19] rfl ?_
    refine G.cond rfl rfl (fun hc => absurd hc (by simp; omega)) (fun _ => ?_)
    refine G.skip rfl ?_
    refine G.blkEnd ?_
    refine xr Tryd.func9 rfl ?_
    refine xq rfl ?_
    refine xp rfl (OpP.loadRowN H.ag27 H.sz27 rfl d7.row (by first | rfl | simp)) ?_
    refine xo rfl (OpX.buildRec (cs := [_, _, _]) Tryd.underlying30 H.el27 rfl rfl (by decide)) ?_
    rintro _ _ ⟨rfl, rfl⟩
    refine xo rfl (OpX.appendNew Tryd.underlying30 H.el27 rfl rfl (hho5) rfl rfl (tk_one _) (by omega) (by decide) (by omega)) ?_
    rintro vt2 g6 ⟨ho6, hx6, hx6', hv6⟩
    have yz6 := hx6.size
    have d7 := d7.ext hx6 (fun k => by have := tge _ k.symm; omega)
    have d8 := d8.ext hx6 (fun k => by have := tge _ k.symm; omega)
    have kS6 := (kS.ext0 eg5).ext hx6 (fun k => by have := tge _ k.symm; omega)
    have e06 : Ext0 h g6 := Ext.own (eg.trans eg5) hho5 (by omega) hx6
    have ho6 : OwR 3 encTk g6 h1.size 27 vt2 (toks ++ [(kd, (i : Int), ((i + L : Nat) : Int))]) := OwR.of ho6 rfl rfl
    have hMa : ¬ (g1.size = h.size ∨ Array.size g6 ≤ g1.size) := by omega
    have hMb : ¬ (g2.size = h.size ∨ Array.size g6 ≤ g2.size) := by omega
    refine xq rfl ?_
    refine xd [0, 1, 4, 5, 6, 7, 8, 19] rfl ?_
    refine G.draw (fun b => b = Array.size h ∨ Array.size g6 ≤ b) (fun i => Nat.blt i 6) (sz := 5) (listed := #[false, false, false, false, false]) Tryd.func9 H.mixed rfl rfl rfl ?_
    refine RD.takeS 0 (listed' := #[true, false, false, false, false]) rfl (by kernel_rfl) (by kernel_rfl) (by kernel_rfl) rfl rfl rfl (fun h' e => OpP.fieldAddr (off := 2) Tryd.underlying27 rfl rfl H.sz3 rfl) rfl ?_
    refine RD.takeS 1 (listed' := #[true, true, false, false, false]) rfl (by kernel_rfl) (by kernel_rfl) (by kernel_rfl) rfl rfl rfl (fun h' e => OpP.load H.ag3 rfl (e.cell hMa (d7.cell (i := 2) rfl))) rfl ?_
    refine RD.takeS 2 (listed' := #[true, true, true, false, false]) rfl (by kernel_rfl) (by kernel_rfl) (by kernel_rfl) rfl rfl rfl (fun h' e => OpP.loadRowN H.ag23 H.sz23 rfl (e.rowAt hMb d8.row) (by first | rfl | simp)) rfl ?_
    refine RD.takeS 3 (listed' := #[true, true, true, true, false]) rfl (by kernel_rfl) (by kernel_rfl) (by kernel_rfl) rfl rfl rfl (fun h' e => OpP.assign rfl) rfl ?_
    refine RD.one0 4 (listed' := #[true, true, true, true, true]) rfl (by kernel_rfl) rfl rfl (OpX.storeBlk H.sz23 rfl rfl kS6 (by first | rfl | simp) (by first | decide | exact of_decide_eq_true rfl | (simp; done) | (simp; omega)) (lst_one nx)) rfl ?_
    rintro _ g7 ⟨rfl, kS7, x7, y7⟩
    refine ⟨fun _ => x7.mono (fun _ _ k => .inl k), ?_⟩
    have kS7 : Blk g7 h.size 23 (encLSt nx) := kS7
    have ho7 : OwR 3 encTk g7 h1.size 27 vt2 (toks ++ [(kd, (i : Int), ((i + L : Nat) : Int))]) := OwnH.ext x7 ho6 (fun b hb (k : b = h.size) => by have := (OwnH.lt ho6 hb).1; omega)
    refine RD.done (by kernel_rfl) ?_
    refine xu [0, 1, 4, 5, 6, 7, 8, 19] rfl ?_
    refine G.blkEnd ?_
    exact ih (i + L, nx, vt2, toks ++ [(kd, (i : Int), ((i + L : Nat) : Int))]) _ _ ⟨rfl, rfl, rfl, rfl, rfl, trivial⟩ ⟨⟨by show i + L ≤ s.length; omega, by simp; omega, hnI⟩, Ext0.only e06 x7 (by omega), by have := x7.size; show h1.size ≤ g7.size; omega, kS7, ho7, by simpa using hcon⟩ (by show s.length + 1 - (i + L) < s.length + 1 - i; omega)
  · obtain rfl : i = s.length := by omega
    have hone := one_out (h := g) (p := p) (b := false) (fun g' eg' => lnone_at (k.ext0 (eg.trans eg'))) s (s.length : Nat) hs st (.inr (.inr (by omega)))
    rw [List.drop_length, allG_nil] at hcon
    refine G.block rfl rfl ?_
    refine xr Tryd.func9 rfl ?_
    iterate 3 refine xq rfl ?_
    refine xp rfl (OpP.loadRowN H.ag23 H.sz23 rfl kS.row (by first | rfl | simp)) ?_
    refine xo rfl (OpX.call (vs := [_, _, _, _]) Tryd.func8 rfl H.nm8 rfl (CallsH.toX (hone))) ?_
    rintro _ g1 ⟨rfl, f1⟩
    iterate 4 refine xq rfl ?_
    refine xo rfl (OpX.allocN H.zr27) ?_
    rintro _ g2 ⟨rfl, c7, f2, y2⟩
    refine xo rfl (OpX.allocN H.zr23) ?_
    rintro _ g3 ⟨rfl, c8, f3, y3⟩
    refine RW.op0 rfl rfl rfl (OpX.storeBlk H.sz27 rfl rfl (c7.ext0 f3) (by first | rfl | simp) (by first | decide | exact of_decide_eq_true rfl | (simp; done) | (simp; omega)) (tk_one _)) ?_
    rintro _ g4 ⟨rfl, d7, x4, y4⟩
    have d7 : Blk g4 g1.size 27 (encTk (0, 0, 0)) := d7
    have yz1 := f1.size
    have yz2 := f2.size
    have yz4 := x4.size
    refine RW.op0 rfl rfl rfl (OpX.storeBlk H.sz23 rfl rfl ((c8.ext x4 (show ¬ g2.size = g1.size by omega))) (by first | rfl | simp) (by first | decide | exact of_decide_eq_true rfl | (simp; done) | (simp; omega)) (lst_one st)) ?_
    rintro _ g5 ⟨rfl, d8, x5, y5⟩
    have d7 := d7.ext x5 (show ¬ g1.size = g2.size by omega)
    have yz5 := x5.size
    have eg5 : Ext0 g g5 := Ext0.only (Ext0.only ((f1.trans f2).trans f3) x4 (by omega)) x5 (by omega)
    have hho5 := ho.ext0 eg5
    have kS5 := kS.ext0 eg5
    refine xq rfl ?_
    refine xd [0, 1, 4, 5, 6, 7, 8] rfl ?_
    refine G.seq rfl ?_
    refine G.block rfl rfl ?_
    refine xr Tryd.func9 rfl ?_
    refine xp rfl (OpP.fieldAddr (off := 2) Tryd.underlying27 rfl rfl H.sz3 rfl) ?_
    refine xp rfl (OpP.load H.ag3 rfl (d7.cell (i := 2) rfl)) ?_
    iterate 3 refine xq rfl ?_
    refine xd [0, 1, 4, 5, 6, 7, 8, 19] rfl ?_
    refine G.cond rfl rfl (fun _ => ?_) (fun hc => absurd hc (by simp))
    have hMa : ¬ (h.size = h.size ∧ Array.size g5 ≤ h.size) := by omega
    refine G.exit rfl rfl ?_
    refine G.seq rfl ?_
    refine G.draw (fun b => Array.size g5 ≤ b) (fun i => Nat.blt i 5) (sz := 4) (listed := #[false, false, false, false]) Tryd.func9 H.mixed rfl rfl rfl ?_
    refine RD.takeS 0 (listed' := #[true, false, false, false]) rfl (by kernel_rfl) (by kernel_rfl) (by kernel_rfl) rfl rfl rfl (fun h' e => OpP.move rfl) rfl ?_
    refine RD.takeS 1 (listed' := #[true, true, false, false]) rfl (by kernel_rfl) (by kernel_rfl) (by kernel_rfl) rfl rfl rfl (fun h' e => OpP.loadRowN H.ag23 H.sz23 rfl (e.rowAt (by omega) kS5.row) (by first | rfl | simp)) rfl ?_
    refine RD.takeS 2 (listed' := #[true, true, true, false]) rfl (by kernel_rfl) (by kernel_rfl) (by kernel_rfl) rfl rfl rfl (fun h' e => OpP.assign rfl) rfl ?_
    refine RD.one0 3 (listed' := #[true, true, true, true]) rfl (by kernel_rfl) rfl rfl (OpX.storeBlk H.sz23 rfl rfl kS5 (by first | rfl | simp) (by first | decide | exact of_decide_eq_true rfl | (simp; done) | (simp; omega)) (lst_one st)) rfl ?_
    rintro _ g7 ⟨rfl, kS7, x7, y7⟩
    refine ⟨fun _ => (same_ext kS5 kS7 x7).mono (fun _ _ k => k.elim), ?_⟩
    have kS7 : Blk g7 h.size 23 (encLSt st) := kS7
    have e7 := same_ext kS5 kS7 x7
    refine RD.done (by kernel_rfl) ?_
    refine xu [0, 1, 4, 5, 6, 7, 8, 19] rfl ?_
    refine G.retC Tryd.func9 rfl (.cons (ResOk.tmp rfl) (.cons (ResOk.rowN H.ag23 H.sz23 rfl (kS7.row) (by first | rfl | simp)) (.nil))) ?_
    rw [← hcon]
    exact ⟨_, rfl, ⟨_, rfl, by show SlR eTk g7 _ _ (toks ++ []); rw [List.append_nil]; exact OwR.read (hho5.ext0 e7) (fun b hb k => k)⟩, (eg.trans eg5).trans e7⟩
theorem fieldsS : Tryd.prog.underlying 23 = some (.struct (Tryd.prog.fieldsOf 23)) := by kernel_rfl
theorem stoodS : Tryd.prog.stoodInHeld 23 = false := by kernel_rfl
theorem guardS : Tryd.prog.eqGuardType Tryd.prog.depth 23 = false := by kernel_rfl
theorem stEqG {t : TypeId} (hf : ∃ f0 f1 : Field, (Tryd.prog.fieldsOf t).toList = [f0, f1] ∧ (f0.name ≠ "_" ∧ f0.type = 3 ∧ f0.offset = 0) ∧ (f1.name ≠ "_" ∧ f1.type = 3 ∧ f1.offset = 1))
    (hi : isRowT Tryd.prog 3 = some false) (x y : LSt) (w : World) : (Op.eqFields 9999 (encLSt x).toArray (encLSt y).toArray (Tryd.prog.fieldsOf t).toList).run Tryd.prog w = .ok (decide (x = y)) w := by
  obtain ⟨f0, f1, e, ⟨n0, t0, o0⟩, ⟨n1, t1, o1⟩⟩ := hf
  rw [e]
  have h1 := eqFields_one (P := Tryd.prog) (d := 9999) (xs := (encLSt x).toArray) (ys := (encLSt y).toArray) (fs := []) (w := w) n1 (by rw [t1]; exact hi) (u := .int .i64 x.2) (v := .int .i64 y.2) (by rw [o1]; rfl) (by rw [o1]; rfl) (by rw [t1]; exact run_equalIn_int w 9998 _ _ _ _ _ Tryd.underlying3) rfl
  have h0 := eqFields_one n0 (by rw [t0]; exact hi) (u := .int .i64 x.1) (v := .int .i64 y.1) (by rw [o0]; rfl) (by rw [o0]; rfl) (by rw [t0]; exact run_equalIn_int w 9998 _ _ _ _ _ Tryd.underlying3) h1
  rw [h0]
  congr 1
  obtain ⟨a, b⟩ := x
  obtain ⟨a', b'⟩ := y
  simp only [Prod.mk.injEq, beq_dec, Bool.and_true]
  rw [Bool.eq_iff_iff]
  simp
theorem stEq (x y : LSt) (w : World) : (Op.eqFields 9999 (encLSt x).toArray (encLSt y).toArray (Tryd.prog.fieldsOf 23).toList).run Tryd.prog w = .ok (decide (x = y)) w :=
  stEqG ⟨_, _, rfl, ⟨by decide, rfl, rfl⟩, ⟨by decide, rfl, rfl⟩⟩ (by kernel_rfl) x y w
def flat2 (l : List Tk) : List Int := l.flatMap fun t => [t.1, t.2.2]
theorem flat2_len : ∀ l : List Tk, (flat2 l).length = 2 * l.length
  | [] => rfl
  | t :: l => by have := flat2_len l; simp only [flat2, List.flatMap_cons, List.length_append, List.length_cons, List.length_nil] at *; omega
theorem flat2_at : ∀ (l : List Tk) (i : Nat) (t : Tk), l[i]? = some t → (flat2 l)[2 * i]? = some t.1 ∧ (flat2 l)[2 * i + 1]? = some t.2.2
  | [], i, t, h => by simp at h
  | x :: l, 0, t, h => by simp at h; subst h; exact ⟨rfl, rfl⟩
  | x :: l, i + 1, t, h => by
    have := flat2_at l i t (by simpa using h)
    refine ⟨?_, ?_⟩
    · rw [show 2 * (i + 1) = 2 * i + 1 + 1 by omega]; exact this.1
    · rw [show 2 * (i + 1) + 1 = 2 * i + 1 + 1 + 1 by omega]; exact this.2
theorem allG_len : ∀ (n : Nat) (l : By) (a : Nat) (st : LSt), (allG n l a st).1.length ≤ l.length
  | 0, l, a, st => by rw [allG]; exact Nat.zero_le _
  | n + 1, l, a, st => by
    rw [allG]
    by_cases hl : l = []
    · rw [if_pos hl]; exact Nat.zero_le _
    · have h1 := lenP_len hl st.1
      have h2 := allG_len n (l.drop (lenP l st.1)) (a + lenP l st.1) (nxtP l st)
      rw [List.length_drop] at h2
      rw [if_neg hl]
      simp only [List.length_cons]
      omega
theorem ints_made (h : Heap) (xs : List Int) (t : TypeId) (n : Nat) (hn : xs.length = n) (hm : n ≤ maxLen) : SlR (.int .i64) (h.push (.cells (xs.map (Value.int .i64)).toArray t)) (fun _ => False) (.slice (some ⟨h.size, 0, none⟩) n n) xs :=
  OwE.read (h1 := fun _ => rfl) (OwE.made (Value.int .i64) h t xs n hn hm 0 (Nat.zero_le _) rfl) (fun _ _ k => k)
theorem is_calls {h : Heap} (hg : LxG h) (s : By) (hs : s.length ≤ 1000000) (a b : Int) {O : Nat → Prop} {v : Value} {xs : List Int} (hv : SlR (.int .i64) h O v xs) :
    CallsH Tryd.prog 11 #[.string (bs s), .int .i64 a, .int .i64 b, v] h (Ret fun r h' => r = .bool (decide (flat2 (allP s).1 = xs ∧ (allP s).2 = (a, b))) ∧ Ext0 h h') := by
  refine CallsH.of Tryd.func11 rfl rfl ?_
  obtain ⟨lim, hl1, hl2⟩ := hg.sg
  refine xr Tryd.func11 rfl ?_
  refine xq rfl ?_
  refine xd [0, 1, 2, 3, 8] rfl ?_
  refine xr Tryd.func11 rfl ?_
  refine xo rfl (OpX.call (vs := []) Tryd.func10 rfl H.nm10 rfl (CallsH.toX (new_calls hl2 hl1 hg.tens hg.rules))) ?_
  rintro p h1 ⟨hp, e1⟩
  refine xq rfl ?_
  refine xo rfl (OpX.call (vs := [_, _]) Tryd.func9 rfl H.nm9 rfl (CallsH.toX (lall_calls (hg.ext0 e1) hp s hs))) ?_
  rintro _ h2 ⟨⟨tv, rfl, htv⟩, e2⟩
  iterate 3 refine xq rfl ?_
  refine xo rfl (OpX.allocN H.zr23) ?_
  rintro _ h3 ⟨rfl, k3, e3, z3⟩
  refine xq rfl ?_
  refine RW.op0 rfl rfl rfl (OpX.storeBlk H.sz23 rfl rfl k3 (by first | rfl | simp) (by first | decide | exact of_decide_eq_true rfl | (simp; done) | (simp; omega)) (lst_one _)) ?_
  rintro _ h4 ⟨rfl, k4, x4, z4⟩
  have hfl := flat2_len (allP s).1
  have hal : (allP s).1.length ≤ s.length := allG_len _ _ _ _
  generalize (allP s).2 = st at *
  have e24 : Ext0 h2 h4 := by have := Ext0.only (h0 := h2) e3 x4 (by omega); exact this
  have e04 : Ext0 h h4 := (e1.trans e2).trans e24
  have k4 : Blk h4 h2.size 23 (encLSt st) := k4
  have htv := htv.ext0 e24
  have hv4 := hv.ext0 e04
  generalize (allP s).1 = toks at *
  obtain ⟨ta, tn, tc, rfl, hts⟩ := htv.open
  obtain ⟨xa, xn, xc, rfl, hxs⟩ := hv4.open
  have htl : toks.length = tn := hts.len
  have hxl : xs.length = xn := hxs.len
  refine xd [0, 1, 2, 3, 8, 9, 10] rfl ?_
  refine G.seq rfl ?_
  refine G.seq rfl ?_
  refine G.regTo1 [(30, .bool (decide (¬ (flat2 toks).length = xs.length) || decide (¬ st = (a, b))))] [(0, _), (1, _), (2, _), (3, _), (8, _), (9, _), (10, _)] ⟨rfl, rfl, rfl, rfl, rfl, rfl, rfl, trivial⟩ Tryd.func11 rfl ?_ ?_
  · refine xq rfl ?_
    refine xp rfl (OpP.lenSlice Tryd.underlying30 rfl) ?_
    refine xp rfl (OpP.mul64 rfl rfl ⟨by omega, by omega⟩) ?_
    refine xq rfl ?_
    refine xp rfl (OpP.lenSlice Tryd.underlying59 rfl) ?_
    iterate 2 refine xq rfl ?_
    refine RW.split (d := 24) rfl (fun hz => ?_) (fun hz => ?_)
    · iterate 5 refine xk rfl ?_
      refine xq rfl ?_
      refine RW.done rfl ?_
      exact ⟨rfl, at_bool rfl (by have := of_decide_eq_true hz; rw [decide_eq_true (by rw [hfl]; omega)]; rfl), rfl, rfl, rfl, rfl, rfl, rfl, rfl, trivial⟩
    · have hz' := of_decide_eq_false hz
      refine xp rfl (OpP.loadRowN H.ag23 H.sz23 rfl k4.row (by first | rfl | simp)) ?_
      iterate 2 refine xq rfl ?_
      refine xp rfl (OpP.build (H.bd23_0_1 _ _) rfl) ?_
      refine xp rfl (OpP.neqAgg fieldsS stoodS guardS rfl rfl (stEq _ (a, b))) ?_
      refine xq rfl ?_
      have q0 : decide (¬ (flat2 toks).length = xs.length) = false := decide_eq_false (by rw [hfl]; omega)
      refine RW.done rfl ?_
      exact ⟨rfl, at_bool rfl (by rw [q0]; simp), rfl, rfl, rfl, rfl, rfl, rfl, rfl, trivial⟩
  · refine G.cond rfl rfl (fun hb => ?_) (fun hb => ?_)
    · refine xr Tryd.func11 rfl ?_
      refine xq rfl ?_
      refine xd [0, 1, 2, 3, 8, 9, 10, 30] rfl ?_
      refine G.ret Tryd.func11 rfl rfl ?_
      have q : decide (flat2 toks = xs ∧ st = (a, b)) = false := decide_eq_false (by rintro ⟨q1, q2⟩; rw [q1, q2] at hb; simp at hb)
      rw [q]
      exact ⟨_, rfl, rfl, e04⟩
    · have hb' : (flat2 toks).length = xs.length ∧ st = (a, b) := by simpa using hb
      refine G.skip rfl ?_
      refine G.seq rfl ?_
      refine xr Tryd.func11 rfl ?_
      refine xq rfl ?_
      refine xd [0, 1, 2, 3, 8, 9, 10, 11, 30] rfl ?_
      refine G.block rfl rfl ?_
      refine G.loop (σ := Nat) (fun i => [(3, .slice xa xn xc), (9, .slice ta tn tc), (11, .int .i64 (i : Nat))]) (fun i h' => h' = h4 ∧ i ≤ tn ∧ ∀ j, j < 2 * i → (flat2 toks)[j]? = xs[j]?) (fun i => tn - i) (0) rfl ⟨rfl, rfl, rfl, trivial⟩ ⟨rfl, Nat.zero_le _, fun j hj => by omega⟩ ?_
      rintro i g ⟨rfl, hi, hin⟩ ih
      refine G.seq rfl ?_
      refine xr Tryd.func11 rfl ?_
      iterate 2 refine xq rfl ?_
      refine xp rfl (OpP.lenSlice Tryd.underlying30 rfl) ?_
      refine xq rfl ?_
      refine xd [3, 9, 11, 34] rfl ?_
      refine G.ite rfl rfl (fun hlt => ?_) (fun hlt => ?_)
      · have hlt' : i < tn := by omega
        obtain ⟨bb, o, t, ha, _, ht, hrow⟩ := hts.recd hlt'
        obtain ⟨b0, o0, x0, ha0, _, hx0, hc0⟩ := hxs.at (i := 2 * i) (by omega)
        obtain ⟨b1, o1, x1, ha1, _, hx1, hc1⟩ := hxs.at (i := 2 * i + 1) (by omega)
        have hf := flat2_at toks i t ht
        have hn0 : ∀ q : Int, x0 ≠ t.1 ∨ x1 ≠ t.2.2 → ¬ (flat2 toks = xs ∧ st = (a, b)) := by
          rintro q k ⟨q1, q2⟩
          rw [q1] at hf
          rw [hx0, hx1] at hf
          have h1 := Option.some.inj hf.1
          have h2 := Option.some.inj hf.2
          exact k.elim (fun k => k h1) (fun k => k h2)
        refine G.skip rfl ?_
        refine G.seq rfl ?_
        refine G.block rfl rfl ?_
        refine G.seq rfl ?_
        refine G.drawQTo1 [(61, .bool (decide (¬ t.1 = x0) || decide (¬ t.2.2 = x1)))] [(3, _), (9, _), (11, _), (34, _)] ⟨rfl, rfl, rfl, rfl, trivial⟩ Tryd.func11 H.mixed rfl (by kernel_rfl) ?_ ?_
        · refine RQ.pureS rfl rfl rfl rfl (OpP.move rfl) ?_
          refine RQ.pureS rfl rfl rfl rfl (OpP.move rfl) ?_
          refine RQ.pureS rfl rfl rfl rfl (OpP.indexSlice Tryd.underlying30 H.sz27 rfl rfl i rfl ha hlt') ?_
          refine RQ.pureS rfl rfl rfl rfl (OpP.fieldAddr (off := 0) Tryd.underlying27 rfl rfl H.sz3 rfl) ?_
          refine RQ.pureS rfl rfl rfl rfl (OpP.load H.ag3 rfl (hrow 0 _ rfl)) ?_
          refine RQ.pureS rfl rfl rfl rfl (OpP.move rfl) ?_
          refine RQ.pureS rfl rfl rfl rfl (OpP.move rfl) ?_
          refine RQ.pureS rfl rfl rfl rfl (OpP.mul64 rfl rfl ⟨by omega, by omega⟩) ?_
          refine RQ.pureS rfl rfl rfl rfl (OpP.indexSlice Tryd.underlying59 H.sz3 rfl rfl (2 * i) (by simp) ha0 (by omega)) ?_
          refine RQ.pureS rfl rfl rfl rfl (OpP.load H.ag3 rfl hc0) ?_
          refine RQ.pureS rfl rfl rfl rfl (OpP.neqInt rfl rfl) ?_
          refine RQ.pureS rfl rfl rfl rfl (OpP.move rfl) ?_
          refine RQ.split (d := 48) rfl (fun hz => ?_) (fun hz => ?_)
          · refine RQ.skipS rfl rfl rfl rfl ?_
            refine RQ.skipS rfl rfl rfl rfl ?_
            refine RQ.skipS rfl rfl rfl rfl ?_
            refine RQ.skipS rfl rfl rfl rfl ?_
            refine RQ.skipS rfl rfl rfl rfl ?_
            refine RQ.skipS rfl rfl rfl rfl ?_
            refine RQ.skipS rfl rfl rfl rfl ?_
            refine RQ.skipS rfl rfl rfl rfl ?_
            refine RQ.skipS rfl rfl rfl rfl ?_
            refine RQ.skipS rfl rfl rfl rfl ?_
            refine RQ.skipS rfl rfl rfl rfl ?_
            refine RQ.skipS rfl rfl rfl rfl ?_
            refine RQ.pureS rfl rfl rfl rfl (OpP.pickT rfl rfl) ?_
            refine RQ.done rfl ?_
            exact ⟨rfl, at_bool rfl (by have := of_decide_eq_true hz; rw [decide_eq_true this]; rfl), rfl, rfl, rfl, rfl, trivial⟩
          · have hz' := of_decide_eq_false hz
            refine RQ.pureS rfl rfl rfl rfl (OpP.move rfl) ?_
            refine RQ.pureS rfl rfl rfl rfl (OpP.move rfl) ?_
            refine RQ.pureS rfl rfl rfl rfl (OpP.indexSlice Tryd.underlying30 H.sz27 rfl rfl i rfl ha hlt') ?_
            refine RQ.pureS rfl rfl rfl rfl (OpP.fieldAddr (off := 2) Tryd.underlying27 rfl rfl H.sz3 rfl) ?_
            refine RQ.pureS rfl rfl rfl rfl (OpP.load H.ag3 rfl (hrow 2 _ rfl)) ?_
            refine RQ.pureS rfl rfl rfl rfl (OpP.move rfl) ?_
            refine RQ.pureS rfl rfl rfl rfl (OpP.move rfl) ?_
            refine RQ.pureS rfl rfl rfl rfl (OpP.mul64 rfl rfl ⟨by omega, by omega⟩) ?_
            refine RQ.pureS rfl rfl rfl rfl (OpP.add64 rfl rfl ⟨by omega, by omega⟩) ?_
            refine RQ.pureS rfl rfl rfl rfl (OpP.indexSlice Tryd.underlying59 H.sz3 rfl rfl (2 * i + 1) (by simp) ha1 (by omega)) ?_
            refine RQ.pureS rfl rfl rfl rfl (OpP.load H.ag3 rfl hc1) ?_
            refine RQ.pureS rfl rfl rfl rfl (OpP.neqInt rfl rfl) ?_
            refine RQ.pureS rfl rfl rfl rfl (OpP.pickF rfl rfl) ?_
            refine RQ.done rfl ?_
            exact ⟨rfl, at_bool rfl (by have q0 : decide (¬ t.1 = x0) = false := decide_eq_false hz'; rw [q0]; simp), rfl, rfl, rfl, rfl, trivial⟩
        · refine G.cond rfl rfl (fun hk => ?_) (fun hk => ?_)
          · refine xr Tryd.func11 rfl ?_
            refine xq rfl ?_
            refine xd [3, 8, 9, 11, 34, 61] rfl ?_
            refine G.ret Tryd.func11 rfl rfl ?_
            rw [decide_eq_false (hn0 0 (by simp at hk; exact hk.imp (fun k q => k q.symm) (fun k q => k q.symm)))]
            exact ⟨_, rfl, rfl, e04⟩
          · have hk' : t.1 = x0 ∧ t.2.2 = x1 := by simpa using hk
            have hin' : ∀ j, j < 2 * (i + 1) → (flat2 toks)[j]? = xs[j]? := fun j hj => by
              rcases Nat.lt_or_ge j (2 * i) with q | q
              · exact hin j q
              · rcases Nat.lt_or_ge j (2 * i + 1) with q1 | q1
                · obtain rfl : j = 2 * i := by omega
                  rw [hf.1, hx0, hk'.1]
                · obtain rfl : j = 2 * i + 1 := by omega
                  rw [hf.2, hx1, hk'.2]
            refine G.skip rfl ?_
            refine G.blkEnd ?_
            refine G.reg Tryd.func11 rfl ?_
            refine xq rfl ?_
            refine xp rfl (OpP.add64 rfl rfl ⟨by omega, by omega⟩) ?_
            refine xq rfl ?_
            refine xd [3, 9, 11, 34, 61] rfl ?_
            exact ih (i + 1) _ _ ⟨rfl, rfl, rfl, trivial⟩ ⟨rfl, by omega, hin'⟩ (by omega)
      · obtain rfl : i = tn := by omega
        refine G.exit rfl rfl ?_
        refine xr Tryd.func11 rfl ?_
        refine xq rfl ?_
        refine xd [3, 8, 9, 11, 34] rfl ?_
        refine G.ret Tryd.func11 rfl rfl ?_
        have q : decide (flat2 toks = xs ∧ st = (a, b)) = true := by
          rw [decide_eq_true_iff]
          refine ⟨List.ext_getElem? fun j => ?_, hb'.2⟩
          rcases Nat.lt_or_ge j (2 * i) with q | q
          · exact hin j q
          · rw [List.getElem?_eq_none (by omega), List.getElem?_eq_none (by omega)]
        rw [q]
        exact ⟨_, rfl, rfl, e04⟩
theorem ex_all : (flat2 (allP [108, 101, 116, 32, 120, 61, 49, 46, 53, 101]).1 = [4, 3, 1, 4, 3, 5, 6, 6, 5, 9, 3, 10] ∧ (allP [108, 101, 116, 32, 120, 61, 49, 46, 53, 101]).2 = (0, 0)) ∧
    (flat2 (allP [34, 97, 92, 113]).1 = [9, 1, 9, 2, 0, 3, 9, 4] ∧ (allP [34, 97, 92, 113]).2 = (1, 0)) ∧
    (flat2 (allP [47, 42, 97, 47, 42, 98, 42, 47]).1 = [11, 2, 11, 3, 11, 5, 11, 6, 11, 8] ∧ (allP [47, 42, 97, 47, 42, 98, 42, 47]).2 = (2, 1)) ∧
    (flat2 (allP [195, 169]).1 = [0, 2] ∧ (allP [195, 169]).2 = (0, 0)) := by decide +kernel
theorem taken_calls {h : Heap} (hg : LxG h) : CallsH Tryd.prog 7 #[] h (Ret fun r h' => r = .bool true ∧ Ext0 h h') := by
  obtain ⟨x1, x2, x3, x4⟩ := ex_all
  refine CallsH.of Tryd.func7 rfl rfl ?_
  refine xr Tryd.func7 rfl ?_
  refine xq rfl ?_
  refine xd [0] rfl ?_
  refine G.seq rfl ?_
  refine G.regToX (fun (_u : Unit) (h' : Heap) => Ext0 h h') (fun (_u : Unit) => [(0, .bool true)]) [] trivial Tryd.func7 rfl ?_ ?_
  · have m1 := ints_made h [4, 3, 1, 4, 3, 5, 6, 6, 5, 9, 3, 10] 3 12 rfl (by decide)
    have c1 := is_calls (hg.ext0 (Ext.push _ _ _)) [108, 101, 116, 32, 120, 61, 49, 46, 53, 101] (by decide) 0 0 m1
    rw [decide_eq_true x1] at c1
    refine xo rfl (OpX.buildOnes (us := [_, _, _, _, _, _, _, _, _, _, _, _]) Tryd.underlying59 H.el3 rfl rfl (by decide) (by simp [Value.oneCell'])) ?_
    rintro _ _ ⟨rfl, rfl⟩
    refine xo rfl (OpX.call (vs := [_, _, _, _]) Tryd.func11 rfl H.nm11 rfl (CallsH.toX (c1))) ?_
    rintro _ h1 ⟨rfl, e1⟩
    have e01 : Ext0 h h1 := (show Ext0 h _ from Ext.push _ _ _).trans e1
    have m2 := ints_made h1 [9, 1, 9, 2, 0, 3, 9, 4] 3 8 rfl (by decide)
    have c2 := is_calls (hg.ext0 (e01.trans (Ext.push _ _ _))) [34, 97, 92, 113] (by decide) 1 0 m2
    rw [decide_eq_true x2] at c2
    refine xq rfl ?_
    refine RW.know (d := 3) (b' := true) rfl (rfl) ?_
    refine xo rfl (OpX.buildOnes (us := [_, _, _, _, _, _, _, _]) Tryd.underlying59 H.el3 rfl rfl (by decide) (by simp [Value.oneCell'])) ?_
    rintro _ _ ⟨rfl, rfl⟩
    refine xo rfl (OpX.call (vs := [_, _, _, _]) Tryd.func11 rfl H.nm11 rfl (CallsH.toX (c2))) ?_
    rintro _ h2 ⟨rfl, e2⟩
    have e02 : Ext0 h h2 := (e01.trans (Ext.push _ _ _)).trans e2
    have m3 := ints_made h2 [11, 2, 11, 3, 11, 5, 11, 6, 11, 8] 3 10 rfl (by decide)
    have c3 := is_calls (hg.ext0 (e02.trans (Ext.push _ _ _))) [47, 42, 97, 47, 42, 98, 42, 47] (by decide) 2 1 m3
    rw [decide_eq_true x3] at c3
    iterate 2 refine xq rfl ?_
    refine RW.know (d := 7) (b' := true) rfl (rfl) ?_
    refine xo rfl (OpX.buildOnes (us := [_, _, _, _, _, _, _, _, _, _]) Tryd.underlying59 H.el3 rfl rfl (by decide) (by simp [Value.oneCell'])) ?_
    rintro _ _ ⟨rfl, rfl⟩
    refine xo rfl (OpX.call (vs := [_, _, _, _]) Tryd.func11 rfl H.nm11 rfl (CallsH.toX (c3))) ?_
    rintro _ h3 ⟨rfl, e3⟩
    have e03 : Ext0 h h3 := (e02.trans (Ext.push _ _ _)).trans e3
    have m4 := ints_made h3 [0, 2] 3 2 rfl (by decide)
    have c4 := is_calls (hg.ext0 (e03.trans (Ext.push _ _ _))) [195, 169] (by decide) 0 0 m4
    rw [decide_eq_true x4] at c4
    iterate 2 refine xq rfl ?_
    refine RW.know (d := 11) (b' := true) rfl (rfl) ?_
    refine xo rfl (OpX.buildOnes (us := [_, _]) Tryd.underlying59 H.el3 rfl rfl (by decide) (by simp [Value.oneCell'])) ?_
    rintro _ _ ⟨rfl, rfl⟩
    refine xo rfl (OpX.call (vs := [_, _, _, _]) Tryd.func11 rfl H.nm11 rfl (CallsH.toX (c4))) ?_
    rintro _ h4 ⟨rfl, e4⟩
    iterate 2 refine xq rfl ?_
    refine RW.done rfl ?_
    exact ⟨(), (e03.trans (Ext.push _ _ _)).trans e4, rfl, trivial⟩
  · rintro _ h9 e9
    refine G.ret Tryd.func7 rfl rfl ?_
    exact ⟨_, rfl, rfl, e9⟩
theorem rest_step {s : By} {a : Nat} (h : a < s.length) (st : LSt) : allG s.length (s.drop a) a st = ((kndP (s.drop a) st.1, (a : Int), ((a + lenP (s.drop a) st.1 : Nat) : Int)) :: (allG s.length (s.drop (a + lenP (s.drop a) st.1)) (a + lenP (s.drop a) st.1) (nxtP (s.drop a) st)).1, (allG s.length (s.drop (a + lenP (s.drop a) st.1)) (a + lenP (s.drop a) st.1) (nxtP (s.drop a) st)).2) := by
  have hne : s.drop a ≠ [] := fun e => by have := congrArg List.length e; rw [List.length_drop] at this; simp at this; omega
  rw [allG_step hne (by rw [List.length_drop]; omega), List.drop_drop]
theorem lenP_drop {s : By} {a : Nat} (h : a < s.length) (st : LSt) : 1 ≤ lenP (s.drop a) st.1 ∧ a + lenP (s.drop a) st.1 ≤ s.length := by
  have hne : s.drop a ≠ [] := fun e => by have := congrArg List.length e; rw [List.length_drop] at this; simp at this; omega
  have := lenP_len hne st.1
  rw [List.length_drop] at this
  omega
theorem rest_nil {s : By} {a : Nat} (ha : a ≤ s.length) (st : LSt) (h : (allG s.length (s.drop a) a st).1 = []) : a = s.length := by
  rcases Nat.lt_or_ge a s.length with k | k
  · rw [rest_step k] at h; cases h
  · omega
end Go.Proofs.YthiojfjndphkbaaDoor
namespace Go.Lw
section
variable {P : Program} {n : Nat} {ops : Array Oper} {M : Nat → Prop} {keeps : Nat → Bool} {fuel : Nat} {listed : Array Bool} {ρ : Env} {h : Heap} {N : Env → Heap → Prop} {X : List PanicEntry → Heap → Prop}
theorem RD.three (i j k : Nat) {oi oj ok : Oper} {Φ Φ' Φ'' : Value → Heap → Prop} {li lj lk : Array Bool} {di dj dk : Option Nat} (hi' : nth ops.toList i = some oi) (hj' : nth ops.toList j = some oj) (hk' : nth ops.toList k = some ok) (hr : Region.ready .any ops listed = [i, j, k])
    (hwi : wantedE ops ρ oi = some true) (hwj : wantedE ops ρ oj = some true) (hwk : wantedE ops ρ ok = some true) (hodi : oi.dst = di) (hodj : oj.dst = dj) (hodk : ok.dst = dk) (hdi : dstOk n di = true) (hdj : dstOk n dj = true) (hdk : dstOk n dk = true)
    (ki : OpX P oi ρ h Φ X) (kj : OpX P oj ρ h Φ' X) (kk : OpX P ok ρ h Φ'' X)
    (hli : listed.setIfInBounds i true = li) (hlj : listed.setIfInBounds j true = lj) (hlk : listed.setIfInBounds k true = lk)
    (nexti : ∀ v h', Φ v h' → (keeps i = true → Ext M h h') ∧ RD P n ops M keeps fuel li (ρ.put di v) h' N X)
    (nextj : ∀ v h', Φ' v h' → (keeps j = true → Ext M h h') ∧ RD P n ops M keeps fuel lj (ρ.put dj v) h' N X)
    (nextk : ∀ v h', Φ'' v h' → (keeps k = true → Ext M h h') ∧ RD P n ops M keeps fuel lk (ρ.put dk v) h' N X) : RD P n ops M keeps (fuel + 1) listed ρ h N X := by
  subst hli; subst hlj; subst hlk; subst hodi; subst hodj; subst hodk
  have hi := nth_get hi'
  have hj := nth_get hj'
  have hk := nth_get hk'
  intro B a w hf' ha
  refine ⟨fun h0 => (by rw [hr] at h0; cases h0), fun q hq => ?_⟩
  rw [hr] at hq
  have : q = i ∨ q = j ∨ q = k := by simpa using hq
  rcases this with rfl | rfl | rfl
  · unfold wpOp
    simp only [hi]
    rw [wanted_of hf' hwi, if_pos rfl]
    refine .inl (ki n B a w hf' ha _ _ (fun v h' w' ha' hv => ?_) (fun ch h' w' ha' hx => ⟨hf'.nd, h', ha', hx⟩))
    obtain ⟨h1, h2⟩ := nexti v h' hv
    exact ⟨fun hk => by rw [ha.heap, ha'.heap]; exact h1 hk, h2 B _ w' (hf'.put hdi v) ha'⟩
  · unfold wpOp
    simp only [hj]
    rw [wanted_of hf' hwj, if_pos rfl]
    refine .inl (kj n B a w hf' ha _ _ (fun v h' w' ha' hv => ?_) (fun ch h' w' ha' hx => ⟨hf'.nd, h', ha', hx⟩))
    obtain ⟨h1, h2⟩ := nextj v h' hv
    exact ⟨fun hk => by rw [ha.heap, ha'.heap]; exact h1 hk, h2 B _ w' (hf'.put hdj v) ha'⟩
  · unfold wpOp
    simp only [hk]
    rw [wanted_of hf' hwk, if_pos rfl]
    refine .inl (kk n B a w hf' ha _ _ (fun v h' w' ha' hv => ?_) (fun ch h' w' ha' hx => ⟨hf'.nd, h', ha', hx⟩))
    obtain ⟨h1, h2⟩ := nextk v h' hv
    exact ⟨fun hk => by rw [ha.heap, ha'.heap]; exact h1 hk, h2 B _ w' (hf'.put hdk v) ha'⟩
theorem RD.threeS (i j k : Nat) {oi oj ok : Oper} {Φ Φ' Φ'' : Value → Heap → Prop} {li lj lk : Array Bool} {di dj dk : Nat} (hi' : nth ops.toList i = some oi) (hj' : nth ops.toList j = some oj) (hk' : nth ops.toList k = some ok) (hr : Region.ready .any ops listed = [i, j, k])
    (hwi : wantedE ops ρ oi = some true) (hwj : wantedE ops ρ oj = some true) (hwk : wantedE ops ρ ok = some true) (hodi : oi.dst = some di) (hodj : oj.dst = some dj) (hodk : ok.dst = some dk) (hdi : Nat.blt di n = true) (hdj : Nat.blt dj n = true) (hdk : Nat.blt dk n = true)
    (ki : OpX P oi ρ h Φ X) (kj : OpX P oj ρ h Φ' X) (kk : OpX P ok ρ h Φ'' X)
    (hli : listed.setIfInBounds i true = li) (hlj : listed.setIfInBounds j true = lj) (hlk : listed.setIfInBounds k true = lk)
    (nexti : ∀ v h', Φ v h' → (keeps i = true → Ext M h h') ∧ RD P n ops M keeps fuel li ((di, v) :: ρ) h' N X)
    (nextj : ∀ v h', Φ' v h' → (keeps j = true → Ext M h h') ∧ RD P n ops M keeps fuel lj ((dj, v) :: ρ) h' N X)
    (nextk : ∀ v h', Φ'' v h' → (keeps k = true → Ext M h h') ∧ RD P n ops M keeps fuel lk ((dk, v) :: ρ) h' N X) : RD P n ops M keeps (fuel + 1) listed ρ h N X :=
  RD.three i j k hi' hj' hk' hr hwi hwj hwk hodi hodj hodk hdi hdj hdk ki kj kk hli hlj hlk nexti nextj nextk
end
end Go.Lw
namespace Go.Proofs.YthiojfjndphkbaaDoor
open Go Go.Lw
set_option maxRecDepth 20000
def OneP (g : Heap) (t : Tk) (st : LSt) (q : Nat × Nat) (h : Heap) : Prop := Blk h q.1 27 (encTk t) ∧ Blk h q.2 23 (encLSt st) ∧ Ext0 g h ∧ g.size ≤ q.1 ∧ g.size ≤ q.2 ∧ q.1 ≠ q.2
theorem one_leaf {g w3 w4 w5 : Heap} {b1 b2 : Nat} {t : Tk} {st : LSt} (e : Ext0 g w3) (h1 : g.size ≤ b1) (h2 : g.size ≤ b2) (hne : b1 ≠ b2) (x4 : Ext (fun b => b = b1) w3 w4) (x5 : Ext (fun b => b = b2) w4 w5) (d7 : Blk w4 b1 27 (encTk t)) (d8 : Blk w5 b2 23 (encLSt st)) : OneP g t st (b1, b2) w5 :=
  ⟨d7.ext x5 hne, d8, Ext0.only (Ext0.only e x4 h1) x5 h2, h1, h2, hne⟩
theorem lexesFrom_calls {h : Heap} (hg : LxG h) (s : By) (m : Nat) (hm : m < 65536) :
    CallsH Tryd.prog 6 #[.string (bs s), .int .u16 (m : Nat)] h (Ret fun r h' => r = .bool true ∧ Ext0 h h') := by
  have hbs := bs_size s
  refine CallsH.of Tryd.func6 rfl rfl ?_
  refine xr Tryd.func6 rfl ?_
  refine xq rfl ?_
  refine xd [0, 1, 4] rfl ?_
  refine G.seq rfl ?_
  refine xr Tryd.func6 rfl ?_
  refine xq rfl ?_
  refine xp rfl (OpP.lenString Tryd.underlying9 rfl) ?_
  refine xq rfl ?_
  refine xd [0, 1, 4, 21] rfl ?_
  refine G.ite rfl rfl (fun hlen => ?_) (fun hlen => ?_)
  · refine xr Tryd.func6 rfl ?_
    refine xo rfl (OpX.call (vs := []) Tryd.func7 rfl H.nm7 rfl (CallsH.toX (taken_calls hg))) ?_
    rintro _ h2 ⟨rfl, e2⟩
    refine xq rfl ?_
    refine xd [0, 1, 4, 21] rfl ?_
    refine G.ret Tryd.func6 rfl rfl ?_
    exact ⟨_, rfl, rfl, e2⟩
  · obtain ⟨lim, hl1, hl2⟩ := id hg.sg
    refine G.skip rfl ?_
    refine xr Tryd.func6 rfl ?_
    refine xo rfl (OpX.call (vs := []) Tryd.func10 rfl H.nm10 rfl (CallsH.toX (new_calls hl2 hl1 hg.tens hg.rules))) ?_
    rintro p h1 ⟨hp, e1⟩
    refine xq rfl ?_
    refine xd [0, 1, 4, 5, 21] rfl ?_
    refine xr Tryd.func6 rfl ?_
    iterate 2 refine xq rfl ?_
    refine xo rfl (OpX.call (vs := [_, _]) Tryd.func9 rfl H.nm9 rfl (CallsH.toX (lall_calls (hg.ext0 e1) hp s (by omega)))) ?_
    rintro _ h2 ⟨⟨tv, rfl, htv⟩, e2⟩
    iterate 3 refine xq rfl ?_
    refine xo rfl (OpX.allocN H.zr23) ?_
    rintro _ h3 ⟨rfl, k3, e3, z3⟩
    refine xq rfl ?_
    refine RW.op0 rfl rfl rfl (OpX.storeBlk H.sz23 rfl rfl k3 (by first | rfl | simp) (by first | decide | exact of_decide_eq_true rfl | (simp; done) | (simp; omega)) (lst_one _)) ?_
    rintro _ h4 ⟨rfl, k4, x4, z4⟩
    have e24 : Ext0 h2 h4 := Ext0.only (h0 := h2) e3 x4 (by omega)
    have e04 : Ext0 h h4 := (e1.trans e2).trans e24
    have htv4 := htv.ext0 e24
    have hp4 := hp.ext0 (e2.trans e24)
    have hal : (allP s).1.length ≤ s.length := allG_len _ _ _ _
    generalize hres : allP s = res at *
    obtain ⟨toks, fin⟩ := res
    dsimp only at hal htv4
    obtain ⟨ta, tn, tc, rfl, hts⟩ := htv4.open
    have htl : toks.length = tn := hts.len
    have hres1 : (allG s.length (s.drop 0) 0 (0, 0)).1 = toks.drop 0 := by show (allP s).1 = toks; rw [hres]
    refine xd [0, 1, 4, 5, 6, 21] rfl ?_
    refine G.seq rfl ?_
    refine xr Tryd.func6 rfl ?_
    refine xq rfl ?_
    refine xp rfl (OpP.lenSlice Tryd.underlying30 rfl) ?_
    refine xq rfl ?_
    refine xd [0, 1, 4, 5, 6, 21, 32] rfl ?_
    refine G.ite rfl rfl (fun hz => ?_) (fun hz => ?_)
    · obtain rfl : tn = 0 := by omega
      have hs0 : s = [] := by
        have := rest_nil (s := s) (Nat.zero_le _) (0, 0) (by rw [hres1]; exact List.length_eq_zero_iff.1 htl)
        exact List.length_eq_zero_iff.1 this.symm
      subst hs0
      refine G.seq rfl ?_
      refine G.regToX (fun (_u : Unit) (h' : Heap) => Ext0 h4 h') (fun (_u : Unit) => [(4, .bool true)]) [(0, _), (1, _), (5, _), (6, _), (21, _), (32, _)] ⟨rfl, rfl, rfl, rfl, rfl, rfl, trivial⟩ Tryd.func6 rfl ?_ ?_
      · refine xq rfl ?_
        refine xp rfl (OpP.eqlStr rfl rfl) ?_
        refine xq rfl ?_
        refine RW.know (d := 35) (b' := true) rfl (rfl) ?_
        refine xo rfl (OpX.call (vs := []) Tryd.func7 rfl H.nm7 rfl (CallsH.toX (taken_calls (hg.ext0 e04)))) ?_
        rintro _ h9 ⟨rfl, e9⟩
        iterate 2 refine xq rfl ?_
        refine RW.done rfl ?_
        exact ⟨(), e9, rfl, rfl, rfl, rfl, rfl, rfl, rfl, trivial⟩
      · rintro _ h9 e9
        refine G.ret Tryd.func6 rfl rfl ?_
        exact ⟨_, rfl, rfl, e04.trans e9⟩
    · have htn : 0 < tn := by omega
      obtain ⟨k0, hk0⟩ : ∃ k0, k0 = m % tn := ⟨_, rfl⟩
      have hklt : k0 < tn := by rw [hk0]; exact Nat.mod_lt _ htn
      have hkv : (m : Int).tmod (tn : Int) = (k0 : Nat) := by rw [hk0, Int.tmod_eq_emod_of_nonneg (by omega)]; rfl
      refine G.skip rfl ?_
      refine xr Tryd.func6 rfl ?_
      refine xq rfl ?_
      refine xp rfl (OpP.convIn Tryd.underlying40 Tryd.underlying3 rfl (by rw [wrap_i64 ⟨by omega, by omega⟩])) ?_
      refine xq rfl ?_
      refine xp rfl (OpP.lenSlice Tryd.underlying30 rfl) ?_
      refine xp rfl (OpP.rem rfl rfl (by omega)) ?_
      rw [hkv]
      refine xq rfl ?_
      refine xd [0, 1, 4, 5, 6, 8, 21, 32] rfl ?_
      refine xr Tryd.func6 rfl ?_
      refine xp rfl (OpP.build (H.bd23_ ) rfl) ?_
      refine xo rfl (OpX.allocN H.zr23) ?_
      rintro _ h5 ⟨rfl, k5, e5, z5⟩
      refine RW.op0 rfl rfl rfl (OpX.storeBlk H.sz23 rfl rfl k5 (by first | rfl | simp) (by first | decide | exact of_decide_eq_true rfl | (simp; done) | (simp; omega)) (lst_one (0, 0))) ?_
      rintro _ h6 ⟨rfl, k6, x6, z6⟩
      refine xd [0, 1, 4, 5, 6, 8, 9, 21, 32] rfl ?_
      refine G.seq rfl ?_
      refine xr Tryd.func6 rfl ?_
      refine xq rfl ?_
      refine xd [0, 1, 4, 5, 6, 8, 9, 10, 21, 32] rfl ?_
      refine G.block rfl rfl ?_
      have e46 : Ext0 h4 h6 := Ext0.only (h0 := h4) e5 x6 (by omega)
      have k6 : Blk h6 h4.size 23 (encLSt (0, 0)) := k6
      refine G.loop (σ := Nat × Nat × LSt) (fun q => [(0, .string (bs s)), (4, .bool false), (5, p), (6, .slice ta tn tc), (8, .int .i64 (k0 : Nat)), (9, .pointer (some ⟨h4.size, 0, none⟩)), (10, .int .i64 (q.1 : Nat))]) (fun q h' => q.1 ≤ k0 ∧ q.2.1 ≤ s.length ∧ I64 q.2.2.2 ∧ Ext0 h4 h' ∧ Blk h' h4.size 23 (encLSt q.2.2) ∧ (allG s.length (s.drop q.2.1) q.2.1 q.2.2).1 = toks.drop q.1) (fun q => k0 - q.1) ((0, 0, (0, 0))) rfl ⟨rfl, rfl, rfl, rfl, rfl, rfl, rfl, trivial⟩ ⟨Nat.zero_le _, Nat.zero_le _, by show I64 0; unfold I64; omega, e46, k6, hres1⟩ ?_
      rintro ⟨i, a, st⟩ g ⟨hi, ha, hst, e4g, kS, hc1⟩ ih
      try dsimp only
      dsimp only at hi ha hst kS hc1
      have eg : Ext0 h g := e04.trans e4g
      have hitn : i < tn := by omega
      have halt : a < s.length := by
        rcases Nat.lt_or_ge a s.length with k | k
        · exact k
        · obtain rfl : a = s.length := by omega
          rw [List.drop_length, allG_nil] at hc1
          have := congrArg List.length hc1
          simp at this
          omega
      have hL := lenP_drop halt st
      obtain ⟨bb, o, t, ta', _, ht, hrow⟩ := (hts.mv (Mv.ext0 e4g)).recd hitn
      have hhd : toks[i]? = some (kndP (s.drop a) st.1, (a : Int), ((a + lenP (s.drop a) st.1 : Nat) : Int)) := by
        rw [rest_step halt] at hc1
        have := congrArg (fun z => z[0]?) hc1
        simpa using this.symm
      obtain rfl : t = _ := Option.some.inj (ht.symm.trans hhd)
      have hbb : bb < g.size := lt_of_rowAt hrow (List.cons_ne_nil _ _)
      have hMt : ¬ Array.size g ≤ bb := by omega
      have hMs : ¬ Array.size g ≤ h4.size := by have := kS.lt; omega
      refine G.seq rfl ?_
      refine xr Tryd.func6 rfl ?_
      iterate 3 refine xq rfl ?_
      refine xd [0, 4, 5, 6, 8, 9, 10, 46] rfl ?_
      refine G.ite rfl rfl (fun hlt => ?_) (fun hlt => ?_)
      · rw [rest_step halt] at hc1
        have hone : ∀ g', Ext0 g g' → _ := fun g' eg' => one_calls (hg.ext0 (eg.trans eg')) (hp4.ext0 (e4g.trans eg')) s a halt (by omega) st hst
        unfold oneV at hone
        have hnI := nxt_I64 hst (s.drop a)
        generalize lenP (s.drop a) st.1 = L at *
        generalize kndP (s.drop a) st.1 = kd at *
        generalize nxtP (s.drop a) st = nx at *
        generalize lexS st.1 (s.drop a) = sp at *
        have hr1 : (allG s.length (s.drop (a + L)) (a + L) nx).1 = toks.drop (i + 1) := by
          have := congrArg List.tail hc1
          simpa only [List.tail_cons, List.tail_drop] using this
        refine G.skip rfl ?_
        refine G.seq rfl ?_
        refine G.block rfl rfl ?_
        refine G.seq rfl ?_
        refine G.drawToX (fun (q : Nat × Nat) (h' : Heap) => OneP g (kd, (a : Int), ((a + L : Nat) : Int)) nx q h') (fun (q : Nat × Nat) => [(11, .pointer (some ⟨q.1, 0, none⟩)), (12, .pointer (some ⟨q.2, 0, none⟩))]) [(0, _), (4, _), (5, _), (6, _), (8, _), (9, _), (10, _), (46, _)] ⟨rfl, rfl, rfl, rfl, rfl, rfl, rfl, rfl, trivial⟩ (fun b => Array.size g ≤ b) (fun i => Nat.blt i 17) (sz := 18) (listed := #[false, false, false, false, false, false, false, false, false, false, false, false, false, false, false, false, false, false]) Tryd.func6 H.mixed rfl rfl rfl ?_ ?_
        · refine RD.takeS 0 (listed' := #[true, false, false, false, false, false, false, false, false, false, false, false, false, false, false, false, false, false]) rfl (by kernel_rfl) (by kernel_rfl) (by kernel_rfl) rfl rfl rfl (fun h' e => OpP.move rfl) rfl ?_
          refine RD.takeS 1 (listed' := #[true, true, false, false, false, false, false, false, false, false, false, false, false, false, false, false, false, false]) rfl (by kernel_rfl) (by kernel_rfl) (by kernel_rfl) rfl rfl rfl (fun h' e => OpP.move rfl) rfl ?_
          refine RD.takeS 2 (listed' := #[true, true, true, false, false, false, false, false, false, false, false, false, false, false, false, false, false, false]) rfl (by kernel_rfl) (by kernel_rfl) (by kernel_rfl) rfl rfl rfl (fun h' e => OpP.move rfl) rfl ?_
          refine RD.takeS 3 (listed' := #[true, true, true, true, false, false, false, false, false, false, false, false, false, false, false, false, false, false]) rfl (by kernel_rfl) (by kernel_rfl) (by kernel_rfl) rfl rfl rfl (fun h' e => OpP.move rfl) rfl ?_
          refine RD.takeS 4 (listed' := #[true, true, true, true, true, false, false, false, false, false, false, false, false, false, false, false, false, false]) rfl (by kernel_rfl) (by kernel_rfl) (by kernel_rfl) rfl rfl rfl (fun h' e => OpP.indexSlice Tryd.underlying30 H.sz27 rfl rfl i rfl ta' hitn) rfl ?_
          refine RD.takeS 5 (listed' := #[true, true, true, true, true, true, false, false, false, false, false, false, false, false, false, false, false, false]) rfl (by kernel_rfl) (by kernel_rfl) (by kernel_rfl) rfl rfl rfl (fun h' e => OpP.fieldAddr (off := 1) Tryd.underlying27 rfl rfl H.sz3 rfl) rfl ?_
          refine RD.takeS 6 (listed' := #[true, true, true, true, true, true, true, false, false, false, false, false, false, false, false, false, false, false]) rfl (by kernel_rfl) (by kernel_rfl) (by kernel_rfl) rfl rfl rfl (fun h' e => OpP.load H.ag3 rfl (e.cell hMt (hrow 1 _ rfl))) rfl ?_
          refine RD.takeS 7 (listed' := #[true, true, true, true, true, true, true, true, false, false, false, false, false, false, false, false, false, false]) rfl (by kernel_rfl) (by kernel_rfl) (by kernel_rfl) rfl rfl rfl (fun h' e => OpP.loadRowN H.ag23 H.sz23 rfl (e.rowAt hMs kS.row) (by first | rfl | simp)) rfl ?_
          refine RD.threeS 8 13 14 (li := #[true, true, true, true, true, true, true, true, true, false, false, false, false, false, false, false, false, false]) (lj := #[true, true, true, true, true, true, true, true, false, false, false, false, false, true, false, false, false, false]) (lk := #[true, true, true, true, true, true, true, true, false, false, false, false, false, false, true, false, false, false]) rfl rfl rfl (by kernel_rfl) rfl rfl rfl rfl rfl rfl rfl rfl rfl (OpX.call (vs := [_, _, _, _]) Tryd.func8 rfl H.nm8 rfl (CallsH.toX (hone _ (Ext.refl _ _)))) (OpX.allocN H.zr27) (OpX.allocN H.zr23) rfl rfl rfl ?_ ?_ ?_
          · rintro _ w1 ⟨rfl, e1⟩
            refine ⟨fun _ => e1.of, ?_⟩
            refine RD.takeS 9 (listed' := #[true, true, true, true, true, true, true, true, true, true, false, false, false, false, false, false, false, false]) rfl (by kernel_rfl) (by kernel_rfl) (by kernel_rfl) rfl rfl rfl (fun h' e => OpP.move rfl) rfl ?_
            refine RD.takeS 10 (listed' := #[true, true, true, true, true, true, true, true, true, true, true, false, false, false, false, false, false, false]) rfl (by kernel_rfl) (by kernel_rfl) (by kernel_rfl) rfl rfl rfl (fun h' e => OpP.extract rfl rfl) rfl ?_
            refine RD.takeS 11 (listed' := #[true, true, true, true, true, true, true, true, true, true, true, true, false, false, false, false, false, false]) rfl (by kernel_rfl) (by kernel_rfl) (by kernel_rfl) rfl rfl rfl (fun h' e => OpP.extract rfl rfl) rfl ?_
            refine RD.takeS 12 (listed' := #[true, true, true, true, true, true, true, true, true, true, true, true, true, false, false, false, false, false]) rfl (by kernel_rfl) (by kernel_rfl) (by kernel_rfl) rfl rfl rfl (fun h' e => OpP.extract rfl rfl) rfl ?_
            refine RD.twoS 13 14 (li := #[true, true, true, true, true, true, true, true, true, true, true, true, true, true, false, false, false, false]) (lj := #[true, true, true, true, true, true, true, true, true, true, true, true, true, false, true, false, false, false]) rfl rfl (by kernel_rfl) rfl rfl rfl rfl rfl rfl (OpX.allocN H.zr27) (OpX.allocN H.zr23) rfl rfl ?_ ?_
            · rintro _ w2 ⟨rfl, c7, e2, y2⟩
              refine ⟨fun _ => e2.of, ?_⟩
              refine RD.oneS 14 (listed' := #[true, true, true, true, true, true, true, true, true, true, true, true, true, true, true, false, false, false]) rfl (by kernel_rfl) rfl rfl rfl (OpX.allocN H.zr23) rfl ?_
              rintro _ w3 ⟨rfl, c8, e3, y3⟩
              refine ⟨fun _ => e3.of, ?_⟩
              have z1 := e1.size
              have z2 := e2.size
              have z3 := e3.size
              refine RD.one0 15 (listed' := #[true, true, true, true, true, true, true, true, true, true, true, true, true, true, true, true, false, false]) rfl (by kernel_rfl) rfl rfl (OpX.storeBlk H.sz27 rfl rfl (c7.ext0 e3) (by first | rfl | simp) (by first | decide | exact of_decide_eq_true rfl | (simp; done) | (simp; omega)) (tk_one _)) rfl ?_
              rintro _ w4 ⟨rfl, d7, x4', y4'⟩
              refine ⟨fun _ => x4'.mono (fun b _ k => by have k : b = w1.size := k; omega), ?_⟩
              refine RD.one0 16 (listed' := #[true, true, true, true, true, true, true, true, true, true, true, true, true, true, true, true, true, false]) rfl (by kernel_rfl) rfl rfl (OpX.storeBlk H.sz23 rfl rfl ((c8).ext x4' (show ¬ w2.size = w1.size by omega)) (by first | rfl | simp) (by first | decide | exact of_decide_eq_true rfl | (simp; done) | (simp; omega)) (lst_one _)) rfl ?_
              rintro _ w5 ⟨rfl, d8, x5, y5⟩
              refine ⟨fun _ => x5.mono (fun b _ k => by have k : b = w2.size := k; omega), ?_⟩
              refine RD.takeS 17 (listed' := #[true, true, true, true, true, true, true, true, true, true, true, true, true, true, true, true, true, true]) rfl (by kernel_rfl) (by kernel_rfl) (by kernel_rfl) rfl rfl rfl (fun h' e => OpP.assign rfl) rfl ?_
              refine RD.done (by kernel_rfl) ?_
              exact ⟨(w1.size, w2.size), one_leaf ((e1.trans e2).trans e3) (by omega) (by omega) (by omega) x4' x5 d7 d8, rfl, rfl, rfl, rfl, rfl, rfl, rfl, rfl, rfl, rfl, trivial⟩
            · rintro _ w2 ⟨rfl, c8, e2, y2⟩
              refine ⟨fun _ => e2.of, ?_⟩
              refine RD.oneS 13 (listed' := #[true, true, true, true, true, true, true, true, true, true, true, true, true, true, true, false, false, false]) rfl (by kernel_rfl) rfl rfl rfl (OpX.allocN H.zr27) rfl ?_
              rintro _ w3 ⟨rfl, c7, e3, y3⟩
              refine ⟨fun _ => e3.of, ?_⟩
              have z1 := e1.size
              have z2 := e2.size
              have z3 := e3.size
              refine RD.one0 15 (listed' := #[true, true, true, true, true, true, true, true, true, true, true, true, true, true, true, true, false, false]) rfl (by kernel_rfl) rfl rfl (OpX.storeBlk H.sz27 rfl rfl (c7) (by first | rfl | simp) (by first | decide | exact of_decide_eq_true rfl | (simp; done) | (simp; omega)) (tk_one _)) rfl ?_
              rintro _ w4 ⟨rfl, d7, x4', y4'⟩
              refine ⟨fun _ => x4'.mono (fun b _ k => by have k : b = w2.size := k; omega), ?_⟩
              refine RD.one0 16 (listed' := #[true, true, true, true, true, true, true, true, true, true, true, true, true, true, true, true, true, false]) rfl (by kernel_rfl) rfl rfl (OpX.storeBlk H.sz23 rfl rfl ((c8.ext0 e3).ext x4' (show ¬ w1.size = w2.size by omega)) (by first | rfl | simp) (by first | decide | exact of_decide_eq_true rfl | (simp; done) | (simp; omega)) (lst_one _)) rfl ?_
              rintro _ w5 ⟨rfl, d8, x5, y5⟩
              refine ⟨fun _ => x5.mono (fun b _ k => by have k : b = w1.size := k; omega), ?_⟩
              refine RD.takeS 17 (listed' := #[true, true, true, true, true, true, true, true, true, true, true, true, true, true, true, true, true, true]) rfl (by kernel_rfl) (by kernel_rfl) (by kernel_rfl) rfl rfl rfl (fun h' e => OpP.assign rfl) rfl ?_
              refine RD.done (by kernel_rfl) ?_
              exact ⟨(w2.size, w1.size), one_leaf ((e1.trans e2).trans e3) (by omega) (by omega) (by omega) x4' x5 d7 d8, rfl, rfl, rfl, rfl, rfl, rfl, rfl, rfl, rfl, rfl, trivial⟩
          · rintro _ w1 ⟨rfl, c7, e1, y1⟩
            refine ⟨fun _ => e1.of, ?_⟩
            refine RD.twoS 8 14 (li := #[true, true, true, true, true, true, true, true, true, false, false, false, false, true, false, false, false, false]) (lj := #[true, true, true, true, true, true, true, true, false, false, false, false, false, true, true, false, false, false]) rfl rfl (by kernel_rfl) rfl rfl rfl rfl rfl rfl (OpX.call (vs := [_, _, _, _]) Tryd.func8 rfl H.nm8 rfl (CallsH.toX (hone _ e1))) (OpX.allocN H.zr23) rfl rfl ?_ ?_
            · rintro _ w2 ⟨rfl, e2⟩
              refine ⟨fun _ => e2.of, ?_⟩
              refine RD.takeS 9 (listed' := #[true, true, true, true, true, true, true, true, true, true, false, false, false, true, false, false, false, false]) rfl (by kernel_rfl) (by kernel_rfl) (by kernel_rfl) rfl rfl rfl (fun h' e => OpP.move rfl) rfl ?_
              refine RD.takeS 10 (listed' := #[true, true, true, true, true, true, true, true, true, true, true, false, false, true, false, false, false, false]) rfl (by kernel_rfl) (by kernel_rfl) (by kernel_rfl) rfl rfl rfl (fun h' e => OpP.extract rfl rfl) rfl ?_
              refine RD.takeS 11 (listed' := #[true, true, true, true, true, true, true, true, true, true, true, true, false, true, false, false, false, false]) rfl (by kernel_rfl) (by kernel_rfl) (by kernel_rfl) rfl rfl rfl (fun h' e => OpP.extract rfl rfl) rfl ?_
              refine RD.takeS 12 (listed' := #[true, true, true, true, true, true, true, true, true, true, true, true, true, true, false, false, false, false]) rfl (by kernel_rfl) (by kernel_rfl) (by kernel_rfl) rfl rfl rfl (fun h' e => OpP.extract rfl rfl) rfl ?_
              refine RD.oneS 14 (listed' := #[true, true, true, true, true, true, true, true, true, true, true, true, true, true, true, false, false, false]) rfl (by kernel_rfl) rfl rfl rfl (OpX.allocN H.zr23) rfl ?_
              rintro _ w3 ⟨rfl, c8, e3, y3⟩
              refine ⟨fun _ => e3.of, ?_⟩
              have z1 := e1.size
              have z2 := e2.size
              have z3 := e3.size
              refine RD.one0 15 (listed' := #[true, true, true, true, true, true, true, true, true, true, true, true, true, true, true, true, false, false]) rfl (by kernel_rfl) rfl rfl (OpX.storeBlk H.sz27 rfl rfl ((c7.ext0 e2).ext0 e3) (by first | rfl | simp) (by first | decide | exact of_decide_eq_true rfl | (simp; done) | (simp; omega)) (tk_one _)) rfl ?_
              rintro _ w4 ⟨rfl, d7, x4', y4'⟩
              refine ⟨fun _ => x4'.mono (fun b _ k => by have k : b = g.size := k; omega), ?_⟩
              refine RD.one0 16 (listed' := #[true, true, true, true, true, true, true, true, true, true, true, true, true, true, true, true, true, false]) rfl (by kernel_rfl) rfl rfl (OpX.storeBlk H.sz23 rfl rfl ((c8).ext x4' (show ¬ w2.size = g.size by omega)) (by first | rfl | simp) (by first | decide | exact of_decide_eq_true rfl | (simp; done) | (simp; omega)) (lst_one _)) rfl ?_
              rintro _ w5 ⟨rfl, d8, x5, y5⟩
              refine ⟨fun _ => x5.mono (fun b _ k => by have k : b = w2.size := k; omega), ?_⟩
              refine RD.takeS 17 (listed' := #[true, true, true, true, true, true, true, true, true, true, true, true, true, true, true, true, true, true]) rfl (by kernel_rfl) (by kernel_rfl) (by kernel_rfl) rfl rfl rfl (fun h' e => OpP.assign rfl) rfl ?_
              refine RD.done (by kernel_rfl) ?_
              exact ⟨(g.size, w2.size), one_leaf ((e1.trans e2).trans e3) (by omega) (by omega) (by omega) x4' x5 d7 d8, rfl, rfl, rfl, rfl, rfl, rfl, rfl, rfl, rfl, rfl, trivial⟩
            · rintro _ w2 ⟨rfl, c8, e2, y2⟩
              refine ⟨fun _ => e2.of, ?_⟩
              refine RD.oneS 8 (listed' := #[true, true, true, true, true, true, true, true, true, false, false, false, false, true, true, false, false, false]) rfl (by kernel_rfl) rfl rfl rfl (OpX.call (vs := [_, _, _, _]) Tryd.func8 rfl H.nm8 rfl (CallsH.toX (hone _ (e1.trans e2)))) rfl ?_
              rintro _ w3 ⟨rfl, e3⟩
              refine ⟨fun _ => e3.of, ?_⟩
              have z1 := e1.size
              have z2 := e2.size
              have z3 := e3.size
              refine RD.takeS 9 (listed' := #[true, true, true, true, true, true, true, true, true, true, false, false, false, true, true, false, false, false]) rfl (by kernel_rfl) (by kernel_rfl) (by kernel_rfl) rfl rfl rfl (fun h' e => OpP.move rfl) rfl ?_
              refine RD.takeS 10 (listed' := #[true, true, true, true, true, true, true, true, true, true, true, false, false, true, true, false, false, false]) rfl (by kernel_rfl) (by kernel_rfl) (by kernel_rfl) rfl rfl rfl (fun h' e => OpP.extract rfl rfl) rfl ?_
              refine RD.takeS 11 (listed' := #[true, true, true, true, true, true, true, true, true, true, true, true, false, true, true, false, false, false]) rfl (by kernel_rfl) (by kernel_rfl) (by kernel_rfl) rfl rfl rfl (fun h' e => OpP.extract rfl rfl) rfl ?_
              refine RD.takeS 12 (listed' := #[true, true, true, true, true, true, true, true, true, true, true, true, true, true, true, false, false, false]) rfl (by kernel_rfl) (by kernel_rfl) (by kernel_rfl) rfl rfl rfl (fun h' e => OpP.extract rfl rfl) rfl ?_
              refine RD.one0 15 (listed' := #[true, true, true, true, true, true, true, true, true, true, true, true, true, true, true, true, false, false]) rfl (by kernel_rfl) rfl rfl (OpX.storeBlk H.sz27 rfl rfl ((c7.ext0 e2).ext0 e3) (by first | rfl | simp) (by first | decide | exact of_decide_eq_true rfl | (simp; done) | (simp; omega)) (tk_one _)) rfl ?_
              rintro _ w4 ⟨rfl, d7, x4', y4'⟩
              refine ⟨fun _ => x4'.mono (fun b _ k => by have k : b = g.size := k; omega), ?_⟩
              refine RD.one0 16 (listed' := #[true, true, true, true, true, true, true, true, true, true, true, true, true, true, true, true, true, false]) rfl (by kernel_rfl) rfl rfl (OpX.storeBlk H.sz23 rfl rfl ((c8.ext0 e3).ext x4' (show ¬ w1.size = g.size by omega)) (by first | rfl | simp) (by first | decide | exact of_decide_eq_true rfl | (simp; done) | (simp; omega)) (lst_one _)) rfl ?_
              rintro _ w5 ⟨rfl, d8, x5, y5⟩
              refine ⟨fun _ => x5.mono (fun b _ k => by have k : b = w1.size := k; omega), ?_⟩
              refine RD.takeS 17 (listed' := #[true, true, true, true, true, true, true, true, true, true, true, true, true, true, true, true, true, true]) rfl (by kernel_rfl) (by kernel_rfl) (by kernel_rfl) rfl rfl rfl (fun h' e => OpP.assign rfl) rfl ?_
              refine RD.done (by kernel_rfl) ?_
              exact ⟨(g.size, w1.size), one_leaf ((e1.trans e2).trans e3) (by omega) (by omega) (by omega) x4' x5 d7 d8, rfl, rfl, rfl, rfl, rfl, rfl, rfl, rfl, rfl, rfl, trivial⟩
          · rintro _ w1 ⟨rfl, c8, e1, y1⟩
            refine ⟨fun _ => e1.of, ?_⟩
            refine RD.twoS 8 13 (li := #[true, true, true, true, true, true, true, true, true, false, false, false, false, false, true, false, false, false]) (lj := #[true, true, true, true, true, true, true, true, false, false, false, false, false, true, true, false, false, false]) rfl rfl (by kernel_rfl) rfl rfl rfl rfl rfl rfl (OpX.call (vs := [_, _, _, _]) Tryd.func8 rfl H.nm8 rfl (CallsH.toX (hone _ e1))) (OpX.allocN H.zr27) rfl rfl ?_ ?_
            · rintro _ w2 ⟨rfl, e2⟩
              refine ⟨fun _ => e2.of, ?_⟩
              refine RD.takeS 9 (listed' := #[true, true, true, true, true, true, true, true, true, true, false, false, false, false, true, false, false, false]) rfl (by kernel_rfl) (by kernel_rfl) (by kernel_rfl) rfl rfl rfl (fun h' e => OpP.move rfl) rfl ?_
              refine RD.takeS 10 (listed' := #[true, true, true, true, true, true, true, true, true, true, true, false, false, false, true, false, false, false]) rfl (by kernel_rfl) (by kernel_rfl) (by kernel_rfl) rfl rfl rfl (fun h' e => OpP.extract rfl rfl) rfl ?_
              refine RD.takeS 11 (listed' := #[true, true, true, true, true, true, true, true, true, true, true, true, false, false, true, false, false, false]) rfl (by kernel_rfl) (by kernel_rfl) (by kernel_rfl) rfl rfl rfl (fun h' e => OpP.extract rfl rfl) rfl ?_
              refine RD.takeS 12 (listed' := #[true, true, true, true, true, true, true, true, true, true, true, true, true, false, true, false, false, false]) rfl (by kernel_rfl) (by kernel_rfl) (by kernel_rfl) rfl rfl rfl (fun h' e => OpP.extract rfl rfl) rfl ?_
              refine RD.oneS 13 (listed' := #[true, true, true, true, true, true, true, true, true, true, true, true, true, true, true, false, false, false]) rfl (by kernel_rfl) rfl rfl rfl (OpX.allocN H.zr27) rfl ?_
              rintro _ w3 ⟨rfl, c7, e3, y3⟩
              refine ⟨fun _ => e3.of, ?_⟩
              have z1 := e1.size
              have z2 := e2.size
              have z3 := e3.size
              refine RD.one0 15 (listed' := #[true, true, true, true, true, true, true, true, true, true, true, true, true, true, true, true, false, false]) rfl (by kernel_rfl) rfl rfl (OpX.storeBlk H.sz27 rfl rfl (c7) (by first | rfl | simp) (by first | decide | exact of_decide_eq_true rfl | (simp; done) | (simp; omega)) (tk_one _)) rfl ?_
              rintro _ w4 ⟨rfl, d7, x4', y4'⟩
              refine ⟨fun _ => x4'.mono (fun b _ k => by have k : b = w2.size := k; omega), ?_⟩
              refine RD.one0 16 (listed' := #[true, true, true, true, true, true, true, true, true, true, true, true, true, true, true, true, true, false]) rfl (by kernel_rfl) rfl rfl (OpX.storeBlk H.sz23 rfl rfl (((c8.ext0 e2).ext0 e3).ext x4' (show ¬ g.size = w2.size by omega)) (by first | rfl | simp) (by first | decide | exact of_decide_eq_true rfl | (simp; done) | (simp; omega)) (lst_one _)) rfl ?_
              rintro _ w5 ⟨rfl, d8, x5, y5⟩
              refine ⟨fun _ => x5.mono (fun b _ k => by have k : b = g.size := k; omega), ?_⟩
              refine RD.takeS 17 (listed' := #[true, true, true, true, true, true, true, true, true, true, true, true, true, true, true, true, true, true]) rfl (by kernel_rfl) (by kernel_rfl) (by kernel_rfl) rfl rfl rfl (fun h' e => OpP.assign rfl) rfl ?_
              refine RD.done (by kernel_rfl) ?_
              exact ⟨(w2.size, g.size), one_leaf ((e1.trans e2).trans e3) (by omega) (by omega) (by omega) x4' x5 d7 d8, rfl, rfl, rfl, rfl, rfl, rfl, rfl, rfl, rfl, rfl, trivial⟩
            · rintro _ w2 ⟨rfl, c7, e2, y2⟩
              refine ⟨fun _ => e2.of, ?_⟩
              refine RD.oneS 8 (listed' := #[true, true, true, true, true, true, true, true, true, false, false, false, false, true, true, false, false, false]) rfl (by kernel_rfl) rfl rfl rfl (OpX.call (vs := [_, _, _, _]) Tryd.func8 rfl H.nm8 rfl (CallsH.toX (hone _ (e1.trans e2)))) rfl ?_
              rintro _ w3 ⟨rfl, e3⟩
              refine ⟨fun _ => e3.of, ?_⟩
              have z1 := e1.size
              have z2 := e2.size
              have z3 := e3.size
              refine RD.takeS 9 (listed' := #[true, true, true, true, true, true, true, true, true, true, false, false, false, true, true, false, false, false]) rfl (by kernel_rfl) (by kernel_rfl) (by kernel_rfl) rfl rfl rfl (fun h' e => OpP.move rfl) rfl ?_
              refine RD.takeS 10 (listed' := #[true, true, true, true, true, true, true, true, true, true, true, false, false, true, true, false, false, false]) rfl (by kernel_rfl) (by kernel_rfl) (by kernel_rfl) rfl rfl rfl (fun h' e => OpP.extract rfl rfl) rfl ?_
              refine RD.takeS 11 (listed' := #[true, true, true, true, true, true, true, true, true, true, true, true, false, true, true, false, false, false]) rfl (by kernel_rfl) (by kernel_rfl) (by kernel_rfl) rfl rfl rfl (fun h' e => OpP.extract rfl rfl) rfl ?_
              refine RD.takeS 12 (listed' := #[true, true, true, true, true, true, true, true, true, true, true, true, true, true, true, false, false, false]) rfl (by kernel_rfl) (by kernel_rfl) (by kernel_rfl) rfl rfl rfl (fun h' e => OpP.extract rfl rfl) rfl ?_
              refine RD.one0 15 (listed' := #[true, true, true, true, true, true, true, true, true, true, true, true, true, true, true, true, false, false]) rfl (by kernel_rfl) rfl rfl (OpX.storeBlk H.sz27 rfl rfl (c7.ext0 e3) (by first | rfl | simp) (by first | decide | exact of_decide_eq_true rfl | (simp; done) | (simp; omega)) (tk_one _)) rfl ?_
              rintro _ w4 ⟨rfl, d7, x4', y4'⟩
              refine ⟨fun _ => x4'.mono (fun b _ k => by have k : b = w1.size := k; omega), ?_⟩
              refine RD.one0 16 (listed' := #[true, true, true, true, true, true, true, true, true, true, true, true, true, true, true, true, true, false]) rfl (by kernel_rfl) rfl rfl (OpX.storeBlk H.sz23 rfl rfl (((c8.ext0 e2).ext0 e3).ext x4' (show ¬ g.size = w1.size by omega)) (by first | rfl | simp) (by first | decide | exact of_decide_eq_true rfl | (simp; done) | (simp; omega)) (lst_one _)) rfl ?_
              rintro _ w5 ⟨rfl, d8, x5, y5⟩
              refine ⟨fun _ => x5.mono (fun b _ k => by have k : b = g.size := k; omega), ?_⟩
              refine RD.takeS 17 (listed' := #[true, true, true, true, true, true, true, true, true, true, true, true, true, true, true, true, true, true]) rfl (by kernel_rfl) (by kernel_rfl) (by kernel_rfl) rfl rfl rfl (fun h' e => OpP.assign rfl) rfl ?_
              refine RD.done (by kernel_rfl) ?_
              exact ⟨(w1.size, g.size), one_leaf ((e1.trans e2).trans e3) (by omega) (by omega) (by omega) x4' x5 d7 d8, rfl, rfl, rfl, rfl, rfl, rfl, rfl, rfl, rfl, rfl, trivial⟩
        · rintro ⟨b1, b2⟩ g5 ⟨d7, d8, eg5, hb1, hb2, hbn⟩
          have kS5 := kS.ext0 eg5
          refine G.reg Tryd.func6 rfl ?_
          refine xp rfl (OpP.loadRowN H.ag23 H.sz23 rfl d8.row (by first | rfl | simp)) ?_
          refine RW.op0 rfl rfl rfl (OpX.storeBlk H.sz23 rfl rfl kS5 (by first | rfl | simp) (by first | decide | exact of_decide_eq_true rfl | (simp; done) | (simp; omega)) (lst_one nx)) ?_
          rintro _ g7 ⟨rfl, kS7, x7, y7⟩
          refine xd [0, 4, 5, 6, 8, 9, 10, 12, 46] rfl ?_
          refine G.blkEnd ?_
          refine G.reg Tryd.func6 rfl ?_
          refine xq rfl ?_
          refine xp rfl (OpP.add64 rfl rfl ⟨by omega, by omega⟩) ?_
          refine xq rfl ?_
          refine xd [0, 4, 5, 6, 8, 9, 10, 12, 46] rfl ?_
          have kS7 : Blk g7 h4.size 23 (encLSt nx) := kS7
          exact ih (i + 1, a + L, nx) _ _ ⟨rfl, rfl, rfl, rfl, rfl, rfl, rfl, trivial⟩ ⟨by show i + 1 ≤ k0; omega, by show a + L ≤ s.length; omega, hnI, Ext0.only (e4g.trans eg5) x7 (Nat.le_refl _), kS7, hr1⟩ (by show k0 - (i + 1) < k0 - i; omega)
      · obtain rfl : i = k0 := by omega
        refine G.exit rfl rfl ?_
        refine xr Tryd.func6 rfl ?_
        iterate 2 refine xq rfl ?_
        refine xp rfl (OpP.indexSlice Tryd.underlying30 H.sz27 rfl rfl i rfl ta' hitn) ?_
        refine xp rfl (OpP.fieldAddr (off := 1) Tryd.underlying27 rfl rfl H.sz3 rfl) ?_
        refine xp rfl (OpP.load H.ag3 rfl (hrow 1 _ rfl)) ?_
        refine xq rfl ?_
        refine xd [0, 4, 5, 6, 8, 9, 10, 14, 46] rfl ?_
        refine G.seq rfl ?_
        refine xr Tryd.func6 rfl ?_
        iterate 2 refine xq rfl ?_
        refine xd [0, 4, 5, 6, 8, 9, 10, 14, 15, 46] rfl ?_
        refine G.block rfl rfl ?_
        refine G.loop (σ := Nat × Nat × LSt) (fun q => [(0, .string (bs s)), (4, .bool false), (5, p), (6, .slice ta tn tc), (9, .pointer (some ⟨h4.size, 0, none⟩)), (14, .int .i64 (a : Nat)), (15, .int .i64 (q.1 : Nat))]) (fun q h' => q.1 ≤ tn ∧ (a ≤ q.2.1 ∧ q.2.1 ≤ s.length) ∧ I64 q.2.2.2 ∧ Ext0 h4 h' ∧ Blk h' h4.size 23 (encLSt q.2.2) ∧ (allG s.length (s.drop q.2.1) q.2.1 q.2.2).1 = toks.drop q.1) (fun q => tn - q.1) ((i, a, st)) rfl ⟨rfl, rfl, rfl, rfl, rfl, rfl, rfl, trivial⟩ ⟨by show i ≤ tn; omega, ⟨Nat.le_refl _, ha⟩, hst, e4g, kS, hc1⟩ ?_
        rintro ⟨j, c, su⟩ g ⟨hj, ⟨hac, hc⟩, hsu, e4g, kS, hc1⟩ ih
        try dsimp only
        dsimp only at hj hac hc hsu kS hc1
        have eg : Ext0 h g := e04.trans e4g
        refine G.seq rfl ?_
        refine xr Tryd.func6 rfl ?_
        iterate 2 refine xq rfl ?_
        refine xp rfl (OpP.lenSlice Tryd.underlying30 rfl) ?_
        refine xq rfl ?_
        refine xd [0, 4, 5, 6, 9, 14, 15, 72] rfl ?_
        refine G.ite rfl rfl (fun hlt2 => ?_) (fun hlt2 => ?_)
        · have hjn : j < tn := by omega
          have hclt : c < s.length := by
            rcases Nat.lt_or_ge c s.length with k | k
            · exact k
            · obtain rfl : c = s.length := by omega
              rw [List.drop_length, allG_nil] at hc1
              have := congrArg List.length hc1
              simp at this
              omega
          have hL := lenP_drop hclt su
          rw [rest_step hclt] at hc1
          obtain ⟨bb, o, t, ta', _, ht, hrow⟩ := (hts.mv (Mv.ext0 e4g)).recd hjn
          have hhd : toks[j]? = some (kndP (s.drop c) su.1, (c : Int), ((c + lenP (s.drop c) su.1 : Nat) : Int)) := by
            have := congrArg (fun z => z[0]?) hc1
            simpa using this.symm
          obtain rfl : t = _ := Option.some.inj (ht.symm.trans hhd)
          have hbb : bb < g.size := lt_of_rowAt hrow (List.cons_ne_nil _ _)
          have hMt : ¬ Array.size g ≤ bb := by omega
          have hMs : ¬ Array.size g ≤ h4.size := by have := kS.lt; omega
          have hone : ∀ g', Ext0 g g' → _ := fun g' eg' => one_calls (hg.ext0 (eg.trans eg')) (hp4.ext0 (e4g.trans eg')) (s.drop a) (c - a) (by rw [List.length_drop]; omega) (by rw [List.length_drop]; omega) su hsu
          unfold oneV at hone
          rw [List.drop_drop, Nat.add_sub_cancel' hac] at hone
          have hnI := nxt_I64 hsu (s.drop c)
          generalize lenP (s.drop c) su.1 = L at *
          generalize kndP (s.drop c) su.1 = kd at *
          generalize nxtP (s.drop c) su = nx at *
          generalize lexS su.1 (s.drop c) = sp at *
          have hr1 : (allG s.length (s.drop (c + L)) (c + L) nx).1 = toks.drop (j + 1) := by
            have := congrArg List.tail hc1
            simpa only [List.tail_cons, List.tail_drop] using this
          have hsub : ((c - a : Nat) : Int) = (c : Int) - (a : Int) := by omega
          have hsub2 : ((c - a + L : Nat) : Int) = (c : Int) - (a : Int) + L := by omega
          rw [hsub, hsub2] at hone
          have hto : (kd, (c : Int), ((c + L : Nat) : Int)).2.1 = (c : Int) := rfl
          refine G.skip rfl ?_
          refine G.seq rfl ?_
          refine G.block rfl rfl ?_
          refine G.seq rfl ?_
          refine G.drawToX (fun (q : Nat × Nat) (h' : Heap) => OneP g (kd, (c : Int) - (a : Int), (c : Int) - (a : Int) + L) nx q h') (fun (q : Nat × Nat) => [(16, .pointer (some ⟨q.1, 0, none⟩)), (17, .pointer (some ⟨q.2, 0, none⟩))]) [(0, _), (4, _), (5, _), (6, _), (9, _), (14, _), (15, _), (72, _)] ⟨rfl, rfl, rfl, rfl, rfl, rfl, rfl, rfl, trivial⟩ (fun b => Array.size g ≤ b) (fun i => Nat.blt i 21) (sz := 22) (listed := #[false, false, false, false, false, false, false, false, false, false, false, false, false, false, false, false, false, false, false, false, false, false]) Tryd.func6 H.mixed rfl rfl rfl ?_ ?_
          · refine RD.takeS 0 (listed' := #[true, false, false, false, false, false, false, false, false, false, false, false, false, false, false, false, false, false, false, false, false, false]) rfl (by kernel_rfl) (by kernel_rfl) (by kernel_rfl) rfl rfl rfl (fun h' e => OpP.move rfl) rfl ?_
            refine RD.takeS 1 (listed' := #[true, true, false, false, false, false, false, false, false, false, false, false, false, false, false, false, false, false, false, false, false, false]) rfl (by kernel_rfl) (by kernel_rfl) (by kernel_rfl) rfl rfl rfl (fun h' e => OpP.move rfl) rfl ?_
            refine RD.takeS 2 (listed' := #[true, true, true, false, false, false, false, false, false, false, false, false, false, false, false, false, false, false, false, false, false, false]) rfl (by kernel_rfl) (by kernel_rfl) (by kernel_rfl) rfl rfl rfl (fun h' e => OpP.move rfl) rfl ?_
            refine RD.takeS 3 (listed' := #[true, true, true, true, false, false, false, false, false, false, false, false, false, false, false, false, false, false, false, false, false, false]) rfl (by kernel_rfl) (by kernel_rfl) (by kernel_rfl) rfl rfl rfl (fun h' e => OpP.sliceStrLo Tryd.underlying9 rfl rfl a rfl (by omega)) rfl ?_
            refine RD.takeS 4 (listed' := #[true, true, true, true, true, false, false, false, false, false, false, false, false, false, false, false, false, false, false, false, false, false]) rfl (by kernel_rfl) (by kernel_rfl) (by kernel_rfl) rfl rfl rfl (fun h' e => OpP.move rfl) rfl ?_
            refine RD.takeS 5 (listed' := #[true, true, true, true, true, true, false, false, false, false, false, false, false, false, false, false, false, false, false, false, false, false]) rfl (by kernel_rfl) (by kernel_rfl) (by kernel_rfl) rfl rfl rfl (fun h' e => OpP.move rfl) rfl ?_
            refine RD.takeS 6 (listed' := #[true, true, true, true, true, true, true, false, false, false, false, false, false, false, false, false, false, false, false, false, false, false]) rfl (by kernel_rfl) (by kernel_rfl) (by kernel_rfl) rfl rfl rfl (fun h' e => OpP.indexSlice Tryd.underlying30 H.sz27 rfl rfl j rfl ta' hjn) rfl ?_
            refine RD.takeS 7 (listed' := #[true, true, true, true, true, true, true, true, false, false, false, false, false, false, false, false, false, false, false, false, false, false]) rfl (by kernel_rfl) (by kernel_rfl) (by kernel_rfl) rfl rfl rfl (fun h' e => OpP.fieldAddr (off := 1) Tryd.underlying27 rfl rfl H.sz3 rfl) rfl ?_
            refine RD.takeS 8 (listed' := #[true, true, true, true, true, true, true, true, true, false, false, false, false, false, false, false, false, false, false, false, false, false]) rfl (by kernel_rfl) (by kernel_rfl) (by kernel_rfl) rfl rfl rfl (fun h' e => OpP.load H.ag3 rfl (e.cell hMt (hrow 1 _ rfl))) rfl ?_
            refine RD.takeS 9 (listed' := #[true, true, true, true, true, true, true, true, true, true, false, false, false, false, false, false, false, false, false, false, false, false]) rfl (by kernel_rfl) (by kernel_rfl) (by kernel_rfl) rfl rfl rfl (fun h' e => OpP.move rfl) rfl ?_
            refine RD.takeS 10 (listed' := #[true, true, true, true, true, true, true, true, true, true, true, false, false, false, false, false, false, false, false, false, false, false]) rfl (by kernel_rfl) (by kernel_rfl) (by kernel_rfl) rfl rfl rfl (fun h' e => OpP.sub64 rfl rfl ⟨by omega, by omega⟩) rfl ?_
            refine RD.takeS 11 (listed' := #[true, true, true, true, true, true, true, true, true, true, true, true, false, false, false, false, false, false, false, false, false, false]) rfl (by kernel_rfl) (by kernel_rfl) (by kernel_rfl) rfl rfl rfl (fun h' e => OpP.loadRowN H.ag23 H.sz23 rfl (e.rowAt hMs kS.row) (by first | rfl | simp)) rfl ?_
            rw [bs_drop]
            refine RD.threeS 12 17 18 (li := #[true, true, true, true, true, true, true, true, true, true, true, true, true, false, false, false, false, false, false, false, false, false]) (lj := #[true, true, true, true, true, true, true, true, true, true, true, true, false, false, false, false, false, true, false, false, false, false]) (lk := #[true, true, true, true, true, true, true, true, true, true, true, true, false, false, false, false, false, false, true, false, false, false]) rfl rfl rfl (by kernel_rfl) rfl rfl rfl rfl rfl rfl rfl rfl rfl (OpX.call (vs := [_, _, _, _]) Tryd.func8 rfl H.nm8 rfl (CallsH.toX (hone _ (Ext.refl _ _)))) (OpX.allocN H.zr27) (OpX.allocN H.zr23) rfl rfl rfl ?_ ?_ ?_
            · rintro _ w1 ⟨rfl, e1⟩
              refine ⟨fun _ => e1.of, ?_⟩
              refine RD.takeS 13 (listed' := #[true, true, true, true, true, true, true, true, true, true, true, true, true, true, false, false, false, false, false, false, false, false]) rfl (by kernel_rfl) (by kernel_rfl) (by kernel_rfl) rfl rfl rfl (fun h' e => OpP.move rfl) rfl ?_
              refine RD.takeS 14 (listed' := #[true, true, true, true, true, true, true, true, true, true, true, true, true, true, true, false, false, false, false, false, false, false]) rfl (by kernel_rfl) (by kernel_rfl) (by kernel_rfl) rfl rfl rfl (fun h' e => OpP.extract rfl rfl) rfl ?_
              refine RD.takeS 15 (listed' := #[true, true, true, true, true, true, true, true, true, true, true, true, true, true, true, true, false, false, false, false, false, false]) rfl (by kernel_rfl) (by kernel_rfl) (by kernel_rfl) rfl rfl rfl (fun h' e => OpP.extract rfl rfl) rfl ?_
              refine RD.takeS 16 (listed' := #[true, true, true, true, true, true, true, true, true, true, true, true, true, true, true, true, true, false, false, false, false, false]) rfl (by kernel_rfl) (by kernel_rfl) (by kernel_rfl) rfl rfl rfl (fun h' e => OpP.extract rfl rfl) rfl ?_
              refine RD.twoS 17 18 (li := #[true, true, true, true, true, true, true, true, true, true, true, true, true, true, true, true, true, true, false, false, false, false]) (lj := #[true, true, true, true, true, true, true, true, true, true, true, true, true, true, true, true, true, false, true, false, false, false]) rfl rfl (by kernel_rfl) rfl rfl rfl rfl rfl rfl (OpX.allocN H.zr27) (OpX.allocN H.zr23) rfl rfl ?_ ?_
              · rintro _ w2 ⟨rfl, c7, e2, y2⟩
                refine ⟨fun _ => e2.of, ?_⟩
                refine RD.oneS 18 (listed' := #[true, true, true, true, true, true, true, true, true, true, true, true, true, true, true, true, true, true, true, false, false, false]) rfl (by kernel_rfl) rfl rfl rfl (OpX.allocN H.zr23) rfl ?_
                rintro _ w3 ⟨rfl, c8, e3, y3⟩
                refine ⟨fun _ => e3.of, ?_⟩
                have z1 := e1.size
                have z2 := e2.size
                have z3 := e3.size
                refine RD.one0 19 (listed' := #[true, true, true, true, true, true, true, true, true, true, true, true, true, true, true, true, true, true, true, true, false, false]) rfl (by kernel_rfl) rfl rfl (OpX.storeBlk H.sz27 rfl rfl (c7.ext0 e3) (by first | rfl | simp) (by first | decide | exact of_decide_eq_true rfl | (simp; done) | (simp; omega)) (tk_one _)) rfl ?_
                rintro _ w4 ⟨rfl, d7, x4', y4'⟩
                refine ⟨fun _ => x4'.mono (fun b _ k => by have k : b = w1.size := k; omega), ?_⟩
                refine RD.one0 20 (listed' := #[true, true, true, true, true, true, true, true, true, true, true, true, true, true, true, true, true, true, true, true, true, false]) rfl (by kernel_rfl) rfl rfl (OpX.storeBlk H.sz23 rfl rfl ((c8).ext x4' (show ¬ w2.size = w1.size by omega)) (by first | rfl | simp) (by first | decide | exact of_decide_eq_true rfl | (simp; done) | (simp; omega)) (lst_one _)) rfl ?_
                rintro _ w5 ⟨rfl, d8, x5, y5⟩
                refine ⟨fun _ => x5.mono (fun b _ k => by have k : b = w2.size := k; omega), ?_⟩
                refine RD.takeS 21 (listed' := #[true, true, true, true, true, true, true, true, true, true, true, true, true, true, true, true, true, true, true, true, true, true]) rfl (by kernel_rfl) (by kernel_rfl) (by kernel_rfl) rfl rfl rfl (fun h' e => OpP.assign rfl) rfl ?_
                refine RD.done (by kernel_rfl) ?_
                exact ⟨(w1.size, w2.size), one_leaf ((e1.trans e2).trans e3) (by omega) (by omega) (by omega) x4' x5 d7 d8, rfl, rfl, rfl, rfl, rfl, rfl, rfl, rfl, rfl, rfl, trivial⟩
              · rintro _ w2 ⟨rfl, c8, e2, y2⟩
                refine ⟨fun _ => e2.of, ?_⟩
                refine RD.oneS 17 (listed' := #[true, true, true, true, true, true, true, true, true, true, true, true, true, true, true, true, true, true, true, false, false, false]) rfl (by kernel_rfl) rfl rfl rfl (OpX.allocN H.zr27) rfl ?_
                rintro _ w3 ⟨rfl, c7, e3, y3⟩
                refine ⟨fun _ => e3.of, ?_⟩
                have z1 := e1.size
                have z2 := e2.size
                have z3 := e3.size
                refine RD.one0 19 (listed' := #[true, true, true, true, true, true, true, true, true, true, true, true, true, true, true, true, true, true, true, true, false, false]) rfl (by kernel_rfl) rfl rfl (OpX.storeBlk H.sz27 rfl rfl (c7) (by first | rfl | simp) (by first | decide | exact of_decide_eq_true rfl | (simp; done) | (simp; omega)) (tk_one _)) rfl ?_
                rintro _ w4 ⟨rfl, d7, x4', y4'⟩
                refine ⟨fun _ => x4'.mono (fun b _ k => by have k : b = w2.size := k; omega), ?_⟩
                refine RD.one0 20 (listed' := #[true, true, true, true, true, true, true, true, true, true, true, true, true, true, true, true, true, true, true, true, true, false]) rfl (by kernel_rfl) rfl rfl (OpX.storeBlk H.sz23 rfl rfl ((c8.ext0 e3).ext x4' (show ¬ w1.size = w2.size by omega)) (by first | rfl | simp) (by first | decide | exact of_decide_eq_true rfl | (simp; done) | (simp; omega)) (lst_one _)) rfl ?_
                rintro _ w5 ⟨rfl, d8, x5, y5⟩
                refine ⟨fun _ => x5.mono (fun b _ k => by have k : b = w1.size := k; omega), ?_⟩
                refine RD.takeS 21 (listed' := #[true, true, true, true, true, true, true, true, true, true, true, true, true, true, true, true, true, true, true, true, true, true]) rfl (by kernel_rfl) (by kernel_rfl) (by kernel_rfl) rfl rfl rfl (fun h' e => OpP.assign rfl) rfl ?_
                refine RD.done (by kernel_rfl) ?_
                exact ⟨(w2.size, w1.size), one_leaf ((e1.trans e2).trans e3) (by omega) (by omega) (by omega) x4' x5 d7 d8, rfl, rfl, rfl, rfl, rfl, rfl, rfl, rfl, rfl, rfl, trivial⟩
            · rintro _ w1 ⟨rfl, c7, e1, y1⟩
              refine ⟨fun _ => e1.of, ?_⟩
              refine RD.twoS 12 18 (li := #[true, true, true, true, true, true, true, true, true, true, true, true, true, false, false, false, false, true, false, false, false, false]) (lj := #[true, true, true, true, true, true, true, true, true, true, true, true, false, false, false, false, false, true, true, false, false, false]) rfl rfl (by kernel_rfl) rfl rfl rfl rfl rfl rfl (OpX.call (vs := [_, _, _, _]) Tryd.func8 rfl H.nm8 rfl (CallsH.toX (hone _ e1))) (OpX.allocN H.zr23) rfl rfl ?_ ?_
              · rintro _ w2 ⟨rfl, e2⟩
                refine ⟨fun _ => e2.of, ?_⟩
                refine RD.takeS 13 (listed' := #[true, true, true, true, true, true, true, true, true, true, true, true, true, true, false, false, false, true, false, false, false, false]) rfl (by kernel_rfl) (by kernel_rfl) (by kernel_rfl) rfl rfl rfl (fun h' e => OpP.move rfl) rfl ?_
                refine RD.takeS 14 (listed' := #[true, true, true, true, true, true, true, true, true, true, true, true, true, true, true, false, false, true, false, false, false, false]) rfl (by kernel_rfl) (by kernel_rfl) (by kernel_rfl) rfl rfl rfl (fun h' e => OpP.extract rfl rfl) rfl ?_
                refine RD.takeS 15 (listed' := #[true, true, true, true, true, true, true, true, true, true, true, true, true, true, true, true, false, true, false, false, false, false]) rfl (by kernel_rfl) (by kernel_rfl) (by kernel_rfl) rfl rfl rfl (fun h' e => OpP.extract rfl rfl) rfl ?_
                refine RD.takeS 16 (listed' := #[true, true, true, true, true, true, true, true, true, true, true, true, true, true, true, true, true, true, false, false, false, false]) rfl (by kernel_rfl) (by kernel_rfl) (by kernel_rfl) rfl rfl rfl (fun h' e => OpP.extract rfl rfl) rfl ?_
                refine RD.oneS 18 (listed' := #[true, true, true, true, true, true, true, true, true, true, true, true, true, true, true, true, true, true, true, false, false, false]) rfl (by kernel_rfl) rfl rfl rfl (OpX.allocN H.zr23) rfl ?_
                rintro _ w3 ⟨rfl, c8, e3, y3⟩
                refine ⟨fun _ => e3.of, ?_⟩
                have z1 := e1.size
                have z2 := e2.size
                have z3 := e3.size
                refine RD.one0 19 (listed' := #[true, true, true, true, true, true, true, true, true, true, true, true, true, true, true, true, true, true, true, true, false, false]) rfl (by kernel_rfl) rfl rfl (OpX.storeBlk H.sz27 rfl rfl ((c7.ext0 e2).ext0 e3) (by first | rfl | simp) (by first | decide | exact of_decide_eq_true rfl | (simp; done) | (simp; omega)) (tk_one _)) rfl ?_
                rintro _ w4 ⟨rfl, d7, x4', y4'⟩
                refine ⟨fun _ => x4'.mono (fun b _ k => by have k : b = g.size := k; omega), ?_⟩
                refine RD.one0 20 (listed' := #[true, true, true, true, true, true, true, true, true, true, true, true, true, true, true, true, true, true, true, true, true, false]) rfl (by kernel_rfl) rfl rfl (OpX.storeBlk H.sz23 rfl rfl ((c8).ext x4' (show ¬ w2.size = g.size by omega)) (by first | rfl | simp) (by first | decide | exact of_decide_eq_true rfl | (simp; done) | (simp; omega)) (lst_one _)) rfl ?_
                rintro _ w5 ⟨rfl, d8, x5, y5⟩
                refine ⟨fun _ => x5.mono (fun b _ k => by have k : b = w2.size := k; omega), ?_⟩
                refine RD.takeS 21 (listed' := #[true, true, true, true, true, true, true, true, true, true, true, true, true, true, true, true, true, true, true, true, true, true]) rfl (by kernel_rfl) (by kernel_rfl) (by kernel_rfl) rfl rfl rfl (fun h' e => OpP.assign rfl) rfl ?_
                refine RD.done (by kernel_rfl) ?_
                exact ⟨(g.size, w2.size), one_leaf ((e1.trans e2).trans e3) (by omega) (by omega) (by omega) x4' x5 d7 d8, rfl, rfl, rfl, rfl, rfl, rfl, rfl, rfl, rfl, rfl, trivial⟩
              · rintro _ w2 ⟨rfl, c8, e2, y2⟩
                refine ⟨fun _ => e2.of, ?_⟩
                refine RD.oneS 12 (listed' := #[true, true, true, true, true, true, true, true, true, true, true, true, true, false, false, false, false, true, true, false, false, false]) rfl (by kernel_rfl) rfl rfl rfl (OpX.call (vs := [_, _, _, _]) Tryd.func8 rfl H.nm8 rfl (CallsH.toX (hone _ (e1.trans e2)))) rfl ?_
                rintro _ w3 ⟨rfl, e3⟩
                refine ⟨fun _ => e3.of, ?_⟩
                have z1 := e1.size
                have z2 := e2.size
                have z3 := e3.size
                refine RD.takeS 13 (listed' := #[true, true, true, true, true, true, true, true, true, true, true, true, true, true, false, false, false, true, true, false, false, false]) rfl (by kernel_rfl) (by kernel_rfl) (by kernel_rfl) rfl rfl rfl (fun h' e => OpP.move rfl) rfl ?_
                refine RD.takeS 14 (listed' := #[true, true, true, true, true, true, true, true, true, true, true, true, true, true, true, false, false, true, true, false, false, false]) rfl (by kernel_rfl) (by kernel_rfl) (by kernel_rfl) rfl rfl rfl (fun h' e => OpP.extract rfl rfl) rfl ?_
                refine RD.takeS 15 (listed' := #[true, true, true, true, true, true, true, true, true, true, true, true, true, true, true, true, false, true, true, false, false, false]) rfl (by kernel_rfl) (by kernel_rfl) (by kernel_rfl) rfl rfl rfl (fun h' e => OpP.extract rfl rfl) rfl ?_
                refine RD.takeS 16 (listed' := #[true, true, true, true, true, true, true, true, true, true, true, true, true, true, true, true, true, true, true, false, false, false]) rfl (by kernel_rfl) (by kernel_rfl) (by kernel_rfl) rfl rfl rfl (fun h' e => OpP.extract rfl rfl) rfl ?_
                refine RD.one0 19 (listed' := #[true, true, true, true, true, true, true, true, true, true, true, true, true, true, true, true, true, true, true, true, false, false]) rfl (by kernel_rfl) rfl rfl (OpX.storeBlk H.sz27 rfl rfl ((c7.ext0 e2).ext0 e3) (by first | rfl | simp) (by first | decide | exact of_decide_eq_true rfl | (simp; done) | (simp; omega)) (tk_one _)) rfl ?_
                rintro _ w4 ⟨rfl, d7, x4', y4'⟩
                refine ⟨fun _ => x4'.mono (fun b _ k => by have k : b = g.size := k; omega), ?_⟩
                refine RD.one0 20 (listed' := #[true, true, true, true, true, true, true, true, true, true, true, true, true, true, true, true, true, true, true, true, true, false]) rfl (by kernel_rfl) rfl rfl (OpX.storeBlk H.sz23 rfl rfl ((c8.ext0 e3).ext x4' (show ¬ w1.size = g.size by omega)) (by first | rfl | simp) (by first | decide | exact of_decide_eq_true rfl | (simp; done) | (simp; omega)) (lst_one _)) rfl ?_
                rintro _ w5 ⟨rfl, d8, x5, y5⟩
                refine ⟨fun _ => x5.mono (fun b _ k => by have k : b = w1.size := k; omega), ?_⟩
                refine RD.takeS 21 (listed' := #[true, true, true, true, true, true, true, true, true, true, true, true, true, true, true, true, true, true, true, true, true, true]) rfl (by kernel_rfl) (by kernel_rfl) (by kernel_rfl) rfl rfl rfl (fun h' e => OpP.assign rfl) rfl ?_
                refine RD.done (by kernel_rfl) ?_
                exact ⟨(g.size, w1.size), one_leaf ((e1.trans e2).trans e3) (by omega) (by omega) (by omega) x4' x5 d7 d8, rfl, rfl, rfl, rfl, rfl, rfl, rfl, rfl, rfl, rfl, trivial⟩
            · rintro _ w1 ⟨rfl, c8, e1, y1⟩
              refine ⟨fun _ => e1.of, ?_⟩
              refine RD.twoS 12 17 (li := #[true, true, true, true, true, true, true, true, true, true, true, true, true, false, false, false, false, false, true, false, false, false]) (lj := #[true, true, true, true, true, true, true, true, true, true, true, true, false, false, false, false, false, true, true, false, false, false]) rfl rfl (by kernel_rfl) rfl rfl rfl rfl rfl rfl (OpX.call (vs := [_, _, _, _]) Tryd.func8 rfl H.nm8 rfl (CallsH.toX (hone _ e1))) (OpX.allocN H.zr27) rfl rfl ?_ ?_
              · rintro _ w2 ⟨rfl, e2⟩
                refine ⟨fun _ => e2.of, ?_⟩
                refine RD.takeS 13 (listed' := #[true, true, true, true, true, true, true, true, true, true, true, true, true, true, false, false, false, false, true, false, false, false]) rfl (by kernel_rfl) (by kernel_rfl) (by kernel_rfl) rfl rfl rfl (fun h' e => OpP.move rfl) rfl ?_
                refine RD.takeS 14 (listed' := #[true, true, true, true, true, true, true, true, true, true, true, true, true, true, true, false, false, false, true, false, false, false]) rfl (by kernel_rfl) (by kernel_rfl) (by kernel_rfl) rfl rfl rfl (fun h' e => OpP.extract rfl rfl) rfl ?_
                refine RD.takeS 15 (listed' := #[true, true, true, true, true, true, true, true, true, true, true, true, true, true, true, true, false, false, true, false, false, false]) rfl (by kernel_rfl) (by kernel_rfl) (by kernel_rfl) rfl rfl rfl (fun h' e => OpP.extract rfl rfl) rfl ?_
                refine RD.takeS 16 (listed' := #[true, true, true, true, true, true, true, true, true, true, true, true, true, true, true, true, true, false, true, false, false, false]) rfl (by kernel_rfl) (by kernel_rfl) (by kernel_rfl) rfl rfl rfl (fun h' e => OpP.extract rfl rfl) rfl ?_
                refine RD.oneS 17 (listed' := #[true, true, true, true, true, true, true, true, true, true, true, true, true, true, true, true, true, true, true, false, false, false]) rfl (by kernel_rfl) rfl rfl rfl (OpX.allocN H.zr27) rfl ?_
                rintro _ w3 ⟨rfl, c7, e3, y3⟩
                refine ⟨fun _ => e3.of, ?_⟩
                have z1 := e1.size
                have z2 := e2.size
                have z3 := e3.size
                refine RD.one0 19 (listed' := #[true, true, true, true, true, true, true, true, true, true, true, true, true, true, true, true, true, true, true, true, false, false]) rfl (by kernel_rfl) rfl rfl (OpX.storeBlk H.sz27 rfl rfl (c7) (by first | rfl | simp) (by first | decide | exact of_decide_eq_true rfl | (simp; done) | (simp; omega)) (tk_one _)) rfl ?_
                rintro _ w4 ⟨rfl, d7, x4', y4'⟩
                refine ⟨fun _ => x4'.mono (fun b _ k => by have k : b = w2.size := k; omega), ?_⟩
                refine RD.one0 20 (listed' := #[true, true, true, true, true, true, true, true, true, true, true, true, true, true, true, true, true, true, true, true, true, false]) rfl (by kernel_rfl) rfl rfl (OpX.storeBlk H.sz23 rfl rfl (((c8.ext0 e2).ext0 e3).ext x4' (show ¬ g.size = w2.size by omega)) (by first | rfl | simp) (by first | decide | exact of_decide_eq_true rfl | (simp; done) | (simp; omega)) (lst_one _)) rfl ?_
                rintro _ w5 ⟨rfl, d8, x5, y5⟩
                refine ⟨fun _ => x5.mono (fun b _ k => by have k : b = g.size := k; omega), ?_⟩
                refine RD.takeS 21 (listed' := #[true, true, true, true, true, true, true, true, true, true, true, true, true, true, true, true, true, true, true, true, true, true]) rfl (by kernel_rfl) (by kernel_rfl) (by kernel_rfl) rfl rfl rfl (fun h' e => OpP.assign rfl) rfl ?_
                refine RD.done (by kernel_rfl) ?_
                exact ⟨(w2.size, g.size), one_leaf ((e1.trans e2).trans e3) (by omega) (by omega) (by omega) x4' x5 d7 d8, rfl, rfl, rfl, rfl, rfl, rfl, rfl, rfl, rfl, rfl, trivial⟩
              · rintro _ w2 ⟨rfl, c7, e2, y2⟩
                refine ⟨fun _ => e2.of, ?_⟩
                refine RD.oneS 12 (listed' := #[true, true, true, true, true, true, true, true, true, true, true, true, true, false, false, false, false, true, true, false, false, false]) rfl (by kernel_rfl) rfl rfl rfl (OpX.call (vs := [_, _, _, _]) Tryd.func8 rfl H.nm8 rfl (CallsH.toX (hone _ (e1.trans e2)))) rfl ?_
                rintro _ w3 ⟨rfl, e3⟩
                refine ⟨fun _ => e3.of, ?_⟩
                have z1 := e1.size
                have z2 := e2.size
                have z3 := e3.size
                refine RD.takeS 13 (listed' := #[true, true, true, true, true, true, true, true, true, true, true, true, true, true, false, false, false, true, true, false, false, false]) rfl (by kernel_rfl) (by kernel_rfl) (by kernel_rfl) rfl rfl rfl (fun h' e => OpP.move rfl) rfl ?_
                refine RD.takeS 14 (listed' := #[true, true, true, true, true, true, true, true, true, true, true, true, true, true, true, false, false, true, true, false, false, false]) rfl (by kernel_rfl) (by kernel_rfl) (by kernel_rfl) rfl rfl rfl (fun h' e => OpP.extract rfl rfl) rfl ?_
                refine RD.takeS 15 (listed' := #[true, true, true, true, true, true, true, true, true, true, true, true, true, true, true, true, false, true, true, false, false, false]) rfl (by kernel_rfl) (by kernel_rfl) (by kernel_rfl) rfl rfl rfl (fun h' e => OpP.extract rfl rfl) rfl ?_
                refine RD.takeS 16 (listed' := #[true, true, true, true, true, true, true, true, true, true, true, true, true, true, true, true, true, true, true, false, false, false]) rfl (by kernel_rfl) (by kernel_rfl) (by kernel_rfl) rfl rfl rfl (fun h' e => OpP.extract rfl rfl) rfl ?_
                refine RD.one0 19 (listed' := #[true, true, true, true, true, true, true, true, true, true, true, true, true, true, true, true, true, true, true, true, false, false]) rfl (by kernel_rfl) rfl rfl (OpX.storeBlk H.sz27 rfl rfl (c7.ext0 e3) (by first | rfl | simp) (by first | decide | exact of_decide_eq_true rfl | (simp; done) | (simp; omega)) (tk_one _)) rfl ?_
                rintro _ w4 ⟨rfl, d7, x4', y4'⟩
                refine ⟨fun _ => x4'.mono (fun b _ k => by have k : b = w1.size := k; omega), ?_⟩
                refine RD.one0 20 (listed' := #[true, true, true, true, true, true, true, true, true, true, true, true, true, true, true, true, true, true, true, true, true, false]) rfl (by kernel_rfl) rfl rfl (OpX.storeBlk H.sz23 rfl rfl (((c8.ext0 e2).ext0 e3).ext x4' (show ¬ g.size = w1.size by omega)) (by first | rfl | simp) (by first | decide | exact of_decide_eq_true rfl | (simp; done) | (simp; omega)) (lst_one _)) rfl ?_
                rintro _ w5 ⟨rfl, d8, x5, y5⟩
                refine ⟨fun _ => x5.mono (fun b _ k => by have k : b = g.size := k; omega), ?_⟩
                refine RD.takeS 21 (listed' := #[true, true, true, true, true, true, true, true, true, true, true, true, true, true, true, true, true, true, true, true, true, true]) rfl (by kernel_rfl) (by kernel_rfl) (by kernel_rfl) rfl rfl rfl (fun h' e => OpP.assign rfl) rfl ?_
                refine RD.done (by kernel_rfl) ?_
                exact ⟨(w1.size, g.size), one_leaf ((e1.trans e2).trans e3) (by omega) (by omega) (by omega) x4' x5 d7 d8, rfl, rfl, rfl, rfl, rfl, rfl, rfl, rfl, rfl, rfl, trivial⟩
          · rintro ⟨b1, b2⟩ g5 ⟨d7, d8, eg5, hb1, hb2, hbn⟩
            have kS5 := kS.ext0 eg5
            have hrow5 : Lw.rowAt g5 bb (o + j * 3) (encTk (kd, (c : Int), ((c + L : Nat) : Int))) := eg5.rowAt (fun k => k) hrow
            have hfr : (kd, (c : Int) - (a : Int), (c : Int) - (a : Int) + L).2.1 = (c : Int) - a := rfl
            have hft : (kd, (c : Int) - (a : Int), (c : Int) - (a : Int) + L).2.2 = (c : Int) - a + L := rfl
            refine G.seq rfl ?_
            refine G.seq rfl ?_
            refine G.drawQTo1 [(123, .bool false)] [(0, _), (4, _), (5, _), (6, _), (9, _), (14, _), (15, _), (16, _), (17, _), (72, _)] ⟨rfl, rfl, rfl, rfl, rfl, rfl, rfl, rfl, rfl, rfl, trivial⟩ Tryd.func6 H.mixed rfl (by kernel_rfl) ?_ ?_
            · refine RQ.pureS rfl rfl rfl rfl (OpP.fieldAddr (off := 0) Tryd.underlying27 rfl rfl H.sz3 rfl) ?_
              refine RQ.pureS rfl rfl rfl rfl (OpP.load H.ag3 rfl (d7.cell (i := 0) rfl)) ?_
              refine RQ.pureS rfl rfl rfl rfl (OpP.move rfl) ?_
              refine RQ.pureS rfl rfl rfl rfl (OpP.move rfl) ?_
              refine RQ.pureS rfl rfl rfl rfl (OpP.indexSlice Tryd.underlying30 H.sz27 rfl rfl j rfl ta' hjn) ?_
              refine RQ.pureS rfl rfl rfl rfl (OpP.fieldAddr (off := 0) Tryd.underlying27 rfl rfl H.sz3 rfl) ?_
              refine RQ.pureS rfl rfl rfl rfl (OpP.load H.ag3 rfl (hrow5 0 _ rfl)) ?_
              refine RQ.pureS rfl rfl rfl rfl (OpP.neqInt rfl rfl) ?_
              refine RQ.pureS rfl rfl rfl rfl (OpP.move rfl) ?_
              refine RQ.know (d := 100) (b' := false) rfl (by simp) ?_
              refine RQ.pureS rfl rfl rfl rfl (OpP.fieldAddr (off := 1) Tryd.underlying27 rfl rfl H.sz3 rfl) ?_
              refine RQ.pureS rfl rfl rfl rfl (OpP.load H.ag3 rfl (d7.cell (i := 1) rfl)) ?_
              refine RQ.pureS rfl rfl rfl rfl (OpP.move rfl) ?_
              refine RQ.pureS rfl rfl rfl rfl (OpP.add64 rfl rfl ⟨by omega, by omega⟩) ?_
              refine RQ.pureS rfl rfl rfl rfl (OpP.move rfl) ?_
              refine RQ.pureS rfl rfl rfl rfl (OpP.move rfl) ?_
              refine RQ.pureS rfl rfl rfl rfl (OpP.indexSlice Tryd.underlying30 H.sz27 rfl rfl j rfl ta' hjn) ?_
              refine RQ.pureS rfl rfl rfl rfl (OpP.fieldAddr (off := 1) Tryd.underlying27 rfl rfl H.sz3 rfl) ?_
              refine RQ.pureS rfl rfl rfl rfl (OpP.load H.ag3 rfl (hrow5 1 _ rfl)) ?_
              refine RQ.pureS rfl rfl rfl rfl (OpP.neqInt rfl rfl) ?_
              refine RQ.pureS rfl rfl rfl rfl (OpP.pickF rfl rfl) ?_
              refine RQ.pureS rfl rfl rfl rfl (OpP.move rfl) ?_
              refine RQ.know (d := 112) (b' := false) rfl (by simp) ?_
              refine RQ.pureS rfl rfl rfl rfl (OpP.fieldAddr (off := 2) Tryd.underlying27 rfl rfl H.sz3 rfl) ?_
              refine RQ.pureS rfl rfl rfl rfl (OpP.load H.ag3 rfl (d7.cell (i := 2) rfl)) ?_
              refine RQ.pureS rfl rfl rfl rfl (OpP.move rfl) ?_
              refine RQ.pureS rfl rfl rfl rfl (OpP.add64 rfl rfl ⟨by omega, by omega⟩) ?_
              refine RQ.pureS rfl rfl rfl rfl (OpP.move rfl) ?_
              refine RQ.pureS rfl rfl rfl rfl (OpP.move rfl) ?_
              refine RQ.pureS rfl rfl rfl rfl (OpP.indexSlice Tryd.underlying30 H.sz27 rfl rfl j rfl ta' hjn) ?_
              refine RQ.pureS rfl rfl rfl rfl (OpP.fieldAddr (off := 2) Tryd.underlying27 rfl rfl H.sz3 rfl) ?_
              refine RQ.pureS rfl rfl rfl rfl (OpP.load H.ag3 rfl (hrow5 2 _ rfl)) ?_
              refine RQ.pureS rfl rfl rfl rfl (OpP.neqInt rfl rfl) ?_
              refine RQ.pureS rfl rfl rfl rfl (OpP.pickF rfl rfl) ?_
              refine RQ.done rfl ?_
              exact ⟨rfl, at_bool rfl (by simp; omega), rfl, rfl, rfl, rfl, rfl, rfl, rfl, rfl, rfl, rfl, trivial⟩
            · refine G.cond rfl rfl (fun hc => absurd hc (by decide)) (fun _ => ?_)
              refine G.skip rfl ?_
              refine G.reg Tryd.func6 rfl ?_
              refine xp rfl (OpP.loadRowN H.ag23 H.sz23 rfl d8.row (by first | rfl | simp)) ?_
              refine RW.op0 rfl rfl rfl (OpX.storeBlk H.sz23 rfl rfl kS5 (by first | rfl | simp) (by first | decide | exact of_decide_eq_true rfl | (simp; done) | (simp; omega)) (lst_one nx)) ?_
              rintro _ g7 ⟨rfl, kS7, x7, y7⟩
              refine xd [0, 4, 5, 6, 9, 14, 15, 16, 17, 72, 123] rfl ?_
              refine G.blkEnd ?_
              refine G.reg Tryd.func6 rfl ?_
              refine xq rfl ?_
              refine xp rfl (OpP.add64 rfl rfl ⟨by omega, by omega⟩) ?_
              refine xq rfl ?_
              refine xd [0, 4, 5, 6, 9, 14, 15, 16, 17, 72, 123] rfl ?_
              have kS7 : Blk g7 h4.size 23 (encLSt nx) := kS7
              exact ih (j + 1, c + L, nx) _ _ ⟨rfl, rfl, rfl, rfl, rfl, rfl, rfl, trivial⟩ ⟨by show j + 1 ≤ tn; omega, ⟨by show a ≤ c + L; omega, by show c + L ≤ s.length; omega⟩, hnI, Ext0.only (e4g.trans eg5) x7 (Nat.le_refl _), kS7, hr1⟩ (by show tn - (j + 1) < tn - j; omega)
        · refine G.exit rfl rfl ?_
          refine xr Tryd.func6 rfl ?_
          refine xo rfl (OpX.call (vs := []) Tryd.func7 rfl H.nm7 rfl (CallsH.toX (taken_calls (hg.ext0 eg)))) ?_
          rintro _ h9 ⟨rfl, e9⟩
          refine xq rfl ?_
          refine xd [0, 4, 5, 6, 9, 14, 15, 72] rfl ?_
          refine G.ret Tryd.func6 rfl rfl ?_
          exact ⟨_, rfl, rfl, eg.trans e9⟩
end Go.Proofs.YthiojfjndphkbaaDoor
