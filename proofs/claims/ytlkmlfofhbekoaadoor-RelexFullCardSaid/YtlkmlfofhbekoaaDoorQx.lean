/- Plain words, the logic of walks, and walks that the statement's proof leans on (part 24). -/
import Derived.Below
import Derived.Lib.TrimUEq
import Derived.Test.YtlkmlfofhbekoaaDoorQa
import Derived.Test.YtlkmlfofhbekoaaDoorQb
import Derived.Test.YtlkmlfofhbekoaaDoorQc
import Derived.Test.YtlkmlfofhbekoaaDoorQd
import Derived.Test.YtlkmlfofhbekoaaDoorQe
import Derived.Test.YtlkmlfofhbekoaaDoorQf
import Derived.Test.YtlkmlfofhbekoaaDoorQg
import Derived.Test.YtlkmlfofhbekoaaDoorQh
import Derived.Test.YtlkmlfofhbekoaaDoorQi
import Derived.Test.YtlkmlfofhbekoaaDoorQj
import Derived.Test.YtlkmlfofhbekoaaDoorQk
import Derived.Test.YtlkmlfofhbekoaaDoorQl
import Derived.Test.YtlkmlfofhbekoaaDoorQm
import Derived.Test.YtlkmlfofhbekoaaDoorQn
import Derived.Test.YtlkmlfofhbekoaaDoorQo
import Derived.Test.YtlkmlfofhbekoaaDoorQp
import Derived.Test.YtlkmlfofhbekoaaDoorQq
import Derived.Test.YtlkmlfofhbekoaaDoorQr
import Derived.Test.YtlkmlfofhbekoaaDoorQs
import Derived.Test.YtlkmlfofhbekoaaDoorQt
import Derived.Test.YtlkmlfofhbekoaaDoorQu
import Derived.Test.YtlkmlfofhbekoaaDoorQv
import Derived.Test.YtlkmlfofhbekoaaDoorQw

namespace Go.Proofs.YtlkmlfofhbekoaaDoor
open Go Go.Lw
set_option maxRecDepth 20000
def Utf8H (h : Heap) : Prop := (∀ c, c < 256 → cellAt h ⟨1, c, none⟩ = some (.int .u8 (Lib.firstT c))) ∧
 (∀ i, i < 16 → cellAt h ⟨2, 2 * i, none⟩ = some (.int .u8 (Lib.accLo i)) ∧ cellAt h ⟨2, 2 * i + 1, none⟩ = some (.int .u8 (Lib.accHi i)))
structure LxG (h : Heap) : Prop where
 sg : ∃ lim, lim ≤ h.size ∧ Sg h lim
 tens : Tens h
 rules : RulesAt h
 utf : Utf8H h
 most : ∃ m, cellAt h ⟨4, 0, none⟩ = some (.int .i64 m)
theorem LxG.ext0 {h h' : Heap} (k : LxG h) (e : Ext0 h h') : LxG h' := by
 obtain ⟨⟨lim, h1, h2⟩, h3, h4, h5, m, h6⟩ := k
 have hz := e.size
 exact ⟨⟨lim, by omega, h2.ext e (fun _ k => k.elim)⟩, h3.ext0 e, h4.ext0 e, ⟨fun c hc => e.cell (fun k => k) (h5.1 c hc), fun i hi => ⟨e.cell (fun k => k) (h5.2 i hi).1, e.cell (fun k => k) (h5.2 i hi).2⟩⟩, m, e.cell (fun k => k) h6⟩
theorem decode_calls {h : Heap} (hg : LxG h) (l : By) (hl : l ≠ []) : CallsH Tryd.prog 64 #[.string (bs l)] h (Ret fun r h' => (∃ x : Nat, r = .tuple #[.int .i32 (x : Nat), .int .i64 (runeN l : Nat)]) ∧ Ext0 h h') := by
 refine CallsH.ofBelow fun w hw => ?_
 subst hw
 have hT : Lib.Utf8Tabs 1 2 w := ⟨fun c hc => by rw [cell_heap]; exact hg.utf.1 c hc, fun i hi => ⟨by rw [cell_heap]; exact (hg.utf.2 i hi).1, by rw [cell_heap]; exact (hg.utf.2 i hi).2⟩⟩
 refine (Tryd.utf8_DecodeRuneInString (bs l) w hT).mono ?_
 rintro e w' ⟨rfl, hb⟩
 have hn : (Lib.decodeGo (bs l)).2 = runeN l := by
  have h0 : ¬ (bs l).size = 0 := by rw [bs_size]; have := List.length_pos_iff.2 hl; omega
  unfold Lib.decodeGo
  rw [if_neg h0, Lib.decode_N, bs_list]
  rfl
 refine ⟨_, rfl, ⟨⟨(Lib.decodeGo (bs l)).1, by rw [hn]⟩, ⟨hb.size, fun b hlt _ => hb.block b hlt⟩⟩, hb.os, hb.tape, hb.output⟩
theorem contains_calls {h : Heap} (hg : LxG h) (s t : By) (hs : s.length ≤ 1000000) : CallsH Tryd.prog 66 #[.string (bs s), .string (bs t)] h (Ret fun r h' => r = .bool (Lib.contains s t) ∧ h' = h) := by
 obtain ⟨m, hm⟩ := hg.most
 refine CallsH.ofBelow fun w hw => ?_
 subst hw
 refine (Tryd.strings_Contains (bs s) (bs t) m w (by rw [bs_size]; omega) (by rw [cell_heap]; exact hm)).mono ?_
 rintro e w' ⟨rfl, rfl⟩
 rw [bs_list, bs_list]
 exact ⟨_, rfl, ⟨rfl, rfl⟩, rfl, rfl, rfl⟩
theorem word_calls {h : Heap} (hg : LxG h) (s : By) (hs : s.length ≤ 1000000) : CallsH Tryd.prog 50 #[.string (bs s)] h (Ret fun r h' => r = .bool (wordP s) ∧ h' = h) := by
 have hbs := bs_size s
 have e1 : ((⟨#[32]⟩ : ByteArray) ++ bs s) ++ ⟨#[32]⟩ = bs (32 :: (s ++ [32])) := by
  rw [show (⟨#[32]⟩ : ByteArray) = bs [32] from rfl, bs_append, bs_append]; rfl
 have w1 : (⟨#[32]⟩ : ByteArray).size = 1 := rfl
 refine CallsH.of Tryd.func50 rfl rfl ?_
 refine xrd Tryd.func50 1 [0, 2] rfl ?_
 refine G.seq rfl ?_
 refine G.regTo1 [(2, .bool (wordP s))] [(0, _)] ⟨rfl, trivial⟩ Tryd.func50 rfl ?_ ?_
 · refine xqp 1 rfl rfl (OpP.neqStr rfl rfl) ?_
   refine xqm 1 rfl ?_
   refine RW.split (d := 5) rfl (fun hc => ?_) (fun hc => ?_)
   · have hc' : decide (s ≠ []) = true := decide_eq_true (fun e => of_decide_eq_true hc (by rw [e]; rfl))
     refine xqm 1 rfl ?_
     refine xo rfl (OpX.call (vs := [_, _]) Tryd.func66 rfl H.nm66 rfl (CallsH.toX (contains_calls hg s [32] hs))) ?_
     rintro _ h0 ⟨rfl, hh0⟩
     subst hh0
     refine xqm 3 rfl ?_
     refine RW.split (d := 10) rfl (fun hc2 => ?_) (fun hc2 => ?_)
     · refine xqp 1 rfl rfl (OpP.addStr rfl rfl (by omega)) ?_
       refine xp rfl (OpP.addStr rfl rfl (by rw [ByteArray.size_append]; omega)) ?_
       rw [e1]
       refine xo rfl (OpX.call (vs := [_, _]) Tryd.func66 rfl H.nm66 rfl (CallsH.toX (contains_calls hg wordsB (32 :: (s ++ [32])) (by decide)))) ?_
       rintro _ h1 ⟨rfl, hh1⟩
       subst hh1
       refine xqm 2 rfl ?_
       refine RW.done rfl ?_
       exact ⟨rfl, at_bool rfl (by rw [wordP, hc', hc2, Bool.true_and, Bool.true_and]), rfl, trivial⟩
     · refine xqm 6 rfl ?_
       refine RW.done rfl ?_
       exact ⟨rfl, at_bool rfl (by rw [wordP, hc', hc2, Bool.true_and, Bool.false_and]), rfl, trivial⟩
   · refine xqm 11 rfl ?_
     refine RW.done rfl ?_
     exact ⟨rfl, at_bool rfl (by rw [wordP, decide_eq_false (fun k => of_decide_eq_false hc (fun e => k (bs_inj (m := []) e))), Bool.false_and]), rfl, trivial⟩
 · refine G.ret Tryd.func50 rfl rfl ?_
   exact ⟨_, rfl, rfl, rfl⟩
theorem kindT_row {m : Nat} (hm : m < 3) {i : Nat} : (tabR m)[i]?.map (fun r => (r.2.1, r.2.2)) = (kindT m)[i]? := by
 have h : (tabR m).map (fun r => (r.2.1, r.2.2)) = kindT m := by
  match m, hm with
  | 0, _ => decide
  | 1, _ => decide
  | 2, _ => decide
 rw [← h, List.getElem?_map]
theorem kindT_out {m : Int} (h : m < 0 ∨ 3 ≤ m) : kindT m = [] := by
 unfold kindT
 rw [if_neg (by omega), if_neg (by omega), if_neg (by omega)]
theorem find_leaf {α : Type} {l : List α} {kn : Nat} {n : Int} (hk : l.length = kn) (hn : ¬ n < 0) : decide ((kn : Int) ≤ n) = !(l[n.toNat]?).isSome := by
 cases hq : l[n.toNat]? with
 | none => have := List.getElem?_eq_none_iff.1 hq; simp; omega
 | some v => have := (List.getElem?_eq_some_iff.1 hq).1; simp; omega
theorem find_calls {h : Heap} (hg : LxG h) (m n : Int) : CallsH Tryd.prog 65 #[.int .i64 m, .int .i64 n] h (Ret fun r h' => (∃ x : By × Int × Int, r = .tuple #[.agg (encSII x).toArray, .bool (findT m n).isSome] ∧ ∀ p, findT m n = some p → (x.2.1, x.2.2) = p) ∧ Ext0 h h') := by
 refine CallsH.of Tryd.func65 rfl rfl ?_
 refine xr Tryd.func65 rfl ?_
 refine xo rfl (OpX.allocN H.zr99) ?_
 rintro _ h1 ⟨rfl, k1, e1, z1⟩
 have k1 : Blk h1 h.size 99 [.string ⟨#[]⟩, .int .i64 0, .int .i64 0] := k1
 have hrow : ∀ mm : Nat, mm < 3 → ∃ oa kn kc, cellAt h1 ⟨0, 0 + mm * 1, none⟩ = some (.slice oa kn kc) ∧ Sl eSII h1 (fun _ => False) oa kn kc (tabR mm) := fun mm hmm => by
  obtain ⟨v, hv, hsl⟩ := (hg.rules.ext0 e1) mm hmm
  obtain ⟨oa, kn, kc, rfl, h2⟩ := hsl.open
  exact ⟨oa, kn, kc, by rw [Nat.mul_one, Nat.zero_add]; exact hv, h2⟩
 have hlenT : ∀ mm : Nat, mm < 3 → (tabR mm).length = (kindT mm).length := fun mm hmm => by
  match mm, hmm with
  | 0, _ => rfl
  | 1, _ => rfl
  | 2, _ => rfl
 refine xqd 1 [0, 1, 4, 5] rfl ?_
 refine G.seq rfl ?_
 refine G.seq rfl ?_
 refine G.regTo1 [(23, .bool (!(findT m n).isSome))] [(0, _), (1, _), (4, _), (5, _)] ⟨rfl, rfl, rfl, rfl, trivial⟩ Tryd.func65 rfl ?_ ?_
 · refine xqm 3 rfl ?_
   refine RW.split (d := 8) rfl (fun c1 => ?_) (fun c1 => ?_)
   · have c1' := of_decide_eq_true c1
     refine xqm 15 rfl ?_
     refine RW.done rfl ?_
     exact ⟨rfl, at_bool rfl (by rw [findT, kindT_out (.inl c1')]; simp), rfl, rfl, rfl, rfl, trivial⟩
   · have c1' := of_decide_eq_false c1
     refine xqm 4 rfl ?_
     refine RW.split (d := 12) rfl (fun c2 => ?_) (fun c2 => ?_)
     · have c2' := of_decide_eq_true c2
       refine xqm 11 rfl ?_
       refine RW.done rfl ?_
       exact ⟨rfl, at_bool rfl (by rw [findT, kindT_out (.inr c2')]; simp), rfl, rfl, rfl, rfl, trivial⟩
     · have c2' := of_decide_eq_false c2
       refine xqm 4 rfl ?_
       refine RW.split (d := 16) rfl (fun c3 => ?_) (fun c3 => ?_)
       · have c3' := of_decide_eq_true c3
         refine xqm 7 rfl ?_
         refine RW.done rfl ?_
         exact ⟨rfl, at_bool rfl (by rw [findT, if_pos c3']; rfl), rfl, rfl, rfl, rfl, trivial⟩
       · have c3' := of_decide_eq_false c3
         obtain ⟨mm, rfl⟩ := Int.eq_ofNat_of_zero_le (show 0 ≤ m by omega)
         have hmm : mm < 3 := by omega
         obtain ⟨oa, kn, kc, hv, hsl⟩ := hrow mm hmm
         have hkl := hsl.len
         rw [hlenT mm hmm] at hkl
         refine xqp 2 rfl rfl (OpP.indexArr Tryd.underlying100 H.sz97 rfl rfl mm rfl (by omega)) ?_
         refine xp rfl (OpP.load H.ag97 rfl hv) ?_
         refine xp rfl (OpP.lenSlice Tryd.underlying97 rfl) ?_
         refine xqm 2 rfl ?_
         refine RW.done rfl ?_
         exact ⟨rfl, at_bool rfl (by rw [findT, if_neg c3']; exact find_leaf hkl c3'), rfl, rfl, rfl, rfl, trivial⟩
 · rcases hf : findT m n with _ | p
   · refine G.cond rfl rfl (fun _ => ?_) (fun hc => absurd hc (by simp))
     refine xr Tryd.func65 rfl ?_
     refine xp rfl (OpP.build (H.bd99_ ) rfl) ?_
     refine RW.op0 rfl rfl rfl (OpX.storeBlk H.sz99 rfl rfl k1 (by first | rfl | simp) (by first | decide | exact of_decide_eq_true rfl | (simp; done) | (simp; omega)) (by first | decide | simp [Value.oneCell'])) ?_
     rintro _ h2 ⟨rfl, k2, x2, z2⟩
     refine xqd 1 [0, 1, 4, 5, 23] rfl ?_
     have k2 : Blk h2 h.size 99 (encSII ([], 0, 0)) := k2
     refine G.retC Tryd.func65 rfl (.cons (ResOk.rowN H.ag99 H.sz99 rfl (k2.row) (by first | rfl | simp)) (.cons (ResOk.tmp rfl) (.nil))) ?_
     exact ⟨_, rfl, ⟨([], 0, 0), rfl, fun p hp => by cases hp⟩, e1.only x2 (Nat.le_refl _)⟩
   · have hn0 : 0 ≤ n := by
      by_cases q : n < 0
      · rw [findT, if_pos q] at hf; cases hf
      · omega
     have hm0 : 0 ≤ m ∧ m < 3 := by
      by_cases q : m < 0 ∨ 3 ≤ m
      · rw [findT, kindT_out q] at hf; simp at hf
      · omega
     obtain ⟨mm, rfl⟩ := Int.eq_ofNat_of_zero_le hm0.1
     obtain ⟨i, rfl⟩ := Int.eq_ofNat_of_zero_le hn0
     have hmm : mm < 3 := by omega
     obtain ⟨oa, kn, kc, hv, hsl⟩ := hrow mm hmm
     have hkl := hsl.len
     rw [findT, if_neg (by omega), Int.toNat_natCast, ← kindT_row hmm] at hf
     obtain ⟨r, hr, hrp⟩ := Option.map_eq_some_iff.1 hf
     obtain ⟨b3, o3, cs3, ha3, _, hrow3, rfl⟩ := hsl.get i r hr
     have hil := (List.getElem?_eq_some_iff.1 hr).1
     refine G.cond rfl rfl (fun hc => absurd hc (by simp)) (fun _ => ?_)
     refine G.skip rfl ?_
     refine xra Tryd.func65 1 rfl ?_
     refine xp rfl (OpP.indexArr Tryd.underlying100 H.sz97 rfl rfl mm rfl (by omega)) ?_
     refine xp rfl (OpP.load H.ag97 rfl hv) ?_
     refine xqp 1 rfl rfl (OpP.indexSlice Tryd.underlying97 H.sz99 rfl rfl i rfl ha3 (by omega)) ?_
     refine xp rfl (OpP.loadRowN H.ag99 H.sz99 rfl hrow3 (by first | rfl | simp)) ?_
     refine RW.op0 rfl rfl rfl (OpX.storeBlk H.sz99 rfl rfl k1 (by first | rfl | simp) (by first | decide | exact of_decide_eq_true rfl | (simp; done) | (simp; omega)) (sii_one r)) ?_
     rintro _ h2 ⟨rfl, k2, x2, z2⟩
     refine xqd 1 [0, 1, 4, 5, 23] rfl ?_
     have k2 : Blk h2 h.size 99 (encSII r) := k2
     refine G.retC Tryd.func65 rfl (.cons (ResOk.rowN H.ag99 H.sz99 rfl (k2.row) (by first | rfl | simp)) (.cons (ResOk.tmp rfl) (.nil))) ?_
     exact ⟨_, rfl, ⟨r, rfl, fun p hp => by cases hp; exact hrp⟩, e1.only x2 (Nat.le_refl _)⟩
theorem kind_calls {h : Heap} (hg : LxG h) (m n : Int) : CallsH Tryd.prog 49 #[.int .i64 m, .int .i64 n] h (Ret fun r h' => r = .int .i64 (kindP m n) ∧ Ext0 h h') := by
 refine CallsH.of Tryd.func49 rfl rfl ?_
 refine xrd Tryd.func49 1 [0, 1, 4] rfl ?_
 refine xra Tryd.func49 2 rfl ?_
 refine xo rfl (OpX.call (vs := [_, _]) Tryd.func65 rfl H.nm65 rfl (CallsH.toX (find_calls hg m n))) ?_
 rintro _ h1 ⟨⟨x, rfl, hx⟩, e1⟩
 refine xqm 3 rfl ?_
 refine xo rfl (OpX.allocN H.zr99) ?_
 rintro _ h2 ⟨rfl, k2, e2, z2⟩
 refine RW.op0 rfl rfl rfl (OpX.storeBlk H.sz99 rfl rfl k2 (by first | rfl | simp) (by first | decide | exact of_decide_eq_true rfl | (simp; done) | (simp; omega)) (sii_one x)) ?_
 rintro _ h3 ⟨rfl, k3, x3, z3⟩
 have k3 : Blk h3 h1.size 99 (encSII x) := k3
 have e3 : Ext0 h1 h3 := e2.only x3 (Nat.le_refl _)
 rcases hf : findT m n with _ | p
 · refine xqd 1 [0, 1, 4, 5, 6] rfl ?_
   refine G.seq rfl ?_
   refine xrd Tryd.func49 2 [0, 1, 4, 5, 6, 14] rfl ?_
   refine G.cond rfl rfl (fun _ => ?_) (fun hc => absurd hc (by simp))
   refine xrd Tryd.func49 1 [0, 1, 4, 5, 6, 14] rfl ?_
   refine G.ret Tryd.func49 rfl rfl ?_
   exact ⟨_, rfl, by rw [kindP, hf]; rfl, e1.trans e3⟩
 · have hp := hx p hf
   refine xqd 1 [0, 1, 4, 5, 6] rfl ?_
   refine G.seq rfl ?_
   refine xrd Tryd.func49 2 [0, 1, 4, 5, 6, 14] rfl ?_
   refine G.cond rfl rfl (fun hc => absurd hc (by simp)) (fun _ => ?_)
   refine G.skip rfl ?_
   refine xr Tryd.func49 rfl ?_
   refine xp rfl (OpP.fieldAddr (off := 1) Tryd.underlying99 rfl rfl H.sz3 rfl) ?_
   refine xp rfl (OpP.load H.ag3 rfl (k3.cell (i := 1) rfl)) ?_
   refine xqd 1 [0, 1, 4, 5, 6, 14] rfl ?_
   refine G.ret Tryd.func49 rfl rfl ?_
   exact ⟨_, rfl, by rw [kindP, hf, ← hp]; rfl, e1.trans e3⟩
def encLSt (s : LSt) : List Value := [.int .i64 s.1, .int .i64 s.2]
theorem lst_one (s : LSt) : ∀ v ∈ encLSt s, v.oneCell' = true := fun v hv => by simp [encLSt] at hv; rcases hv with rfl | rfl <;> rfl
def I64 (i : Int) : Prop := -9223372036854775808 ≤ i ∧ i ≤ 9223372036854775807
theorem after_calls {h : Heap} (hg : LxG h) (s : LSt) (n : Int) (hs : I64 s.2) : CallsH Tryd.prog 51 #[.agg (encLSt s).toArray, .int .i64 n] h (Ret fun r h' => r = .agg (encLSt (afterP s n)).toArray ∧ Ext0 h h') := by
 obtain ⟨m, d⟩ := s
 obtain ⟨hd1, hd2⟩ := hs
 simp only at hd1 hd2
 refine CallsH.of Tryd.func51 rfl rfl ?_
 refine xr Tryd.func51 rfl ?_
 refine xo rfl (OpX.boxN rfl) ?_
 rintro _ h1 ⟨rfl, k1, e1, z1⟩
 refine xo rfl (OpX.allocN H.zr45) ?_
 rintro _ h2 ⟨rfl, k2, e2, z2⟩
 have k1 : Blk h1 h.size 45 [.int .i64 m, .int .i64 d] := k1
 have k2 : Blk h2 h1.size 45 [.int .i64 0, .int .i64 0] := k2
 have e02 := e1.trans e2
 have q1 := k1.ext0 e2
 refine xd [0, 1, 2, 4] rfl ?_
 refine xr Tryd.func51 rfl ?_
 refine xp rfl (OpP.fieldAddr (off := 0) Tryd.underlying45 rfl rfl H.sz3 rfl) ?_
 refine xp rfl (OpP.load H.ag3 rfl (q1.cell (i := 0) rfl)) ?_
 refine xqm 1 rfl ?_
 refine xo rfl (OpX.call (vs := [_, _]) Tryd.func65 rfl H.nm65 rfl (CallsH.toX (find_calls (hg.ext0 e02) m n))) ?_
 rintro _ h3 ⟨⟨x, rfl, hx⟩, e3⟩
 refine xqm 3 rfl ?_
 refine xo rfl (OpX.allocN H.zr99) ?_
 rintro _ h4 ⟨rfl, k4, e4, z4⟩
 refine RW.op0 rfl rfl rfl (OpX.storeBlk H.sz99 rfl rfl k4 (by first | rfl | simp) (by first | decide | exact of_decide_eq_true rfl | (simp; done) | (simp; omega)) (sii_one x)) ?_
 rintro _ h5 ⟨rfl, k5, x5, z5⟩
 have k5 : Blk h5 h3.size 99 (encSII x) := k5
 have e45 : Ext0 h3 h5 := e4.only x5 (Nat.le_refl _)
 have e25 := e3.trans e45
 have e05 := e02.trans e25
 have s1 := q1.ext0 e25
 have s2 := k2.ext0 e25
 have hz1 := e1.size
 have hz2 := e2.size
 have hz5 := e25.size
 have hne : ¬ h.size = h1.size := by omega
 have hout : ∀ {g : Heap}, Ext (fun b => b = h1.size) h5 g → Ext0 h g := fun e => Ext0.only e05 e hz1
 rcases hf : findT m n with _ | p
 · have haf : afterP (m, d) n = (m, d) := by unfold afterP; rw [hf]
   refine xqd 1 [0, 1, 2, 4, 5, 6] rfl ?_
   refine G.seq rfl ?_
   refine G.block rfl rfl ?_
   refine G.seq rfl ?_
   refine xrd Tryd.func51 3 [0, 1, 2, 4, 5, 6, 14] rfl ?_
   refine G.cond rfl rfl (fun _ => ?_) (fun hc => absurd hc (by simp))
   refine G.skip rfl ?_
   refine G.cond rfl rfl (fun _ => ?_) (fun hc => absurd hc (by simp))
   refine xr Tryd.func51 rfl ?_
   refine xp rfl (OpP.loadRowN H.ag45 H.sz45 rfl s1.row (by first | rfl | simp)) ?_
   refine RW.op0 rfl rfl rfl (OpX.storeBlk H.sz45 rfl rfl s2 (by first | rfl | simp) (by first | decide | exact of_decide_eq_true rfl | (simp; done) | (simp; omega)) (by first | decide | simp [Value.oneCell'])) ?_
   rintro _ h6 ⟨rfl, k6, x6, z6⟩
   refine xd [0, 1, 2, 4, 5, 6, 14] rfl ?_
   have k6 : Blk h6 h1.size 45 (encLSt (m, d)) := k6
   refine G.retC Tryd.func51 rfl (.cons (ResOk.rowN H.ag45 H.sz45 rfl (k6.row) (by first | rfl | simp)) (.nil)) ?_
   exact ⟨_, rfl, by rw [haf]; rfl, hout x6⟩
 · have hp := hx p hf
   obtain ⟨hp1, hp2⟩ := Prod.mk.inj hp
   have haf : afterP (m, d) n = if x.2.2 = 0 then (m, d) else if x.2.2 = 1 then (1, 0) else if x.2.2 = 3 then (2, min (max d 0) 16383 + 1) else if x.2.2 = 4 ∧ 1 < d then (m, d - 1) else (0, 0) := by unfold afterP; rw [hf, ← hp]
   refine xqd 1 [0, 1, 2, 4, 5, 6] rfl ?_
   refine G.seq rfl ?_
   refine G.block rfl rfl ?_
   refine G.seq rfl ?_
   refine xrd Tryd.func51 3 [0, 1, 2, 4, 5, 6, 14] rfl ?_
   refine G.cond rfl rfl (fun hc => absurd hc (by simp)) (fun _ => ?_)
   refine G.reg Tryd.func51 rfl ?_
   refine xp rfl (OpP.fieldAddr (off := 2) Tryd.underlying99 rfl rfl H.sz3 rfl) ?_
   refine xp rfl (OpP.load H.ag3 rfl (k5.cell (i := 2) rfl)) ?_
   refine xqd 2 [0, 1, 2, 4, 5, 6, 14] rfl ?_
   refine G.ite rfl rfl (fun h0 => ?_) (fun h0 => ?_)
   · rw [if_pos h0] at haf
     refine xr Tryd.func51 rfl ?_
     refine xp rfl (OpP.loadRowN H.ag45 H.sz45 rfl s1.row (by first | rfl | simp)) ?_
     refine RW.op0 rfl rfl rfl (OpX.storeBlk H.sz45 rfl rfl s2 (by first | rfl | simp) (by first | decide | exact of_decide_eq_true rfl | (simp; done) | (simp; omega)) (by first | decide | simp [Value.oneCell'])) ?_
     rintro _ h6 ⟨rfl, k6, x6, z6⟩
     refine xd [0, 1, 2, 4, 5, 6, 14] rfl ?_
     have k6 : Blk h6 h1.size 45 (encLSt (m, d)) := k6
     refine G.retC Tryd.func51 rfl (.cons (ResOk.rowN H.ag45 H.sz45 rfl (k6.row) (by first | rfl | simp)) (.nil)) ?_
     exact ⟨_, rfl, by rw [haf]; rfl, hout x6⟩
   · rw [if_neg h0] at haf
     refine xr Tryd.func51 rfl ?_
     refine xp rfl (OpP.fieldAddr (off := 2) Tryd.underlying99 rfl rfl H.sz3 rfl) ?_
     refine xp rfl (OpP.load H.ag3 rfl (k5.cell (i := 2) rfl)) ?_
     refine xqd 2 [0, 1, 2, 4, 5, 6, 14, 21] rfl ?_
     refine G.ite rfl rfl (fun h1' => ?_) (fun h1' => ?_)
     · rw [if_pos h1'] at haf
       refine xr Tryd.func51 rfl ?_
       refine xp rfl (OpP.build (H.bd45_0 _) rfl) ?_
       refine RW.op0 rfl rfl rfl (OpX.storeBlk H.sz45 rfl rfl s2 (by first | rfl | simp) (by first | decide | exact of_decide_eq_true rfl | (simp; done) | (simp; omega)) (by first | decide | simp [Value.oneCell'])) ?_
       rintro _ h6 ⟨rfl, k6, x6, z6⟩
       refine xd [0, 1, 2, 4, 5, 6, 14, 21] rfl ?_
       have k6 : Blk h6 h1.size 45 (encLSt (1, 0)) := k6
       refine G.retC Tryd.func51 rfl (.cons (ResOk.rowN H.ag45 H.sz45 rfl (k6.row) (by first | rfl | simp)) (.nil)) ?_
       exact ⟨_, rfl, by rw [haf]; rfl, hout x6⟩
     · rw [if_neg h1'] at haf
       refine xr Tryd.func51 rfl ?_
       refine xp rfl (OpP.fieldAddr (off := 2) Tryd.underlying99 rfl rfl H.sz3 rfl) ?_
       refine xp rfl (OpP.load H.ag3 rfl (k5.cell (i := 2) rfl)) ?_
       refine xqd 2 [0, 1, 2, 4, 5, 6, 14, 21, 26] rfl ?_
       refine G.ite rfl rfl (fun h3' => ?_) (fun h3' => ?_)
       · rw [if_pos h3'] at haf
         refine xr Tryd.func51 rfl ?_
         refine xp rfl (OpP.fieldAddr (off := 1) Tryd.underlying45 rfl rfl H.sz3 rfl) ?_
         refine xp rfl (OpP.load H.ag3 rfl (s1.cell (i := 1) rfl)) ?_
         refine xp rfl (OpP.max2 rfl rfl) ?_
         refine xp rfl (OpP.min2 rfl rfl) ?_
         refine xp rfl (OpP.add64 rfl rfl ⟨by omega, by omega⟩) ?_
         refine xp rfl (OpP.build (H.bd45_0_1 _ _) rfl) ?_
         refine RW.op0 rfl rfl rfl (OpX.storeBlk H.sz45 rfl rfl s2 (by first | rfl | simp) (by first | decide | exact of_decide_eq_true rfl | (simp; done) | (simp; omega)) (by first | decide | simp [Value.oneCell'])) ?_
         rintro _ h6 ⟨rfl, k6, x6, z6⟩
         refine xd [0, 1, 2, 4, 5, 6, 14, 21, 26] rfl ?_
         have hmm : (if (16383 : Int) < if d < 0 then 0 else d then 16383 else if d < 0 then 0 else d) = min (max d 0) 16383 := by split <;> split <;> omega
         have k6 : Blk h6 h1.size 45 (encLSt (2, min (max d 0) 16383 + 1)) := by rw [← hmm]; exact k6
         refine G.retC Tryd.func51 rfl (.cons (ResOk.rowN H.ag45 H.sz45 rfl (k6.row) (by first | rfl | simp)) (.nil)) ?_
         exact ⟨_, rfl, by rw [haf]; rfl, hout x6⟩
       · rw [if_neg h3'] at haf
         refine G.seq rfl ?_
         refine G.regTo1 [(36, .bool (decide (x.2.2 = 4 ∧ 1 < d)))] [(0, _), (1, _), (2, _), (4, _), (5, _), (6, _), (14, _), (21, _), (26, _)] ⟨rfl, rfl, rfl, rfl, rfl, rfl, rfl, rfl, rfl, trivial⟩ Tryd.func51 rfl ?_ ?_
         · refine xp rfl (OpP.fieldAddr (off := 2) Tryd.underlying99 rfl rfl H.sz3 rfl) ?_
           refine xp rfl (OpP.load H.ag3 rfl (k5.cell (i := 2) rfl)) ?_
           refine xqm 2 rfl ?_
           refine RW.split (d := 40) rfl (fun hc => ?_) (fun hc => ?_)
           · have hc' := of_decide_eq_true hc
             refine xp rfl (OpP.fieldAddr (off := 1) Tryd.underlying45 rfl rfl H.sz3 rfl) ?_
             refine xp rfl (OpP.load H.ag3 rfl (s1.cell (i := 1) rfl)) ?_
             refine xqm 3 rfl ?_
             refine RW.done rfl ?_
             exact ⟨rfl, at_bool rfl (by simp [hc']), rfl, rfl, rfl, rfl, rfl, rfl, rfl, rfl, rfl, trivial⟩
           · have hc' := of_decide_eq_false hc
             refine xqm 5 rfl ?_
             refine RW.done rfl ?_
             exact ⟨rfl, at_bool rfl (by simp [hc']), rfl, rfl, rfl, rfl, rfl, rfl, rfl, rfl, rfl, trivial⟩
         · refine G.ite rfl rfl (fun h4' => ?_) (fun h4' => ?_)
           · rw [if_pos h4'] at haf
             refine xr Tryd.func51 rfl ?_
             refine xp rfl (OpP.fieldAddr (off := 1) Tryd.underlying45 rfl rfl H.sz3 rfl) ?_
             refine xp rfl (OpP.load H.ag3 rfl (s1.cell (i := 1) rfl)) ?_
             refine xp rfl (OpP.sub64 rfl rfl ⟨by omega, by omega⟩) ?_
             refine xp rfl (OpP.fieldAddr (off := 1) Tryd.underlying45 rfl rfl H.sz3 rfl) ?_
             refine RW.op0 rfl rfl rfl (OpX.store H.sz3 rfl rfl rfl (s1.cell (i := 1) rfl) s1.nf) ?_
             rintro _ h6 ⟨rfl, hg6⟩
             have s6 := s1.set 1 (.int .i64 (d - 1))
             have x6 : Ext (fun b => b = h.size) h5 h6 := by rw [hg6]; exact Ext.setC _ _ _ rfl
             have s6 : Blk h6 h.size 45 (encLSt (m, d - 1)) := by rw [hg6]; exact s6
             refine xd [0, 1, 2, 4, 5, 6, 14, 21, 26, 36] rfl ?_
             refine xr Tryd.func51 rfl ?_
             refine xp rfl (OpP.loadRowN H.ag45 H.sz45 rfl s6.row (by first | rfl | simp)) ?_
             refine RW.op0 rfl rfl rfl (OpX.storeBlk H.sz45 rfl rfl (s2.ext x6 (fun k => by omega)) (by first | rfl | simp) (by first | decide | exact of_decide_eq_true rfl | (simp; done) | (simp; omega)) (lst_one _)) ?_
             rintro _ h7 ⟨rfl, k7, x7, z7⟩
             refine xd [0, 1, 2, 4, 5, 6, 14, 21, 26, 36] rfl ?_
             have k7 : Blk h7 h1.size 45 (encLSt (m, d - 1)) := k7
             refine G.retC Tryd.func51 rfl (.cons (ResOk.rowN H.ag45 H.sz45 rfl (k7.row) (by first | rfl | simp)) (.nil)) ?_
             have hz6 := x6.size
             exact ⟨_, rfl, by rw [haf]; rfl, Ext0.only (Ext0.only e05 x6 (Nat.le_refl _)) x7 hz1⟩
           · rw [if_neg h4'] at haf
             refine G.skip rfl ?_
             refine G.blkEnd ?_
             refine xr Tryd.func51 rfl ?_
             refine xp rfl (OpP.build (H.bd45_ ) rfl) ?_
             refine RW.op0 rfl rfl rfl (OpX.storeBlk H.sz45 rfl rfl s2 (by first | rfl | simp) (by first | decide | exact of_decide_eq_true rfl | (simp; done) | (simp; omega)) (by first | decide | simp [Value.oneCell'])) ?_
             rintro _ h6 ⟨rfl, k6, x6, z6⟩
             refine xd [0, 1, 2, 4, 5, 6, 14, 21, 26, 36] rfl ?_
             have k6 : Blk h6 h1.size 45 (encLSt (0, 0)) := k6
             refine G.retC Tryd.func51 rfl (.cons (ResOk.rowN H.ag45 H.sz45 rfl (k6.row) (by first | rfl | simp)) (.nil)) ?_
             exact ⟨_, rfl, by rw [haf]; rfl, hout x6⟩
theorem cnext_calls {h : Heap} (hg : LxG h) (s : By) (k : Nat) (hk : k < s.length) (hs : s.length ≤ 1000000) : CallsH Tryd.prog 48 #[.string (bs s), .int .i64 (k : Nat)] h (Ret fun r h' => (∃ (x : Nat) (ok : Bool), r = .tuple #[.int .i32 (x : Nat), .int .i64 (runeN (s.drop k) : Nat), .bool ok]) ∧ Ext0 h h') := by
 have hbs := bs_size s
 have hne : s.drop k ≠ [] := fun e => by have := congrArg List.length e; rw [List.length_drop] at this; simp at this; omega
 refine CallsH.of Tryd.func48 rfl rfl ?_
 refine xrd Tryd.func48 3 [0, 1, 4, 5, 6] rfl ?_
 refine G.seq rfl ?_
 refine G.seq rfl ?_
 refine G.regTo1 [(14, .bool false)] [(0, _), (1, _), (4, _), (5, _), (6, _)] ⟨rfl, rfl, rfl, rfl, rfl, trivial⟩ Tryd.func48 rfl ?_ ?_
 · refine xqm 3 rfl ?_
   refine RW.know (d := 9) (b' := false) rfl ((by simp)) ?_
   refine xqp 2 rfl rfl (OpP.lenString Tryd.underlying9 rfl) ?_
   refine xqm 2 rfl ?_
   refine RW.done rfl ?_
   exact ⟨rfl, at_bool rfl (by simp; omega), rfl, rfl, rfl, rfl, rfl, trivial⟩
 · refine G.cond rfl rfl (fun hc => absurd hc (by decide)) (fun _ => ?_)
   refine G.skip rfl ?_
   refine xra Tryd.func48 2 rfl ?_
   refine xp rfl (OpP.sliceStrLo Tryd.underlying9 rfl rfl k rfl (by omega)) ?_
   rw [bs_drop]
   refine xo rfl (OpX.call (vs := [_]) Tryd.func64 rfl H.nm64 rfl (CallsH.toX (decode_calls hg (s.drop k) hne))) ?_
   rintro _ h1 ⟨⟨x, rfl⟩, e1⟩
   generalize hn : runeN (s.drop k) = n
   refine xqd 5 [0, 1, 4, 5, 6, 14] rfl ?_
   refine G.seq rfl ?_
   refine G.regTo1 [(4, .int .i32 (x : Nat)), (5, .int .i64 (n : Nat)), (6, .bool (decide (¬ (x : Int) = 65533 ∨ (1 : Int) < n)))] [(0, _), (1, _), (14, _)] ⟨rfl, rfl, rfl, trivial⟩ Tryd.func48 rfl ?_ ?_
   · refine xqm 5 rfl ?_
     refine RW.split (d := 26) rfl (fun hc => ?_) (fun hc => ?_)
     · have hc' := of_decide_eq_true hc
       refine xqm 6 rfl ?_
       refine RW.done rfl ?_
       exact ⟨rfl, rfl, rfl, at_bool rfl (by rw [decide_eq_true (Or.inl hc')]), rfl, rfl, rfl, trivial⟩
     · have hc' := of_decide_eq_false hc
       refine xqm 6 rfl ?_
       refine RW.done rfl ?_
       exact ⟨rfl, rfl, rfl, at_bool rfl (by simp only [decide_eq_decide]; exact ⟨fun q => .inr q, fun q => q.resolve_left hc'⟩), rfl, rfl, rfl, trivial⟩
   · refine G.ret Tryd.func48 rfl rfl ?_
     exact ⟨_, rfl, ⟨x, _, rfl⟩, e1⟩
theorem lnone_at {h : Heap} {p : Value} (k : LexAt h p) : CallsH Tryd.prog 46 #[p] h (Ret fun r h' => r = .bool false ∧ h' = h) := by
 obtain ⟨lb, vm, rfl, hk, ⟨oa, n, c, rfl, hl, _⟩⟩ := k
 have hl : n = 3 := by rw [← hl]; rfl
 subst hl
 refine CallsH.of Tryd.func46 rfl rfl ?_
 refine xrd Tryd.func46 1 [0, 2] rfl ?_
 refine G.seq rfl ?_
 refine G.regTo1 [(2, .bool false)] [(0, _)] ⟨rfl, trivial⟩ Tryd.func46 rfl ?_ ?_
 · refine xqp 1 rfl rfl (OpP.eqlNil Tryd.underlying25 rfl rfl) ?_
   refine xqm 1 rfl ?_
   refine RW.know (d := 5) (b' := false) rfl (rfl) ?_
   refine xqp 2 rfl rfl (OpP.fieldAddr (off := 0) Tryd.underlying55 rfl rfl H.sz53 rfl) ?_
   refine xp rfl (OpP.load H.ag53 rfl (hk.cell (i := 0) rfl)) ?_
   refine xp rfl (OpP.lenSlice Tryd.underlying53 rfl) ?_
   refine xqm 3 rfl ?_
   refine RW.done rfl ?_
   exact ⟨rfl, at_bool rfl (rfl), rfl, trivial⟩
 · refine G.ret Tryd.func46 rfl rfl ?_
   exact ⟨_, rfl, rfl, rfl⟩
def lexS (m : Int) (l : By) : Int := if 0 ≤ m ∧ m < 3 then (dmatchG (minP (lexD m)) l 0 0 (0, -1)).2.2 else 0
theorem lex_match (m : Nat) (hm : m < 3) (s : By) (k : Nat) (hk : k ≤ s.length) : dmatchA (minP (lexD m)) s k = ((lexM m (s.drop k)).1, (lexM m (s.drop k)).2, lexS m (s.drop k)) := by
 obtain ⟨ss, st, h1, h2, h3, h4, h5⟩ := lex_made m hm
 have hok := dmadeP_ok h2
 have hsp := minP_spec hok.1 hok.2
 have htl := table_like hok.1 hsp.1 hsp.2.2.2.2 hok.2 hsp.2.1 (fun w => (hsp.2.2.2.1 w).symm) s k
 have htm := table_match h2 s k
 have hst := (makeP_made h1).stl
 have hM : matchM (rulesM m) s k = lexM m (s.drop k) := by
  unfold matchM matchA
  rw [h1]
  simp only
  rw [if_neg (by omega), Int.toNat_natCast, h4]
 rw [hM] at htm
 have hA : (dmatchA (minP (lexD m)) s k).2.2 = lexS m (s.drop k) := by
  rw [lexS, if_pos (show (0 : Int) ≤ m ∧ (m : Int) < 3 by omega), dmatchA, if_neg (by have := hsp.2.1; omega), Int.toNat_natCast]
 rw [← hA]
 refine Prod.ext ?_ (Prod.ext ?_ rfl)
 · rw [← htl.1]; exact (Prod.mk.inj htm).1
 · rw [← htl.2.1]; exact (Prod.mk.inj htm).2
theorem lexS_le (m : Int) (l : By) : 0 ≤ lexS m l ∧ lexS m l ≤ (lexM m l).1 + 2 := by
 unfold lexS
 split
 · rename_i h
   obtain ⟨n, rfl⟩ := Int.eq_ofNat_of_zero_le h.1
   obtain ⟨ss, st, h1, h2, h3, h4, h5⟩ := lex_made n (by omega)
   have hok := dmadeP_ok h2
   have hsp := minP_spec hok.1 hok.2
   have hl := dmatchG_like hok.1 hsp.1 hsp.2.2.2.2 l 0 0 0 (0, -1) hok.2 hsp.2.1 (fun w => (hsp.2.2.2.1 w).symm)
   have hs := dmatchG_steps (minP (lexD n)) l 0 0 (0, -1) (Int.le_refl _)
   have h6 := h5 l
   have h7 := lexM_len n l
   have h8 : (dmatchG (lexD n) l 0 0 (0, -1)).1 = (lexM n l).1 := by
    have := dmakeP_match h3 (by have := (makeP_made h1).stl; omega) l
    rw [h4, ← this]
   refine ⟨?_, by have := hl.2.2; omega⟩
   have := hs.1
   rw [← hl.1, h8] at this
   omega
 · have := lexM_len m l; omega
theorem lexM_out {m : Int} (h : m < 0 ∨ 3 ≤ m) (l : By) : lexM m l = (0, -1) := by
 unfold lexM
 rw [if_neg (by omega), if_neg (by omega), if_neg (by omega)]
theorem lmatch_calls {h : Heap} {p : Value} (k : LexAt h p) (s : By) (i : Nat) (hi : i ≤ s.length) (hs : s.length ≤ 1000000) (m : Int) :
 CallsH Tryd.prog 47 #[p, .string (bs s), .int .i64 (i : Nat), .int .i64 m] h (Ret fun r h' => r = .tuple #[.int .i64 (lexM m (s.drop i)).1, .int .i64 (lexM m (s.drop i)).2, .int .i64 (lexS m (s.drop i))] ∧ h' = h) := by
 obtain ⟨lb, vm, rfl, hk, hv⟩ := k
 obtain ⟨oa, n, c, rfl, hsl⟩ := hv.open
 have hl : n = 3 := by rw [← hsl.len]; rfl
 subst hl
 refine CallsH.of Tryd.func47 rfl rfl ?_
 refine xrd Tryd.func47 3 [0, 1, 2, 3, 8, 9, 10] rfl ?_
 refine G.seq rfl ?_
 refine G.seq rfl ?_
 refine G.regTo1 [(21, .bool (decide (m < 0 ∨ 3 ≤ m)))] [(0, _), (1, _), (2, _), (3, _), (8, _), (9, _), (10, _)] ⟨rfl, rfl, rfl, rfl, rfl, rfl, rfl, trivial⟩ Tryd.func47 rfl ?_ ?_
 · refine xqm 3 rfl ?_
   refine RW.split (d := 13) rfl (fun hc => ?_) (fun hc => ?_)
   · have hc' := of_decide_eq_true hc
     refine xqm 8 rfl ?_
     refine RW.done rfl ?_
     exact ⟨rfl, at_bool rfl (by simp [hc']), rfl, rfl, rfl, rfl, rfl, rfl, rfl, trivial⟩
   · have hc' := of_decide_eq_false hc
     refine xqp 3 rfl rfl (OpP.fieldAddr (off := 0) Tryd.underlying55 rfl rfl H.sz53 rfl) ?_
     refine xp rfl (OpP.load H.ag53 rfl (hk.cell (i := 0) rfl)) ?_
     refine xp rfl (OpP.lenSlice Tryd.underlying53 rfl) ?_
     refine xqm 2 rfl ?_
     refine RW.done rfl ?_
     exact ⟨rfl, at_bool rfl (by simp only [decide_eq_decide]; omega), rfl, rfl, rfl, rfl, rfl, rfl, rfl, trivial⟩
 · refine G.ite rfl rfl (fun hout => ?_) (fun hout => ?_)
   · rw [lexM_out hout]
     refine xrd Tryd.func47 3 [0, 1, 2, 3, 8, 9, 10, 21] rfl ?_
     refine G.ret Tryd.func47 rfl rfl ?_
     exact ⟨_, rfl, by rw [lexS, if_neg (by omega)]; rfl, rfl⟩
   · obtain ⟨mm, rfl⟩ := Int.eq_ofNat_of_zero_le (show 0 ≤ m by omega)
     have hmm : mm < 3 := by omega
     have hx : (lexTs 3)[mm]? = some (minP (lexD mm)) := by
      match mm, hmm with
      | 0, _ => rfl
      | 1, _ => rfl
      | 2, _ => rfl
     obtain ⟨b3, o3, cs3, ha3, _, hrow3, db, rfl, htab⟩ := hsl.get mm _ hx
     obtain ⟨ss, st, h1, h2, h3, h4, h5⟩ := lex_made mm hmm
     have hok := dmadeP_ok h2
     have hsp := minP_spec hok.1 hok.2
     refine G.skip rfl ?_
     refine xra Tryd.func47 2 rfl ?_
     refine xp rfl (OpP.fieldAddr (off := 0) Tryd.underlying55 rfl rfl H.sz53 rfl) ?_
     refine xp rfl (OpP.load H.ag53 rfl (hk.cell (i := 0) rfl)) ?_
     refine xqp 1 rfl rfl (OpP.indexSlice Tryd.underlying53 H.sz68 rfl rfl mm rfl ha3 (by omega)) ?_
     refine xp rfl (OpP.load H.ag68 rfl (hrow3 0 _ rfl)) ?_
     refine xqm 2 rfl ?_
     refine xo rfl (OpX.call (vs := [_, _, _]) Tryd.func63 rfl H.nm63 rfl (CallsH.toX (dmatch_calls (s := s) (a := (i : Int)) (.inr ⟨db, rfl, htab.rd⟩) hsp.1 hs))) ?_
     rintro _ h0 ⟨rfl, hh0⟩
     subst hh0
     rw [lex_match mm hmm s i hi]
     refine xqd 6 [0, 1, 2, 3, 8, 9, 10, 21] rfl ?_
     refine G.ret Tryd.func47 rfl rfl ?_
     exact ⟨_, rfl, rfl, rfl⟩
def encTk (t : Tk) : List Value := [.int .i64 t.1, .int .i64 t.2.1, .int .i64 t.2.2]
theorem tk_one (t : Tk) : ∀ v ∈ encTk t, v.oneCell' = true := fun v hv => by simp [encTk] at hv; rcases hv with rfl | rfl | rfl <;> rfl
theorem after_I64 {s : LSt} (h : I64 s.2) (n : Int) : I64 (afterP s n).2 := by
 unfold I64 at *
 unfold afterP
 split
 · exact h
 · split
   · exact h
   · split
     · simp only; omega
     · split
       · simp only; omega
       · split
         · simp only; omega
         · simp only; omega
theorem nxt_I64 {s : LSt} (h : I64 s.2) (l : By) : I64 (nxtP l s).2 := by
 unfold nxtP
 split
 · exact h
 · exact after_I64 h _
theorem same_ext {h h' : Heap} {b : Nat} {t : TypeId} {cs : List Value} (k : Blk h b t cs) (k' : Blk h' b t cs) (e : Ext (fun x => x = b) h h') : Ext0 h h' := ⟨e.size, fun x hx _ => by
 by_cases q : x = b
 · subst q; exact k'.trans k.symm
 · exact e.block x hx q⟩
def oneV (s : By) (i : Nat) (st : LSt) : Value := .tuple #[.agg (encTk (kndP (s.drop i) st.1, (i : Int), ((i + lenP (s.drop i) st.1 : Nat) : Int))).toArray, .agg (encLSt (nxtP (s.drop i) st)).toArray, .int .i64 (lexS st.1 (s.drop i))]
theorem one_calls {h : Heap} {p : Value} (hg : LxG h) (k : LexAt h p) (s : By) (i : Nat) (hi : i < s.length) (hs : s.length ≤ 1000000) (st : LSt) (hst : I64 st.2) :
 CallsH Tryd.prog 29 #[p, .string (bs s), .int .i64 (i : Nat), .agg (encLSt st).toArray] h (Ret fun r h' => r = oneV s i st ∧ Ext0 h h') := by
 have hbs := bs_size s
 unfold oneV
 have hne : s.drop i ≠ [] := fun e => by have := congrArg List.length e; rw [List.length_drop] at this; simp at this; omega
 have hll := lexM_len st.1 (s.drop i)
 have hrl := rune_len hne
 rw [List.length_drop] at hll hrl
 refine CallsH.of Tryd.func29 rfl rfl ?_
 refine xr Tryd.func29 rfl ?_
 refine xo rfl (OpX.boxN rfl) ?_
 rintro _ h1 ⟨rfl, k7, e1, z1⟩
 refine xo rfl (OpX.allocN H.zr39) ?_
 rintro _ h2 ⟨rfl, k8, e2, z2⟩
 refine xo rfl (OpX.allocN H.zr45) ?_
 rintro _ h3 ⟨rfl, k9, e3, z3⟩
 have k7 : Blk h1 h.size 45 (encLSt st) := k7
 have k8 : Blk h2 h1.size 39 (encTk (0, 0, 0)) := k8
 have k9 : Blk h3 h2.size 45 (encLSt (0, 0)) := k9
 have e03 := (e1.trans e2).trans e3
 have q7 := (k7.ext0 e2).ext0 e3
 have q8 := k8.ext0 e3
 have y1 := e1.size
 have y2 := e2.size
 have hout : ∀ {g g2 g3 : Heap}, Ext0 h3 g → Ext (fun b => b = h1.size) g g2 → Ext (fun b => b = h2.size) g2 g3 → Ext0 h g3 := fun ea eb ec => Ext0.only (Ext0.only (e03.trans ea) eb (by omega)) ec (by omega)
 refine xqd 1 [0, 1, 2, 3, 7, 8, 9, 10] rfl ?_
 refine G.seq rfl ?_
 refine G.seq rfl ?_
 refine G.regTo1 [(27, .bool false)] [(0, _), (1, _), (2, _), (3, _), (7, _), (8, _), (9, _), (10, _)] ⟨rfl, rfl, rfl, rfl, rfl, rfl, rfl, rfl, trivial⟩ Tryd.func29 rfl ?_ ?_
 · refine xqm 1 rfl ?_
   refine xo rfl (OpX.call (vs := [_]) Tryd.func46 rfl H.nm46 rfl (CallsH.toX (lnone_at (k.ext0 e03)))) ?_
   rintro _ h4 ⟨rfl, hh4⟩
   subst hh4
   refine xqm 1 rfl ?_
   refine RW.know (d := 18) (b' := false) rfl (rfl) ?_
   refine xqm 4 rfl ?_
   refine RW.know (d := 22) (b' := false) rfl ((by simp)) ?_
   refine xqp 2 rfl rfl (OpP.lenString Tryd.underlying9 rfl) ?_
   refine xqm 2 rfl ?_
   refine RW.done rfl ?_
   exact ⟨rfl, at_bool rfl (by simp; omega), rfl, rfl, rfl, rfl, rfl, rfl, rfl, rfl, trivial⟩
 · refine G.cond rfl rfl (fun hc => absurd hc (by decide)) (fun _ => ?_)
   refine G.skip rfl ?_
   refine xra Tryd.func29 3 rfl ?_
   refine xp rfl (OpP.fieldAddr (off := 0) Tryd.underlying45 rfl rfl H.sz3 rfl) ?_
   refine xp rfl (OpP.load H.ag3 rfl (q7.cell (i := 0) rfl)) ?_
   refine xo rfl (OpX.call (vs := [_, _, _, _]) Tryd.func47 rfl H.nm47 rfl (CallsH.toX (lmatch_calls (k.ext0 e03) s i (by omega) hs st.1))) ?_
   rintro _ h4 ⟨rfl, hh4⟩
   subst hh4
   refine xqd 7 [0, 1, 2, 3, 7, 8, 9, 10, 11, 12, 27] rfl ?_
   refine G.seq rfl ?_
   refine xrd Tryd.func29 2 [0, 1, 2, 3, 7, 8, 9, 10, 11, 12, 27, 41] rfl ?_
   refine G.ite rfl rfl (fun hz => ?_) (fun hz => ?_)
   · have hlen : lenP (s.drop i) st.1 = runeN (s.drop i) := by rw [lenP, if_pos hz]
     have hknd : kndP (s.drop i) st.1 = 0 := by rw [kndP, if_pos hz]
     have hnxt : nxtP (s.drop i) st = st := by rw [nxtP, if_pos hz]
     rw [hlen, hknd, hnxt]
     refine xra Tryd.func29 2 rfl ?_
     refine xo rfl (OpX.call (vs := [_, _]) Tryd.func48 rfl H.nm48 rfl (CallsH.toX (cnext_calls (hg.ext0 e03) s i hi hs))) ?_
     rintro _ h5 ⟨⟨x, ok, rfl⟩, e5⟩
     have r7 := q7.ext0 e5
     have r8 := q8.ext0 e5
     have r9 := k9.ext0 e5
     have y5 := e5.size
     have hM7 : ¬ (h.size = h1.size ∨ h.size = h2.size ∨ Array.size h5 ≤ h.size) := by have := e03.size; omega
     refine xqd 7 [0, 1, 2, 3, 7, 8, 9, 10, 11, 12, 14, 27, 41] rfl ?_
     refine G.seq rfl ?_
     refine G.draw (fun b => b = Array.size h1 ∨ b = Array.size h2 ∨ Array.size h5 ≤ b) (fun i => Nat.blt i 9) (sz := 10) (listed := #[false, false, false, false, false, false, false, false, false, false]) Tryd.func29 H.mixed rfl rfl rfl ?_
     refine xtq 0 1 (by kernel_rfl) rfl ?_
     refine xtq 1 3 (by kernel_rfl) rfl ?_
     refine xtq 2 7 (by kernel_rfl) rfl ?_
     refine xtp 3 15 (by kernel_rfl) rfl (fun h' e => OpP.add64 rfl rfl ⟨by omega, by omega⟩) ?_
     refine xtp 4 31 (by kernel_rfl) rfl (fun h' e => OpP.build (H.bd39_0_1_2 _ _ _) rfl) ?_
     refine xtp 5 63 (by kernel_rfl) rfl (fun h' e => OpP.loadRowN H.ag45 H.sz45 rfl (e.rowAt hM7 r7.row) (by first | rfl | simp)) ?_
     refine xtq 6 127 (by kernel_rfl) rfl ?_
     refine xt0 7 255 (by kernel_rfl) rfl (OpX.storeBlk H.sz39 rfl rfl r8 (by first | rfl | simp) (by first | decide | exact of_decide_eq_true rfl | (simp; done) | (simp; omega)) (by first | decide | simp [Value.oneCell'])) ?_
     rintro _ h6 ⟨rfl, w8, x6, z6⟩
     refine ⟨fun _ => x6.mono (fun _ _ k => .inl k), ?_⟩
     refine xt0 8 511 (by kernel_rfl) rfl (OpX.storeBlk H.sz45 rfl rfl (r9.ext x6 (fun k => by omega)) (by first | rfl | simp) (by first | decide | exact of_decide_eq_true rfl | (simp; done) | (simp; omega)) (lst_one st)) ?_
     rintro _ h7 ⟨rfl, w9, x7, z7⟩
     refine ⟨fun _ => x7.mono (fun _ _ k => .inr (.inl k)), ?_⟩
     have w8 : Blk h6 h1.size 39 (encTk (0, (i : Int), ((i + runeN (s.drop i) : Nat) : Int))) := by rw [Int.natCast_add]; exact w8
     have w8 := w8.ext x7 (show ¬ h1.size = h2.size by omega)
     have w9 : Blk h7 h2.size 45 (encLSt st) := w9
     refine xtq 9 1023 (by kernel_rfl) rfl ?_
     refine RD.done (by kernel_rfl) ?_
     refine xu [0, 1, 2, 3, 7, 8, 9, 10, 11, 12, 14, 27, 41] rfl ?_
     refine G.retC Tryd.func29 rfl (.cons (ResOk.rowN H.ag39 H.sz39 rfl (w8.row) (by first | rfl | simp)) (.cons (ResOk.rowN H.ag45 H.sz45 rfl (w9.row) (by first | rfl | simp)) (.cons (ResOk.tmp rfl) (.nil)))) ?_
     exact ⟨_, rfl, rfl, hout e5 x6 x7⟩
   · obtain ⟨L, hL⟩ := Int.eq_ofNat_of_zero_le hll.1
     have hL0 : 0 < L := by omega
     have hlen : lenP (s.drop i) st.1 = L := by rw [lenP, if_neg hz, hL]; rfl
     have hknd : kndP (s.drop i) st.1 = if kindP st.1 (lexM st.1 (s.drop i)).2 = 3 ∧ wordP ((s.drop i).take L) = true then 4 else kindP st.1 (lexM st.1 (s.drop i)).2 := by rw [kndP, if_neg hz, hL]; rfl
     have hnxt : nxtP (s.drop i) st = afterP st (lexM st.1 (s.drop i)).2 := by rw [nxtP, if_neg hz]
     rw [hlen, hknd, hnxt, hL]
     generalize (lexM st.1 (s.drop i)).2 = rl at *
     rw [hL] at hll
     refine G.skip rfl ?_
     refine xr Tryd.func29 rfl ?_
     refine xp rfl (OpP.fieldAddr (off := 0) Tryd.underlying45 rfl rfl H.sz3 rfl) ?_
     refine xp rfl (OpP.load H.ag3 rfl (q7.cell (i := 0) rfl)) ?_
     refine xqm 1 rfl ?_
     refine xo rfl (OpX.call (vs := [_, _]) Tryd.func49 rfl H.nm49 rfl (CallsH.toX (kind_calls (hg.ext0 e03) st.1 rl))) ?_
     rintro _ h5 ⟨rfl, e5⟩
     refine xqp 3 rfl rfl (OpP.add64 rfl rfl ⟨by omega, by omega⟩) ?_
     refine xp rfl (OpP.build (H.bd39_0_1_2 _ _ _) rfl) ?_
     refine RW.op0 rfl rfl rfl (OpX.storeBlk H.sz39 rfl rfl (q8.ext0 e5) (by first | rfl | simp) (by first | decide | exact of_decide_eq_true rfl | (simp; done) | (simp; omega)) (by first | decide | simp [Value.oneCell'])) ?_
     rintro _ h6 ⟨rfl, w8, x6, z6⟩
     have w8 : Blk h6 h1.size 39 (encTk (kindP st.1 rl, (i : Int), ((i + L : Nat) : Int))) := by rw [Int.natCast_add]; exact w8
     generalize kindP st.1 rl = kd at *
     have hcut : (bs s).extract i (i + L) = bs ((s.drop i).take L) := by rw [bs_part s i (i + L) (by omega), List.drop_take, Nat.add_sub_cancel_left]
     have y6 := x6.size
     have e06 : Ext0 h h6 := Ext0.only (e03.trans e5) x6 (by omega)
     have r7 := (q7.ext0 e5).ext x6 (show ¬ h.size = h1.size by omega)
     have r9 := (k9.ext0 e5).ext x6 (show ¬ h2.size = h1.size by omega)
     refine xd [0, 1, 2, 3, 7, 8, 9, 10, 11, 12, 27, 41] rfl ?_
     refine G.seq rfl ?_
     refine G.seq rfl ?_
     refine G.regTo1 [(76, .bool (decide (kd = 3 ∧ wordP ((s.drop i).take L) = true)))] [(0, _), (1, _), (2, _), (3, _), (7, _), (8, _), (9, _), (10, _), (11, _), (12, _), (27, _), (41, _)] ⟨rfl, rfl, rfl, rfl, rfl, rfl, rfl, rfl, rfl, rfl, rfl, rfl, trivial⟩ Tryd.func29 rfl ?_ ?_
     · refine xp rfl (OpP.fieldAddr (off := 0) Tryd.underlying39 rfl rfl H.sz3 rfl) ?_
       refine xp rfl (OpP.load H.ag3 rfl (w8.cell (i := 0) rfl)) ?_
       refine xqm 2 rfl ?_
       refine RW.split (d := 68) rfl (fun hc => ?_) (fun hc => ?_)
       · have hc' : kd = 3 := of_decide_eq_true hc
         refine xqp 1 rfl rfl (OpP.fieldAddr (off := 1) Tryd.underlying39 rfl rfl H.sz3 rfl) ?_
         refine xp rfl (OpP.load H.ag3 rfl (w8.cell (i := 1) rfl)) ?_
         refine xp rfl (OpP.fieldAddr (off := 2) Tryd.underlying39 rfl rfl H.sz3 rfl) ?_
         refine xp rfl (OpP.load H.ag3 rfl (w8.cell (i := 2) rfl)) ?_
         refine xp rfl (OpP.sliceStr Tryd.underlying9 rfl rfl i rfl rfl (i + L) rfl (by omega) (by omega)) ?_
         rw [hcut]
         refine xo rfl (OpX.call (vs := [_]) Tryd.func50 rfl H.nm50 rfl (CallsH.toX (word_calls (hg.ext0 e06) ((s.drop i).take L) (by rw [List.length_take, List.length_drop]; omega)))) ?_
         rintro _ h7 ⟨rfl, hh7⟩
         subst hh7
         refine xqm 1 rfl ?_
         refine RW.done rfl ?_
         exact ⟨rfl, at_bool rfl (by simp [hc']), rfl, rfl, rfl, rfl, rfl, rfl, rfl, rfl, rfl, rfl, rfl, rfl, trivial⟩
       · have hc' : ¬ kd = 3 := of_decide_eq_false hc
         refine xqm 8 rfl ?_
         refine RW.done rfl ?_
         exact ⟨rfl, at_bool rfl (by simp [hc']), rfl, rfl, rfl, rfl, rfl, rfl, rfl, rfl, rfl, rfl, rfl, rfl, trivial⟩
     · refine G.ite rfl rfl (fun hw => ?_) (fun hw => ?_)
       · refine G.reg Tryd.func29 rfl ?_
         refine xp rfl (OpP.fieldAddr (off := 0) Tryd.underlying39 rfl rfl H.sz3 rfl) ?_
         refine RW.op0 rfl rfl rfl (OpX.store H.sz3 rfl rfl rfl (w8.cell (i := 0) rfl) w8.nf) ?_
         rintro _ h7 ⟨rfl, hg7⟩
         have w7 := w8.set 0 (.int .i64 4)
         have x7 : Ext (fun b => b = h1.size) h6 h7 := by rw [hg7]; exact Ext.setC _ _ _ rfl
         have w7 : Blk h7 h1.size 39 (encTk (4, (i : Int), ((i + L : Nat) : Int))) := by rw [hg7]; exact w7
         have y7 := x7.size
         have e07 : Ext0 h h7 := Ext0.only e06 x7 (by omega)
         have p7 := r7.ext x7 (show ¬ h.size = h1.size by omega)
         have p9 := r9.ext x7 (show ¬ h2.size = h1.size by omega)
         have hMa : ¬ (h1.size = h2.size ∨ Array.size h7 ≤ h1.size) := by have := e03.size; have := e5.size; omega
         have hMb : ¬ (h.size = h2.size ∨ Array.size h7 ≤ h.size) := by have := e03.size; have := e5.size; omega
         refine xd [0, 1, 2, 3, 7, 8, 9, 10, 11, 12, 27, 41, 76] rfl ?_
         refine G.seq rfl ?_
         refine G.draw (fun b => b = Array.size h2 ∨ Array.size h7 ≤ b) (fun i => Nat.blt i 7) (sz := 8) (listed := #[false, false, false, false, false, false, false, false]) Tryd.func29 H.mixed rfl rfl rfl ?_
         refine xtp 0 1 (by kernel_rfl) rfl (fun h' e => OpP.loadRowN H.ag39 H.sz39 rfl (e.rowAt hMa w7.row) (by first | rfl | simp)) ?_
         refine xtp 1 3 (by kernel_rfl) rfl (fun h' e => OpP.loadRowN H.ag45 H.sz45 rfl (e.rowAt hMb p7.row) (by first | rfl | simp)) ?_
         refine xtq 2 7 (by kernel_rfl) rfl ?_
         refine xtq 4 23 (by kernel_rfl) rfl ?_
         refine xto 3 31 (by kernel_rfl) rfl (OpX.call (vs := [_, _]) Tryd.func51 rfl H.nm51 rfl (CallsH.toX (after_calls (hg.ext0 e07) st rl hst))) ?_
         rintro _ h8 ⟨rfl, e8⟩
         refine ⟨fun _ => e8.mono (fun _ _ k => k.elim), ?_⟩
         have w8' := w7.ext0 e8
         refine xt0 5 63 (by kernel_rfl) rfl (OpX.storeBlk H.sz39 rfl rfl w8' (by first | rfl | simp) (by first | decide | exact of_decide_eq_true rfl | (simp; done) | (simp; omega)) (tk_one _)) ?_
         rintro _ h9 ⟨rfl, w9', x9, z9⟩
         refine ⟨fun _ => (same_ext w8' w9' x9).mono (fun _ _ k => k.elim), ?_⟩
         have w9' : Blk h9 h1.size 39 (encTk (4, (i : Int), ((i + L : Nat) : Int))) := w9'
         have e9 := same_ext w8' w9' x9
         have p9' := (p9.ext0 e8).ext0 e9
         refine xt0 6 127 (by kernel_rfl) rfl (OpX.storeBlk H.sz45 rfl rfl p9' (by first | rfl | simp) (by first | decide | exact of_decide_eq_true rfl | (simp; done) | (simp; omega)) (lst_one _)) ?_
         rintro _ h10 ⟨rfl, w10, x10, z10⟩
         refine ⟨fun _ => x10.mono (fun _ _ k => .inl k), ?_⟩
         have w10 : Blk h10 h2.size 45 (encLSt (afterP st rl)) := w10
         have w11 := w9'.ext x10 (show ¬ h1.size = h2.size by omega)
         refine xtq 7 255 (by kernel_rfl) rfl ?_
         refine RD.done (by kernel_rfl) ?_
         refine xu [0, 1, 2, 3, 7, 8, 9, 10, 11, 12, 27, 41, 76] rfl ?_
         refine G.retC Tryd.func29 rfl (.cons (ResOk.rowN H.ag39 H.sz39 rfl (w11.row) (by first | rfl | simp)) (.cons (ResOk.rowN H.ag45 H.sz45 rfl (w10.row) (by first | rfl | simp)) (.cons (ResOk.tmp rfl) (.nil)))) ?_
         have y10 := x10.size
         exact ⟨_, rfl, by rw [if_pos hw]; rfl, Ext0.only ((e07.trans e8).trans e9) x10 (by omega)⟩
       · have hMa : ¬ (h1.size = h2.size ∨ Array.size h6 ≤ h1.size) := by have := e03.size; have := e5.size; omega
         have hMb : ¬ (h.size = h2.size ∨ Array.size h6 ≤ h.size) := by have := e03.size; have := e5.size; omega
         refine G.skip rfl ?_
         refine G.seq rfl ?_
         refine G.draw (fun b => b = Array.size h2 ∨ Array.size h6 ≤ b) (fun i => Nat.blt i 7) (sz := 8) (listed := #[false, false, false, false, false, false, false, false]) Tryd.func29 H.mixed rfl rfl rfl ?_
         refine xtp 0 1 (by kernel_rfl) rfl (fun h' e => OpP.loadRowN H.ag39 H.sz39 rfl (e.rowAt hMa w8.row) (by first | rfl | simp)) ?_
         refine xtp 1 3 (by kernel_rfl) rfl (fun h' e => OpP.loadRowN H.ag45 H.sz45 rfl (e.rowAt hMb r7.row) (by first | rfl | simp)) ?_
         refine xtq 2 7 (by kernel_rfl) rfl ?_
         refine xtq 4 23 (by kernel_rfl) rfl ?_
         refine xto 3 31 (by kernel_rfl) rfl (OpX.call (vs := [_, _]) Tryd.func51 rfl H.nm51 rfl (CallsH.toX (after_calls (hg.ext0 e06) st rl hst))) ?_
         rintro _ h8 ⟨rfl, e8⟩
         refine ⟨fun _ => e8.mono (fun _ _ k => k.elim), ?_⟩
         have w8' := w8.ext0 e8
         refine xt0 5 63 (by kernel_rfl) rfl (OpX.storeBlk H.sz39 rfl rfl w8' (by first | rfl | simp) (by first | decide | exact of_decide_eq_true rfl | (simp; done) | (simp; omega)) (tk_one _)) ?_
         rintro _ h9 ⟨rfl, w9', x9, z9⟩
         refine ⟨fun _ => (same_ext w8' w9' x9).mono (fun _ _ k => k.elim), ?_⟩
         have w9' : Blk h9 h1.size 39 (encTk (kd, (i : Int), ((i + L : Nat) : Int))) := w9'
         have e9 := same_ext w8' w9' x9
         have p9' := (r9.ext0 e8).ext0 e9
         refine xt0 6 127 (by kernel_rfl) rfl (OpX.storeBlk H.sz45 rfl rfl p9' (by first | rfl | simp) (by first | decide | exact of_decide_eq_true rfl | (simp; done) | (simp; omega)) (lst_one _)) ?_
         rintro _ h10 ⟨rfl, w10, x10, z10⟩
         refine ⟨fun _ => x10.mono (fun _ _ k => .inl k), ?_⟩
         have w10 : Blk h10 h2.size 45 (encLSt (afterP st rl)) := w10
         have w11 := w9'.ext x10 (show ¬ h1.size = h2.size by omega)
         refine xtq 7 255 (by kernel_rfl) rfl ?_
         refine RD.done (by kernel_rfl) ?_
         refine xu [0, 1, 2, 3, 7, 8, 9, 10, 11, 12, 27, 41, 76] rfl ?_
         refine G.retC Tryd.func29 rfl (.cons (ResOk.rowN H.ag39 H.sz39 rfl (w11.row) (by first | rfl | simp)) (.cons (ResOk.rowN H.ag45 H.sz45 rfl (w10.row) (by first | rfl | simp)) (.cons (ResOk.tmp rfl) (.nil)))) ?_
         have y10 := x10.size
         exact ⟨_, rfl, by rw [if_neg hw]; rfl, Ext0.only ((e06.trans e8).trans e9) x10 (by omega)⟩
def eTk : Elt Tk := .record 3 (by decide) encTk (fun _ => rfl) tk_one
end Go.Proofs.YtlkmlfofhbekoaaDoor
namespace Go.Proofs.YtlkmlfofhbekoaaDoor
open Go
theorem go_I64 : ∀ (j : Nat) (l : By) (a : Nat) (st : LSt), I64 st.2 → I64 (goG j l a st).2.2
 | 0, l, a, st, h => h
 | j + 1, l, a, st, h => by
  rw [goG]
  split
  · exact h
  · exact go_I64 j _ _ _ (nxt_I64 h l)
theorem I64_zero : I64 ((0, 0) : LSt).2 := by unfold I64; simp
structure Taking (s s' : By) (lim : Nat) (d : Int) (p : Nat) (toks : List Tk) (sts : List LSt) (a : Nat) (st : LSt) : Prop where
 le : a ≤ s'.length
 ge : p ≤ a
 len : toks.length ≤ (allP s').1.length
 go : goG toks.length s' 0 (0, 0) = (a, st)
 htoks : toks = (allP s').1.take toks.length
 hsts : sts = (stsP s').take toks.length
 no : ∀ x, p ≤ x → x < a → lim ≤ x → ¬ SyncP s s' d x
theorem all_split {s : By} {j : Nat} (hj : j ≤ (allP s).1.length) : allP s = ((allP s).1.take j ++ (allG s.length (s.drop (goG j s 0 (0, 0)).1) (goG j s 0 (0, 0)).1 (goG j s 0 (0, 0)).2).1, (allG s.length (s.drop (goG j s 0 (0, 0)).1) (goG j s 0 (0, 0)).1 (goG j s 0 (0, 0)).2).2) ∧
 stsP s = (stsP s).take j ++ stsG s.length (s.drop (goG j s 0 (0, 0)).1) (goG j s 0 (0, 0)).2 := by
 have := go_all j s.length s 0 (0, 0) (Nat.le_refl _) hj
 rw [Nat.sub_zero] at this
 exact this
theorem all_drop {s : By} {j : Nat} (hj : j ≤ (allP s).1.length) : (allP s).1.drop j = (allG s.length (s.drop (goG j s 0 (0, 0)).1) (goG j s 0 (0, 0)).1 (goG j s 0 (0, 0)).2).1 ∧ (allP s).2 = (allG s.length (s.drop (goG j s 0 (0, 0)).1) (goG j s 0 (0, 0)).1 (goG j s 0 (0, 0)).2).2 ∧
 (stsP s).drop j = stsG s.length (s.drop (goG j s 0 (0, 0)).1) (goG j s 0 (0, 0)).2 := by
 obtain ⟨h1, h2⟩ := all_split hj
 have e1 := congrArg Prod.fst h1
 have e2 := congrArg Prod.snd h1
 simp only at e1 e2
 have hs := stsP_len s
 refine ⟨?_, e2, ?_⟩
 · have := congrArg (List.drop j) e1
   rw [List.drop_append, List.drop_take, Nat.sub_self, List.take_zero, List.nil_append, List.length_take, show j - min j (allP s).1.length = 0 by omega, List.drop_zero] at this
   exact this
 · have := congrArg (List.drop j) h2
   rw [List.drop_append, List.drop_take, Nat.sub_self, List.take_zero, List.nil_append, List.length_take, show j - min j (stsP s).length = 0 by omega, List.drop_zero] at this
   exact this
theorem go_end {s : By} {j : Nat} (hj : j ≤ (allP s).1.length) : j < (allP s).1.length ↔ (goG j s 0 (0, 0)).1 < s.length := by
 have hg := goG_ge j s 0 (0, 0)
 constructor
 · intro h; exact (tokP h).1
 · intro h
   rcases Nat.lt_or_ge j (allP s).1.length with k | k
   · exact k
   · exfalso
     have := (all_drop hj).1
     rw [List.drop_of_length_le k] at this
     have hne : s.drop (goG j s 0 (0, 0)).1 ≠ [] := fun e => by have := congrArg List.length e; rw [List.length_drop] at this; simp at this; omega
     rw [allG_step hne (by rw [List.length_drop]; omega)] at this
     cases this
theorem go_inj {s : By} {i j : Nat} (hi : i < (allP s).1.length) (hj : j < (allP s).1.length) (h : (goG i s 0 (0, 0)).1 = (goG j s 0 (0, 0)).1) : i = j := by
 rcases Nat.lt_trichotomy i j with k | k | k
 · have := go_lt (j := i) (i := j) (n := s.length) (l := s) (a := 0) (st := (0, 0)) (Nat.le_refl _) hj k; omega
 · exact k
 · have := go_lt (j := j) (i := i) (n := s.length) (l := s) (a := 0) (st := (0, 0)) (Nat.le_refl _) hi k; omega
theorem take_start {s x : By} {i j : Nat} (hij : i ≤ j) (hj : j ≤ s.length) {p : Pt} (hb : IsBef (ptsP s) i p) {k : Nat} (hk : k ≤ (allP s).1.length)
 (h1 : ∀ (q : Nat) (t : Tk), q < k → (allP s).1[q]? = some t → t.2.1 < p.1) (h2 : ∀ (q : Nat) (t : Tk), k ≤ q → (allP s).1[q]? = some t → p.1 ≤ t.2.1) (lim : Nat) (d : Int) :
 ∃ a : Nat, p.1 = a ∧ a ≤ i ∧ Taking s (edP s i j x) lim d a ((allP s).1.take k) ((sts0 s).take k) a p.2 := by
 have hs := stsP_len s
 by_cases hp : p = (0, (0, 0))
 · subst hp
   have k0 : k = 0 := by
    rcases Nat.eq_zero_or_pos k with h | h
    · exact h
    · exfalso
      have ht : (allP s).1[0]? = some (allP s).1[0] := List.getElem?_eq_getElem (by omega)
      have := h1 0 _ h ht
      have := (tok_pos ht).1
      simp only at *; omega
   subst k0
   exact ⟨0, rfl, Nat.zero_le _, Nat.zero_le _, Nat.le_refl _, by simp, by simp [goG], by simp, by simp, fun x h3 h4 => by omega⟩
 · obtain ⟨hm, hle, _⟩ := hb
   have hle := hle.resolve_right hp
   rcases ptsP_mem hm with h | ⟨q, hq, hq1, hq2⟩
   · exact absurd h hp
   · have ht : (allP s).1[q]? = some (allP s).1[q] := List.getElem?_eq_getElem hq
     have hf := tok_from ht
     have kq : k = q := by
      rcases Nat.lt_trichotomy k q with h | h | h
      · exfalso
        have hu : (allP s).1[k]? = some (allP s).1[k] := List.getElem?_eq_getElem (by omega)
        have h3 := tok_lt hu ht h
        have h4 := h2 k _ (Nat.le_refl _) hu
        omega
      · exact h
      · exfalso
        have := h1 q _ h ht
        omega
     subst kq
     have hA : s = s.take i ++ s.drop i := (List.take_append_drop i s).symm
     have hE : edP s i j x = s.take i ++ (x ++ s.drop j) := by unfold edP; rw [List.append_assoc]
     have hlen : (s.take i).length = i := by rw [List.length_take]; omega
     obtain ⟨g1, g2, g3, g4⟩ := pre_agree k s.length (edP s i j x).length (s.take i) (s.drop i) (x ++ s.drop j) 0 (0, 0) (by rw [← hA]; exact Nat.le_refl _) (by rw [← hE]; exact Nat.le_refl _) (by rw [← hA]; exact hk) (.inr (by rw [← hA, hlen]; omega))
     rw [← hE] at g1 g2 g3 g4
     rw [← hA] at g1 g3 g4
     have hgk : goG k s 0 (0, 0) = ((goG k s 0 (0, 0)).1, p.2) := by rw [← hq2]
     have hl : ((allP s).1.take k).length = k := by rw [List.length_take]; omega
     refine ⟨(goG k s 0 (0, 0)).1, hq1.symm, by omega, ?_, Nat.le_refl _, ?_, ?_, ?_, ?_, fun y h3 h4 => by omega⟩
     · have := goG_ge k (edP s i j x) 0 (0, 0)
       rw [g1] at this; omega
     · rw [hl]; exact g2
     · rw [hl, g1]; exact hgk
     · rw [hl]; exact g3.symm
     · rw [hl]
       have : (sts0 s).take k = (stsP s).take k := by
        rw [stsP_end, List.take_append_of_le_length (by rw [sts0_len]; omega)]
       rw [this]; exact g4.symm
section
variable {s s' : By} {lim : Nat} {d : Int} {p : Nat} {toks : List Tk} {sts : List LSt} {a : Nat} {st : LSt}
theorem Taking.lt (k : Taking s s' lim d p toks sts a st) (ha : a < s'.length) : toks.length < (allP s').1.length := by
 rw [go_end k.len, k.go]; exact ha
theorem Taking.i64 (k : Taking s s' lim d p toks sts a st) : I64 st.2 := by
 have := go_I64 toks.length s' 0 (0, 0) I64_zero
 rw [k.go] at this; exact this
theorem Taking.slen (k : Taking s s' lim d p toks sts a st) : sts.length = toks.length := by
 have h1 := k.hsts
 have h2 := k.len
 have h3 := stsP_len s'
 rw [h1, List.length_take]; omega
theorem Taking.step (k : Taking s s' lim d p toks sts a st) (ha : a < s'.length) (hn : lim ≤ a → ¬ SyncP s s' d a) :
 Taking s s' lim d p (toks ++ [(kndP (s'.drop a) st.1, (a : Int), ((a + lenP (s'.drop a) st.1 : Nat) : Int))]) (sts ++ [st]) (a + lenP (s'.drop a) st.1) (nxtP (s'.drop a) st) := by
 have hl := k.lt ha
 obtain ⟨t1, t2, t3, t4, t5⟩ := tokP hl
 rw [k.go] at t1 t2 t3 t4 t5
 simp only at t1 t2 t3 t4 t5
 have hne : s'.drop a ≠ [] := fun e => by have := congrArg List.length e; rw [List.length_drop] at this; simp at this; omega
 have h3 := lenP_len hne st.1
 rw [List.length_drop] at h3
 have hgo : goG (toks.length + 1) s' 0 (0, 0) = (a + lenP (s'.drop a) st.1, nxtP (s'.drop a) st) := by rw [← t4, ← t5]
 have hsl := stsP_len s'
 refine ⟨by omega, by have := k.ge; omega, by rw [List.length_append, List.length_singleton]; omega, by rw [List.length_append, List.length_singleton]; exact hgo, ?_, ?_, fun x h1 h2 h4 hsy => ?_⟩
 · rw [List.length_append, List.length_singleton, List.take_add_one, t2, ← k.htoks]; rfl
 · rw [List.length_append, List.length_singleton, List.take_add_one, t3, ← k.hsts]; rfl
 · rcases Nat.lt_trichotomy x a with h | h | h
   · exact k.no x h1 h h4 hsy
   · subst h; exact hn h4 hsy
   · obtain ⟨_, st1, _, _, ⟨q, hq, hqg⟩⟩ := hsy
     have hqx : (goG q s' 0 (0, 0)).1 = x := by rw [hqg]
     have hag : (goG toks.length s' 0 (0, 0)).1 = a := by rw [k.go]
     have hlt : toks.length < q := by
      rcases Nat.lt_trichotomy toks.length q with h5 | h5 | h5
      · exact h5
      · subst h5; omega
      · have := go_lt (j := q) (i := toks.length) (n := s'.length) (l := s') (a := 0) (st := (0, 0)) (Nat.le_refl _) hl h5; omega
     rcases Nat.lt_or_ge (toks.length + 1) q with h5 | h5
     · have := go_lt (j := toks.length + 1) (i := q) (n := s'.length) (l := s') (a := 0) (st := (0, 0)) (Nat.le_refl _) hq h5
       rw [hgo] at this
       simp only at this; omega
     · obtain rfl : q = toks.length + 1 := by omega
       rw [hgo] at hqx
       simp only at hqx; omega
theorem no_sync (k : Taking s s' lim d p toks sts a st) (ha : a < s'.length) {old : Nat} (h1 : ∀ (r : Nat) (t : Tk), r < old → (allP s).1[r]? = some t → t.2.1 + d < max (a : Int) lim)
 (h2 : ∀ t : Tk, (allP s).1[old]? = some t → ¬ t.2.1 + d < a) (h3 : lim ≤ a → ∀ t : Tk, (allP s).1[old]? = some t → t.2.1 + d = a → ¬ (sts0 s)[old]? = some st) (hl : lim ≤ a) : ¬ SyncP s s' d a := by
 rintro ⟨a0, st0, ⟨r, hr, hrg⟩, hd, ⟨q, hq, hqg⟩⟩
 have hqt : q = toks.length := go_inj hq (k.lt ha) (by rw [hqg, k.go])
 subst hqt
 rw [k.go] at hqg
 obtain rfl : st = st0 := congrArg Prod.snd hqg
 have ht : (allP s).1[r]? = some (allP s).1[r] := List.getElem?_eq_getElem hr
 have hf := tok_from ht
 rw [hrg] at hf
 simp only at hf
 have hro : old ≤ r := by
  rcases Nat.lt_or_ge r old with h | h
  · exfalso
    have := h1 r _ h ht
    omega
  · exact h
 have hu : (allP s).1[old]? = some (allP s).1[old] := List.getElem?_eq_getElem (by omega)
 have h4 := h2 _ hu
 rcases Nat.lt_or_ge old r with h | h
 · have := tok_lt hu ht h; omega
 · obtain rfl : old = r := by omega
   refine h3 hl _ ht (by omega) ?_
   rw [sts0_at hr, (tokP hr).2.2.1, hrg]
theorem Taking.done (k : Taking s s' lim d p toks sts a st) (ha : a = s'.length) : toks = (allP s').1 ∧ sts = sts0 s' ∧ st = (allP s').2 := by
 have hl : toks.length = (allP s').1.length := by
  rcases Nat.lt_or_ge toks.length (allP s').1.length with h | h
  · rw [go_end k.len, k.go] at h; simp only at h; omega
  · have := k.len; omega
 refine ⟨by rw [k.htoks, hl, List.take_length], ?_, ?_⟩
 · rw [k.hsts, hl]
   have := sts0_len s'
   rw [stsP_end, List.take_append_of_le_length (by omega), ← this, List.take_length]
 · have := (all_drop k.len).2.1
   rw [k.go] at this
   simp only at this
   rw [this, ha, List.drop_length, allG_nil]
end
theorem drop_same {s x : By} {i j a b : Nat} (hij : i ≤ j) (hj : j ≤ s.length) (ha : i + x.length ≤ a) (hab : (b : Int) + ((x.length : Int) - ((j : Int) - i)) = a) : (edP s i j x).drop a = s.drop b := by
 unfold edP
 have hl : (s.take i ++ x).length = i + x.length := by rw [List.length_append, List.length_take]; omega
 rw [List.drop_append, List.drop_of_length_le (by omega), List.nil_append, List.drop_drop, hl]
 congr 1; omega
theorem Taking.sync {s x : By} {i j : Nat} (hij : i ≤ j) (hj : j ≤ s.length) {p : Nat} {toks : List Tk} {sts : List LSt} {a : Nat} {st : LSt} {d : Int} (hd : d = (x.length : Int) - ((j : Int) - i)) (k : Taking s (edP s i j x) (i + x.length) d p toks sts a st)
 (ha : i + x.length ≤ a) {old : Nat} {t : Tk} (ht : (allP s).1[old]? = some t) (h1 : t.2.1 + d = a) (h2 : (sts0 s)[old]? = some st) :
 toks ++ ((allP s).1.drop old).map (shT d) = (allP (edP s i j x)).1 ∧ sts ++ (sts0 s).drop old = sts0 (edP s i j x) ∧ (allP s).2 = (allP (edP s i j x)).2 := by
 subst hd
 have ho := (List.getElem?_eq_some_iff.1 ht).1
 have hf := tok_from ht
 obtain ⟨b1, b2, b3⟩ := all_drop (s := s) (j := old) (by omega)
 obtain ⟨c1, c2, c3⟩ := all_drop k.len
 rw [k.go] at c1 c2 c3
 simp only at c1 c2 c3
 have hst : (goG old s 0 (0, 0)).2 = st := by
  rw [sts0_at ho, (tokP ho).2.2.1] at h2
  exact Option.some.inj h2
 rw [hst] at b1 b2 b3
 have hb : ((goG old s 0 (0, 0)).1 : Int) + ((x.length : Int) - ((j : Int) - i)) = a := by omega
 rw [drop_same hij hj ha hb] at c1 c2 c3
 generalize (goG old s 0 (0, 0)).1 = b at *
 have hbl : (s.drop b).length ≤ s.length := by rw [List.length_drop]; omega
 have hbl' : (s.drop b).length ≤ (edP s i j x).length := by rw [← drop_same hij hj ha hb, List.length_drop]; omega
 have hsh := allG_shift ((x.length : Int) - ((j : Int) - i)) (edP s i j x).length (s.drop b) b a st hb.symm
 rw [allG_more _ s.length (s.drop b) b st hbl' hbl] at hsh
 rw [hsh] at c1 c2
 simp only at c1 c2
 rw [stsG_more _ s.length (s.drop b) st hbl' hbl] at c3
 refine ⟨?_, ?_, by rw [b2, c2]⟩
 · rw [b1]
   conv => lhs; rw [k.htoks]
   rw [← c1, List.take_append_drop]
 · have hd1 : (stsP s).drop old = (sts0 s).drop old ++ [(allP s).2] := by
    have := sts0_len s
    rw [stsP_end, List.drop_append_of_le_length (by omega)]
   have e : sts ++ (sts0 s).drop old ++ [(allP s).2] = sts0 (edP s i j x) ++ [(allP (edP s i j x)).2] := by
    rw [← stsP_end, List.append_assoc, ← hd1, b3, ← c3]
    conv => lhs; rw [k.hsts]
    rw [List.take_append_drop]
   exact (List.append_inj' e rfl).1
end Go.Proofs.YtlkmlfofhbekoaaDoor
namespace Go.Proofs.YtlkmlfofhbekoaaDoor
open Go Go.Lw
set_option maxRecDepth 20000
theorem fieldsT : Tryd.prog.underlying 39 = some (.struct (Tryd.prog.fieldsOf 39)) := by kernel_rfl
theorem stoodT : Tryd.prog.stoodInHeld 39 = false := by kernel_rfl
theorem guardT : Tryd.prog.eqGuardType Tryd.prog.depth 39 = false := by kernel_rfl
theorem fieldsS : Tryd.prog.underlying 45 = some (.struct (Tryd.prog.fieldsOf 45)) := by kernel_rfl
theorem stoodS : Tryd.prog.stoodInHeld 45 = false := by kernel_rfl
theorem guardS : Tryd.prog.eqGuardType Tryd.prog.depth 45 = false := by kernel_rfl
theorem tkEqG {t : TypeId} (hf : ∃ f0 f1 f2 : Field, (Tryd.prog.fieldsOf t).toList = [f0, f1, f2] ∧ (f0.name ≠ "_" ∧ f0.type = 3 ∧ f0.offset = 0) ∧ (f1.name ≠ "_" ∧ f1.type = 3 ∧ f1.offset = 1) ∧ (f2.name ≠ "_" ∧ f2.type = 3 ∧ f2.offset = 2))
 (hi : isRowT Tryd.prog 3 = some false) (x y : Tk) (w : World) : (Op.eqFields 9999 (encTk x).toArray (encTk y).toArray (Tryd.prog.fieldsOf t).toList).run Tryd.prog w = .ok (decide (x = y)) w := by
 obtain ⟨f0, f1, f2, e, ⟨n0, t0, o0⟩, ⟨n1, t1, o1⟩, ⟨n2, t2, o2⟩⟩ := hf
 rw [e]
 have h2 := eqFields_one (P := Tryd.prog) (d := 9999) (xs := (encTk x).toArray) (ys := (encTk y).toArray) (fs := []) (w := w) n2 (by rw [t2]; exact hi) (u := .int .i64 x.2.2) (v := .int .i64 y.2.2) (by rw [o2]; rfl) (by rw [o2]; rfl) (by rw [t2]; exact run_equalIn_int w 9998 _ _ _ _ _ Tryd.underlying3) rfl
 have h1 := eqFields_one n1 (by rw [t1]; exact hi) (u := .int .i64 x.2.1) (v := .int .i64 y.2.1) (by rw [o1]; rfl) (by rw [o1]; rfl) (by rw [t1]; exact run_equalIn_int w 9998 _ _ _ _ _ Tryd.underlying3) h2
 have h0 := eqFields_one n0 (by rw [t0]; exact hi) (u := .int .i64 x.1) (v := .int .i64 y.1) (by rw [o0]; rfl) (by rw [o0]; rfl) (by rw [t0]; exact run_equalIn_int w 9998 _ _ _ _ _ Tryd.underlying3) h1
 rw [h0]
 congr 1
 obtain ⟨a, b, c⟩ := x
 obtain ⟨a', b', c'⟩ := y
 simp only [Prod.mk.injEq, beq_dec, Bool.and_true]
 rw [Bool.eq_iff_iff]
 simp
theorem tkEq (x y : Tk) (w : World) : (Op.eqFields 9999 (encTk x).toArray (encTk y).toArray (Tryd.prog.fieldsOf 39).toList).run Tryd.prog w = .ok (decide (x = y)) w :=
 tkEqG ⟨_, _, _, rfl, ⟨by decide, rfl, rfl⟩, ⟨by decide, rfl, rfl⟩, ⟨by decide, rfl, rfl⟩⟩ (by kernel_rfl) x y w
theorem stEqG {t : TypeId} (hf : ∃ f0 f1 : Field, (Tryd.prog.fieldsOf t).toList = [f0, f1] ∧ (f0.name ≠ "_" ∧ f0.type = 3 ∧ f0.offset = 0) ∧ (f1.name ≠ "_" ∧ f1.type = 3 ∧ f1.offset = 1))
 (hi : isRowT Tryd.prog 3 = some false) (x y : LSt) (w : World) : (Op.eqFields 9999 (encLSt x).toArray (encLSt y).toArray (Tryd.prog.fieldsOf t).toList).run Tryd.prog w = .ok (decide (x = y)) w := by
 obtain ⟨f0, f1, e, ⟨n0, t0, o0⟩, ⟨n1, t1, o1⟩⟩ := hf
 rw [e]
 have h1 := eqFields_one (P := Tryd.prog) (d := 9999) (xs := (encLSt x).toArray) (ys := (encLSt y).toArray) (fs := []) (w := w) n1 (by rw [t1]; exact hi) (u := .int .i64 x.2) (v := .int .i64 y.2) (by rw [o1]; rfl) (by rw [o1]; rfl) (by rw [t1]; exact run_equalIn_int w 9998 _ _ _ _ _ Tryd.underlying3) rfl
 have h0 := eqFields_one n0 (by rw [t0]; exact hi) (u := .int .i64 x.1) (v := .int .i64 y.1) (by rw [o0]; rfl) (by rw [o0]; rfl) (by rw [t0]; exact run_equalIn_int w 9998 _ _ _ _ _ Tryd.underlying3) h1
 rw [h0]
 congr 1
 obtain ⟨a, b⟩ := x
 obtain ⟨a', b'⟩ := y
 simp only [Prod.mk.injEq, beq_dec, Bool.and_true]
 rw [Bool.eq_iff_iff]
 simp
theorem stEq (x y : LSt) (w : World) : (Op.eqFields 9999 (encLSt x).toArray (encLSt y).toArray (Tryd.prog.fieldsOf 45).toList).run Tryd.prog w = .ok (decide (x = y)) w :=
 stEqG ⟨_, _, rfl, ⟨by decide, rfl, rfl⟩, ⟨by decide, rfl, rfl⟩⟩ (by kernel_rfl) x y w
def flat2 (l : List Tk) : List Int := l.flatMap fun t => [t.1, t.2.2]
end Go.Proofs.YtlkmlfofhbekoaaDoor
namespace Go.Lw
structure FnOk (P : Program) (g : FuncId) : Prop where
 ok : ∃ fn, P.funcs[g]? = some fn ∧ fn.body.isSome = true ∧ (fn.name == "runtime.NumGoroutine") = false
section
variable {P : Program} {ρ : Env} {h : Heap} {dst : Option Nat} {ty : TypeId} {pos : String} {after : Array Edge} {guard : Option (Nat × Bool)}
theorem OpX.callF {x : Operand} {g : FuncId} {caps : List Value} {xs : Array Operand} {ts : Array TypeId} {vs : List Value} {Φ : Value → Heap → Prop} {X : List PanicEntry → Heap → Prop} (hx : opd ρ x = some (.func (.func g) #[] caps.toArray))
 (hf0 : FnOk P g) (hvs : xs.toList.map (opd ρ) = vs.map some) (k : CallsH P g (vs ++ caps).toArray h (fun e h' => match e with | .returned v => Φ v h' | .panicked c => X c h' | .outgrown => False)) :
 OpX P ⟨dst, .call ⟨.value x, xs, ts⟩, ty, pos, after, guard⟩ ρ h Φ X := by
 obtain ⟨fn, hfn, hb, hnm⟩ := hf0.ok
 intro n B a w hf ha next Q hn hq
 have hargs : xs.map a.eval = vs.toArray := by
  apply Array.ext'
  simp only [Array.toList_map]
  have : ∀ (l : List Operand) (us : List Value), l.map (opd ρ) = us.map some → l.map a.eval = us := by
   intro l
   induction l with
   | nil => intro us hu; cases us <;> simp_all
   | cons x r ih =>
    intro us hu
    cases us with
    | nil => simp at hu
    | cons u us =>
     simp only [List.map_cons, List.cons.injEq] at hu ⊢
     exact ⟨hf.eval hu.1, ih us hu.2⟩
  exact this _ _ hvs
 have hrun : (execOp a.eval ⟨dst, .call ⟨.value x, xs, ts⟩, ty, pos, after, guard⟩).run P w = .ok (.enter g (vs ++ caps).toArray) w := by
  have hb' : fn.body ≠ none := by intro hbb; simp [hbb] at hb
  have hnm' : ¬ fn.name = "runtime.NumGoroutine" := by simpa using hnm
  simp [execOp, resolve, hf.eval hx, Deferred.ofValue, invoke, callFunc, hfn, hnm', hb', hargs]
 unfold Oper.wp
 rw [hrun]
 refine (k B w ha).mono fun e w' ⟨h', ha', hr⟩ => ?_
 cases e with
 | returned v => exact hn v h' w' ha' hr
 | panicked c => exact hq c h' w' ha' hr
 | outgrown => exact hr.elim
end
end Go.Lw
namespace Go.Proofs.YtlkmlfofhbekoaaDoor
open Go Go.Lw
set_option maxRecDepth 20000
theorem half_val {a b : Nat} (hb : a + b < 4611686018427387904) : Int.fdiv ((a : Int) + (b : Int)) (2 ^ min ((1 : Int).toNat) IntKind.u64.bits) = (((a + b) / 2 : Nat) : Int) := by
 have : (2 : Int) ^ min ((1 : Int).toNat) IntKind.u64.bits = 2 := by decide
 rw [this, Int.fdiv_eq_ediv_of_nonneg _ (by decide)]
 omega
theorem search_calls {h : Heap} {g : FuncId} {caps : List Value} (hf : FnOk Tryd.prog g) (n : Nat) (hn : n ≤ 1000000) (p : Nat → Bool) (hp : ∀ i : Nat, i < n → CallsH Tryd.prog g ([Value.int .i64 (i : Nat)] ++ caps).toArray h (Ret fun r h' => r = .bool (p i) ∧ h' = h)) :
 CallsH Tryd.prog 43 #[.int .i64 (n : Nat), .func (.func g) #[] caps.toArray] h (Ret fun r h' => (∃ k : Nat, r = .int .i64 (k : Nat) ∧ k ≤ n ∧ (0 < k → p (k - 1) = false) ∧ (k < n → p k = true)) ∧ h' = h) := by
 refine CallsH.of Tryd.func43 rfl rfl ?_
 refine xrd Tryd.func43 1 [0, 1, 4] rfl ?_
 refine xrd Tryd.func43 3 [0, 1, 4, 5, 6] rfl ?_
 refine G.seq rfl ?_
 refine G.block rfl rfl ?_
 refine G.loop (σ := Nat × Nat) (fun q => [(1, .func (.func g) #[] caps.toArray), (5, .int .i64 (q.1 : Nat)), (6, .int .i64 (q.2 : Nat))]) (fun q h' => h' = h ∧ q.1 ≤ q.2 ∧ q.2 ≤ n ∧ (0 < q.1 → p (q.1 - 1) = false) ∧ (q.2 < n → p q.2 = true)) (fun q => q.2 - q.1) ((0, n)) rfl ⟨rfl, rfl, rfl, trivial⟩ ⟨rfl, Nat.zero_le _, Nat.le_refl _, fun k => absurd k (Nat.lt_irrefl _), fun k => absurd k (Nat.lt_irrefl _)⟩ ?_
 rintro ⟨i, j⟩ w ⟨rfl, hij, hj, h1, h2⟩ ih
 try dsimp only
 dsimp only at hij hj h1 h2
 refine G.seq rfl ?_
 refine xrd Tryd.func43 3 [1, 5, 6, 11] rfl ?_
 refine G.ite rfl rfl (fun hlt => ?_) (fun hlt => ?_)
 · have hlt' : i < j := by omega
   have hm : (i + j) / 2 < n := by omega
   refine G.skip rfl ?_
   refine G.block rfl rfl ?_
   refine xra Tryd.func43 2 rfl ?_
   refine xp rfl (OpP.add64 rfl rfl ⟨by omega, by omega⟩) ?_
   refine xp rfl (OpP.convIn Tryd.underlying3 Tryd.underlying146 rfl (wrap_u64' (by omega))) ?_
   refine xp rfl (OpP.shr rfl rfl (by decide)) ?_
   rw [half_val (by omega)]
   have hpm := hp ((i + j) / 2) hm
   generalize hmm : (i + j) / 2 = m at *
   refine xp rfl (OpP.convIn Tryd.underlying146 Tryd.underlying3 rfl (wrap_i64 ⟨by omega, by omega⟩)) ?_
   refine xqd 1 [1, 5, 6, 7, 11] rfl ?_
   refine xra Tryd.func43 2 rfl ?_
   refine xo rfl (OpX.callF (vs := [_]) rfl hf rfl (CallsH.toX (hpm))) ?_
   rintro _ w1 ⟨rfl, hw1⟩
   refine xqd 1 [1, 5, 6, 7, 11, 21] rfl ?_
   subst hw1
   refine G.cond rfl rfl (fun hb => ?_) (fun hb => ?_)
   · have hb' : p m = false := by simpa using hb
     refine G.reg Tryd.func43 rfl ?_
     refine xqp 1 rfl rfl (OpP.add64 rfl rfl ⟨by omega, by omega⟩) ?_
     refine xqd 1 [1, 5, 6, 7, 11, 21] rfl ?_
     refine G.blkEnd ?_
     exact ih (m + 1, j) _ _ ⟨rfl, rfl, rfl, trivial⟩ ⟨rfl, by show m + 1 ≤ j; omega, hj, fun _ => by show p (m + 1 - 1) = false; rw [Nat.add_sub_cancel]; exact hb', h2⟩ (by show j - (m + 1) < j - i; omega)
   · have hb' : p m = true := by simpa using hb
     refine G.reg Tryd.func43 rfl ?_
     refine xqd 2 [1, 5, 6, 7, 11, 21] rfl ?_
     refine G.blkEnd ?_
     exact ih (i, m) _ _ ⟨rfl, rfl, rfl, trivial⟩ ⟨rfl, by show i ≤ m; omega, by show m ≤ n; omega, h1, fun _ => hb'⟩ (by show m - i < j - i; omega)
 · obtain rfl : i = j := by omega
   refine G.exit rfl rfl ?_
   refine xrd Tryd.func43 2 [1, 4, 5, 6, 11] rfl ?_
   refine G.ret Tryd.func43 rfl rfl ?_
   exact ⟨_, rfl, ⟨i, rfl, hj, h1, h2⟩, rfl⟩
theorem first1_calls {h : Heap} {b1 b2 : Nat} {v : Value} {O : Nat → Prop} {xs : List Tk} {a : Int} (k1 : Blk h b1 36 [v]) (k2 : Blk h b2 3 [.int .i64 a]) (hv : SlR eTk h O v xs) (i : Nat) {t : Tk} (ht : xs[i]? = some t) :
 CallsH Tryd.prog 45 #[.int .i64 (i : Nat), .pointer (some ⟨b1, 0, none⟩), .pointer (some ⟨b2, 0, none⟩)] h (Ret fun r h' => r = .bool (decide (a ≤ t.2.1)) ∧ h' = h) := by
 obtain ⟨va, vn, vc, rfl, hvs⟩ := hv.open
 have hl : xs.length = vn := hvs.len
 have hi := (List.getElem?_eq_some_iff.1 ht).1
 obtain ⟨bb, o, t', ha, _, ht', hrow⟩ := hvs.recd (i := i) (by omega)
 obtain rfl : t' = t := Option.some.inj (ht'.symm.trans ht)
 refine CallsH.of Tryd.func45 rfl rfl ?_
 refine xrd Tryd.func45 1 [0, 1, 2, 4] rfl ?_
 refine G.seq rfl ?_
 refine G.drawQ Tryd.func45 H.mixed rfl (by kernel_rfl) ?_
 refine RQ.pureS rfl rfl rfl rfl (OpP.load H.ag36 rfl (k1.cell (i := 0) rfl)) ?_
 refine RQ.pureS rfl rfl rfl rfl (OpP.move rfl) ?_
 refine RQ.pureS rfl rfl rfl rfl (OpP.indexSlice Tryd.underlying36 H.sz39 rfl rfl i rfl ha (by omega)) ?_
 refine RQ.pureS rfl rfl rfl rfl (OpP.fieldAddr (off := 1) Tryd.underlying39 rfl rfl H.sz3 rfl) ?_
 refine RQ.pureS rfl rfl rfl rfl (OpP.load H.ag3 rfl (hrow 1 _ rfl)) ?_
 refine RQ.pureS rfl rfl rfl rfl (OpP.load H.ag3 rfl (k2.cell (i := 0) rfl)) ?_
 refine RQ.pureS rfl rfl rfl rfl (OpP.geq rfl rfl) ?_
 refine RQ.pureS rfl rfl rfl rfl (OpP.assign rfl) ?_
 refine RQ.done rfl ?_
 refine xu [0, 1, 2, 4] rfl ?_
 refine G.ret Tryd.func45 rfl rfl ?_
 exact ⟨_, rfl, rfl, rfl⟩
theorem first_calls {h : Heap} {v : Value} {O : Nat → Prop} {xs : List Tk} (hv : SlR eTk h O v xs) (hx : xs.length ≤ 1000000) (hs : ∀ (i j : Nat) (t u : Tk), xs[i]? = some t → xs[j]? = some u → i < j → t.2.1 < u.2.1) (a : Int) :
 CallsH Tryd.prog 26 #[v, .int .i64 a] h (Ret fun r h' => (∃ k : Nat, r = .int .i64 (k : Nat) ∧ k ≤ xs.length ∧ (∀ (q : Nat) (t : Tk), q < k → xs[q]? = some t → t.2.1 < a) ∧ (∀ (q : Nat) (t : Tk), k ≤ q → xs[q]? = some t → a ≤ t.2.1)) ∧ Ext0 h h') := by
 obtain ⟨va, vn, vc, rfl, hvs⟩ := id hv.open
 have hl : xs.length = vn := hvs.len
 subst hl
 refine CallsH.of Tryd.func26 rfl rfl ?_
 refine xr Tryd.func26 rfl ?_
 refine xo rfl (OpX.boxN rfl) ?_
 rintro _ h1 ⟨rfl, k1, e1, z1⟩
 refine xo rfl (OpX.boxN rfl) ?_
 rintro _ h2 ⟨rfl, k2, e2, z2⟩
 have k1 : Blk h1 h.size 36 [.slice va xs.length vc] := k1
 have k2 : Blk h2 h1.size 3 [.int .i64 a] := k2
 have e02 := e1.trans e2
 have hsr := search_calls (h := h2) (g := 45) (caps := [.pointer (some ⟨h.size, 0, none⟩), .pointer (some ⟨h1.size, 0, none⟩)]) ⟨_, Tryd.func45, rfl, by kernel_rfl⟩ xs.length hx (fun i => match xs[i]? with | some t => decide (a ≤ t.2.1) | none => false) (fun i hi => by
  have ht : xs[i]? = some xs[i] := List.getElem?_eq_getElem hi
  simp only [ht]
  exact first1_calls (k1.ext0 e2) k2 (hv.ext0 e02) i ht)
 refine xqd 1 [0, 1, 2, 3, 4] rfl ?_
 refine xr Tryd.func26 rfl ?_
 refine xp rfl (OpP.load H.ag36 rfl ((k1.ext0 e2).cell (i := 0) rfl)) ?_
 refine xp rfl (OpP.lenSlice Tryd.underlying36 rfl) ?_
 refine xp rfl (OpP.makeFunc (vs := [_, _]) rfl) ?_
 refine xo rfl (OpX.call (vs := [_, _]) Tryd.func43 rfl H.nm43 rfl (CallsH.toX (hsr))) ?_
 rintro _ h3 ⟨⟨k, rfl, hk, hk1, hk2⟩, hh3⟩
 refine xqd 1 [0, 1, 2, 3, 4] rfl ?_
 subst hh3
 refine G.ret Tryd.func26 rfl rfl ?_
 refine ⟨_, rfl, ⟨k, rfl, hk, fun q t hq ht => ?_, fun q t hq ht => ?_⟩, e02⟩
 · have h0 := hk1 (by omega)
   have hl : xs[k - 1]? = some xs[k - 1] := List.getElem?_eq_getElem (by omega)
   simp only [hl] at h0
   have h0 := of_decide_eq_false h0
   rcases Nat.lt_or_ge q (k - 1) with h4 | h4
   · have := hs q (k - 1) t _ ht hl h4; omega
   · obtain rfl : q = k - 1 := by omega
     rw [ht] at hl; obtain rfl := Option.some.inj hl; omega
 · have hq' := (List.getElem?_eq_some_iff.1 ht).1
   have h0 := hk2 (by omega)
   have hl : xs[k]? = some xs[k] := List.getElem?_eq_getElem (by omega)
   simp only [hl] at h0
   have h0 := of_decide_eq_true h0
   rcases Nat.lt_or_ge k q with h4 | h4
   · have := hs k q _ t hl ht h4; omega
   · obtain rfl : q = k := by omega
     rw [ht] at hl; obtain rfl := Option.some.inj hl; omega
end Go.Proofs.YtlkmlfofhbekoaaDoor
namespace Go.Lw
section
variable {P : Program} {ρ : Env} {h : Heap} {dst : Option Nat} {ty : TypeId} {pos : String} {after : Array Edge} {guard : Option (Nat × Bool)} {X : List PanicEntry → Heap → Prop}
theorem OpX.buildEmpty {t e : TypeId} {size bytes : Nat} (ht : P.underlying t = some (.slice e)) (he : ElemT P e size bytes) :
 OpX P ⟨dst, .buildSlice t 0 #[], ty, pos, after, guard⟩ ρ h (fun u g => u = .slice (some ⟨h.size, 0, none⟩) 0 0 ∧ g = h.push (.cells #[] e)) X :=
 OpX.buildSlice (vs := []) (cells := #[]) ht he rfl (by omega) (fun z _ => by simp [Instr.fill])
end
theorem OwnH.empty (h : Heap) (t : TypeId) (size base : Nat) (hb : base ≤ h.size) : OwnH (h.push (.cells #[] t)) base t size (.slice (some ⟨h.size, 0, none⟩) 0 0) 0 [] :=
 ⟨by simp, .inr ⟨h.size, 0, #[], rfl, hb, by simp, Nat.le_refl _, by simp [maxLen], by simp, by simp⟩⟩
theorem Sl.rowR {α : Type} {sz : Nat} {pos : 0 < sz} {enc : α → List Value} {hl : ∀ x, (enc x).length = sz} {h1 : ∀ x, ∀ v ∈ enc x, v.oneCell' = true} {h : Heap} {O : Nat → Prop} {oa : Option Addr} {n c : Nat} {xs : List α} (k : Sl (.record sz pos enc hl h1) h O oa n c xs) :
 n = 0 ∨ ∃ b o, oa = some ⟨b, o, none⟩ ∧ rowAt h b o (xs.flatMap enc) := by
 rcases Nat.eq_zero_or_pos n with h0 | h0
 · exact .inl h0
 · obtain ⟨b, o, x, ha, _, _, _⟩ := k.recd h0
   refine .inr ⟨b, o, ha, fun j v hv => ?_⟩
   have hj : j < (xs.flatMap enc).length := (List.getElem?_eq_some_iff.1 hv).1
   rw [flatMap_len hl, k.len] at hj
   have hjn : j / sz < n := Nat.div_lt_of_lt_mul (by rw [Nat.mul_comm]; exact hj)
   obtain ⟨b', o', x', ha', _, hx', hr'⟩ := k.recd hjn
   rw [ha] at ha'
   cases ha'
   have hm : j % sz < (enc x').length := by rw [hl]; exact Nat.mod_lt _ pos
   have h2 := flatMap_at hl xs (j / sz) x' (j % sz) _ hx' (List.getElem?_eq_getElem hm)
   rw [Nat.div_add_mod' j sz, hv] at h2
   obtain rfl := Option.some.inj h2
   have h3 := hr' (j % sz) _ (List.getElem?_eq_getElem hm)
   rw [Nat.add_assoc, Nat.div_add_mod' j sz] at h3
   exact h3
end Go.Lw
namespace Go.Lw
theorem SlR.open_slice {α : Type} {e : Elt α} {h : Heap} {O : Nat → Prop} {oa : Option Addr} {n c : Nat} {xs : List α} (k : SlR e h O (.slice oa n c) xs) : Sl e h O oa n c xs := by
 obtain ⟨oa', n', c', hv, k'⟩ := k.open
 cases hv; exact k'
theorem SlR.but {α : Type} {e : Elt α} {h h' : Heap} {b : Nat} {v : Value} {xs : List α} (k : SlR e h (fun x => x = b) v xs) (x : Ext (fun x => x = b) h h') : SlR e h' (fun x => x = b) v xs := k.mv (Mv.ofExt x fun _ _ ho => ⟨ho, ho⟩)
theorem OwnH.shutR2 {α : Type} {sz : Nat} {pos : 0 < sz} {enc : α → List Value} {hl : ∀ x, (enc x).length = sz} {h1 : ∀ x, ∀ v ∈ enc x, v.oneCell' = true} {h : Heap} {base : Nat} {O : Nat → Prop} {t : TypeId} {v : Value} {n : Nat} {xs : List α} (k : OwnH h base t sz v n (xs.flatMap enc)) (ho : ∀ b, v.ownBlock = some b → ¬ O b) : SlR (.record sz pos enc hl h1) h O v xs := by
 have k0 : SlR (.record sz pos enc hl h1) h (fun _ => False) v xs := OwnH.shutR k (fun _ _ k => k)
 obtain ⟨oa, n', c', hv, hl', hnc', hc', hget⟩ := k0
 refine ⟨oa, n', c', hv, hl', hnc', hc', fun i x hx => ?_⟩
 obtain ⟨b, o, cs, h2, _, h3, h4⟩ := hget i x hx
 refine ⟨b, o, cs, h2, ?_, h3, h4⟩
 rcases k.2 with ⟨rfl, _⟩ | ⟨g, cap, cur, rfl, _⟩
 · cases hv; cases h2
 · cases hv; cases h2; exact ho _ rfl
theorem fill_rec {off : Nat} : ∀ (cs : List Value) (k : Nat) (pre tl : List Value) (rest : List Value), pre.length = off + k → tl.length = cs.length →
 (cs.zipIdx k).foldl (fun (a : Array Value) (p : Value × Nat) => a.setIfInBounds (off + p.2) p.1) (pre ++ (tl ++ rest)).toArray = (pre ++ (cs ++ rest)).toArray
 | [], k, pre, tl, rest, _, hl => by
  have : tl = [] := List.eq_nil_of_length_eq_zero (by simpa using hl)
  subst this; rfl
 | c :: cs, k, pre, [], rest, hp, hl => by simp at hl
 | c :: cs, k, pre, t :: tl, rest, hp, hl => by
  rw [List.zipIdx_cons, List.foldl_cons]
  have hset : (pre ++ (t :: tl ++ rest)).toArray.setIfInBounds (off + k) c = ((pre ++ [c]) ++ (tl ++ rest)).toArray := by
   rw [← hp]
   simp [List.set_append_right]
  simp only [hset]
  rw [fill_rec cs (k + 1) (pre ++ [c]) tl rest (by simp [hp]; omega) (by simpa using hl)]
  simp
theorem fill_recs {sz : Nat} : ∀ (css : List (List Value)), (∀ c ∈ css, c.length = sz) → ∀ (k : Nat) (pre tl : List Value), pre.length = k * sz → tl.length = css.length * sz →
 Instr.fill (fun i => some (i * sz, sz)) (pre ++ tl).toArray (css.zipIdx k |>.map fun p => (p.2, Value.agg p.1.toArray)) = some (pre ++ css.flatten).toArray
 | [], _, k, pre, tl, _, hl => by
  have : tl = [] := List.eq_nil_of_length_eq_zero (by simpa using hl)
  subst this; simp [Instr.fill]
 | c :: css, h1, k, pre, tl, hp, hl => by
  have hc : c.length = sz := h1 c (by simp)
  have hl' : tl.length = sz + css.length * sz := by rw [hl, List.length_cons, Nat.add_mul]; omega
  have ih := fill_recs css (fun v hv => h1 v (by simp [hv])) (k + 1) (pre ++ c) (tl.drop sz) (by rw [List.length_append, hp, hc, Nat.add_mul]; omega) (by rw [List.length_drop]; omega)
  simp only [List.zipIdx_cons, List.map_cons, Instr.fill, Value.cells]
  have htl : tl = tl.take sz ++ tl.drop sz := (List.take_append_drop sz tl).symm
  have hf := fill_rec (off := k * sz) c 0 pre (tl.take sz) (tl.drop sz) (by rw [hp]; omega) (by rw [List.length_take]; omega)
  rw [← htl] at hf
  have h2 : ¬ (c.toArray.size ≠ sz ∨ k * sz + c.toArray.size > (pre ++ tl).toArray.size) := by simp; omega
  have hz : c.toArray.zipIdx.foldl (fun (cs : Array Value) (p : Value × Nat) => cs.setIfInBounds (k * sz + p.2) p.1) (pre ++ tl).toArray = (pre ++ (c ++ tl.drop sz)).toArray := by
   rw [← hf]
   simp
  simp only [Bool.or_eq_true, decide_eq_true_eq, if_neg h2]
  rw [if_neg (by simpa using h2)]
  rw [hz, ← List.append_assoc, ih]
  simp
section
variable {P : Program} {ρ : Env} {h : Heap} {dst : Option Nat} {ty : TypeId} {pos : String} {after : Array Edge} {guard : Option (Nat × Bool)} {X : List PanicEntry → Heap → Prop}
theorem OpX.buildRecs {t e : TypeId} {size bytes len : Nat} {ps : Array (Nat × Operand)} (ht : P.underlying t = some (.slice e)) (he : ElemT P e size bytes) (css : List (List Value))
 (hps : ps.toList.map (fun p => (p.1, opd ρ p.2)) = (css.zipIdx.map fun p => (p.2, Value.agg p.1.toArray)).map (fun p => (p.1, some p.2))) (hl : css.length = len) (hlen : len * size ≤ 16777216) (h1 : ∀ c ∈ css, c.length = size) :
 OpX P ⟨dst, .buildSlice t len ps, ty, pos, after, guard⟩ ρ h (fun u g => u = .slice (some ⟨h.size, 0, none⟩) len len ∧ g = h.push (.cells css.flatten.toArray e)) X := by
 refine OpX.buildSlice ht he hps hlen fun z hz => ?_
 have := fill_recs css h1 0 [] ((List.range (len * size)).map (fun j => z[j % z.size]!)) (by simp) (by simp [hl])
 rw [List.nil_append, List.nil_append] at this
 rw [← this]
 congr 1
 apply Array.ext'; simp
end
theorem recs_made {α : Type} {sz : Nat} {pos : 0 < sz} {enc : α → List Value} {hl : ∀ x, (enc x).length = sz} {h1 : ∀ x, ∀ v ∈ enc x, v.oneCell' = true} (h : Heap) (xs : List α) (t : TypeId) (n : Nat) (hn : xs.length = n) (hm : n ≤ maxLen) {us : List Value} (hu : us = xs.flatMap enc) : SlR (.record sz pos enc hl h1) (h.push (.cells us.toArray t)) (fun _ => False) (.slice (some ⟨h.size, 0, none⟩) n n) xs := by
 subst hn hu
 have hfl := flatMap_len hl xs
 have k : OwnH (h.push (.cells (xs.flatMap enc).toArray t)) 0 t sz (.slice (some ⟨h.size, 0, none⟩) xs.length xs.length) xs.length (xs.flatMap enc) :=
  ⟨hfl, .inr ⟨h.size, xs.length, (xs.flatMap enc).toArray, rfl, Nat.zero_le _, by simp, Nat.le_refl _, hm, by simpa using hfl, by rw [← hfl]; exact List.take_length⟩⟩
 exact OwnH.shutR k (fun _ _ k => k)
end Go.Lw
namespace Go.Proofs.YtlkmlfofhbekoaaDoor
open Go Go.Lw
set_option maxRecDepth 20000
def eSt : Elt LSt := .record 2 (by decide) encLSt (fun _ => rfl) lst_one
def encPt (p : Pt) : List Value := [.int .i64 p.1, .int .i64 p.2.1, .int .i64 p.2.2]
theorem pt_one (p : Pt) : ∀ v ∈ encPt p, v.oneCell' = true := fun v hv => by simp [encPt] at hv; rcases hv with rfl | rfl | rfl <;> rfl
def ePt : Elt Pt := .record 3 (by decide) encPt (fun _ => rfl) pt_one
def docC (l : Value) (s : By) (tv sv : Value) (en : LSt) (pv : Value) (n : Int) : List Value := [l, .string (bs s), tv, sv, .int .i64 en.1, .int .i64 en.2, pv, .int .i64 n]
def DocH (h : Heap) (b : Nat) (s : By) (n : Int) : Prop :=
 ∃ h0 lb tv sv pv, LxG h0 ∧ LexAt h0 (.pointer (some ⟨lb, 0, none⟩)) ∧ Ext0 h0 h ∧ h0.size ≤ b ∧ Blk h b 52 (docC (.pointer (some ⟨lb, 0, none⟩)) s tv sv (allP s).2 pv n) ∧
  SlR eTk h (fun x => x = b) tv (allP s).1 ∧ SlR eSt h (fun x => x = b) sv (sts0 s) ∧ SlR ePt h (fun x => x = b) pv (ptsP s)
theorem cloneT_calls {h : Heap} {v : Value} {O : Nat → Prop} {xs : List Tk} (hv : SlR eTk h O v xs) (hx : xs.length ≤ 1000000) :
 CallsH Tryd.prog 27 #[v] h (Ret fun r h' => OwR 3 encTk h' h.size 39 r xs ∧ Ext0 h h') := by
 obtain ⟨va, vn, vc, rfl, hvs⟩ := hv.open
 have hl : xs.length = vn := hvs.len
 subst hl
 refine CallsH.of Tryd.func27 rfl rfl ?_
 refine xrd Tryd.func27 1 [0, 2] rfl ?_
 refine G.seq rfl ?_
 refine xra Tryd.func27 1 rfl ?_
 refine xp rfl (OpP.eqlNilS Tryd.underlying36 rfl rfl) ?_
 refine xd [0, 2, 4] rfl ?_
 refine G.cond rfl rfl (fun hn => ?_) (fun hn => ?_)
 · refine xrd Tryd.func27 1 [0, 2, 4] rfl ?_
   refine G.ret Tryd.func27 rfl rfl ?_
   have hx0 : xs = [] := by
    have hva : va = none := by simpa using hn
    rcases xs with _ | ⟨x, xs⟩
    · rfl
    · obtain ⟨b, o, cs, ha, _⟩ := hvs.get 0 x rfl
      rw [hva] at ha; cases ha
   subst hx0
   exact ⟨_, rfl, OwR.nil _ _ _ _ _, Ext.refl _ _⟩
 · refine G.skip rfl ?_
   refine xr Tryd.func27 rfl ?_
   refine xo rfl (OpX.buildEmpty Tryd.underlying36 H.el39) ?_
   rintro _ h1 ⟨rfl, hh1⟩
   have e1 : Ext0 h h1 := by rw [hh1]; exact Ext.push _ _ _
   have z1 : h1.size = h.size + 1 := by rw [hh1]; simp
   have ho1 : OwnH h1 h.size 39 3 (.slice (some ⟨h.size, 0, none⟩) 0 0) 0 [] := by rw [hh1]; exact OwnH.empty h _ 3 h.size (Nat.le_refl _)
   have hrow := (hvs.mv (Mv.ext0 e1)).rowR
   refine xqm 1 rfl ?_
   refine xo rfl (OpX.append Tryd.underlying36 H.el39 rfl rfl ho1 (flatMap_len (enc := encTk) (sz := 3) (fun _ => rfl) xs) hrow (fun u hu => by obtain ⟨x, _, hx⟩ := List.mem_flatMap.1 hu; exact tk_one x u hx) (by simp only [maxLen]; omega) (by omega) (by omega)) ?_
   rintro v2 h2 ⟨ho2, hx2, _, hv2⟩
   refine xqd 1 [0, 2, 4] rfl ?_
   refine G.ret Tryd.func27 rfl rfl ?_
   refine ⟨_, rfl, ?_, Ext.own e1 ho1 (Nat.le_refl _) hx2⟩
   have : OwnH h2 h.size 39 3 v2 (0 + xs.length) ([] ++ xs.flatMap encTk) := ho2
   rw [Nat.zero_add, List.nil_append] at this
   exact this
theorem cloneS_calls {h : Heap} {v : Value} {O : Nat → Prop} {xs : List LSt} (hv : SlR eSt h O v xs) (hx : xs.length ≤ 1000000) :
 CallsH Tryd.prog 28 #[v] h (Ret fun r h' => OwR 2 encLSt h' h.size 45 r xs ∧ Ext0 h h') := by
 obtain ⟨va, vn, vc, rfl, hvs⟩ := hv.open
 have hl : xs.length = vn := hvs.len
 subst hl
 refine CallsH.of Tryd.func28 rfl rfl ?_
 refine xrd Tryd.func28 1 [0, 2] rfl ?_
 refine G.seq rfl ?_
 refine xra Tryd.func28 1 rfl ?_
 refine xp rfl (OpP.eqlNilS Tryd.underlying50 rfl rfl) ?_
 refine xd [0, 2, 4] rfl ?_
 refine G.cond rfl rfl (fun hn => ?_) (fun hn => ?_)
 · refine xrd Tryd.func28 1 [0, 2, 4] rfl ?_
   refine G.ret Tryd.func28 rfl rfl ?_
   have hx0 : xs = [] := by
    have hva : va = none := by simpa using hn
    rcases xs with _ | ⟨x, xs⟩
    · rfl
    · obtain ⟨b, o, cs, ha, _⟩ := hvs.get 0 x rfl
      rw [hva] at ha; cases ha
   subst hx0
   exact ⟨_, rfl, OwR.nil _ _ _ _ _, Ext.refl _ _⟩
 · refine G.skip rfl ?_
   refine xr Tryd.func28 rfl ?_
   refine xo rfl (OpX.buildEmpty Tryd.underlying50 H.el45) ?_
   rintro _ h1 ⟨rfl, hh1⟩
   have e1 : Ext0 h h1 := by rw [hh1]; exact Ext.push _ _ _
   have z1 : h1.size = h.size + 1 := by rw [hh1]; simp
   have ho1 : OwnH h1 h.size 45 2 (.slice (some ⟨h.size, 0, none⟩) 0 0) 0 [] := by rw [hh1]; exact OwnH.empty h _ 2 h.size (Nat.le_refl _)
   have hrow := (hvs.mv (Mv.ext0 e1)).rowR
   refine xqm 1 rfl ?_
   refine xo rfl (OpX.append Tryd.underlying50 H.el45 rfl rfl ho1 (flatMap_len (enc := encLSt) (sz := 2) (fun _ => rfl) xs) hrow (fun u hu => by obtain ⟨x, _, hx⟩ := List.mem_flatMap.1 hu; exact lst_one x u hx) (by simp only [maxLen]; omega) (by omega) (by omega)) ?_
   rintro v2 h2 ⟨ho2, hx2, _, hv2⟩
   refine xqd 1 [0, 2, 4] rfl ?_
   refine G.ret Tryd.func28 rfl rfl ?_
   refine ⟨_, rfl, ?_, Ext.own e1 ho1 (Nat.le_refl _) hx2⟩
   have : OwnH h2 h.size 45 2 v2 (0 + xs.length) ([] ++ xs.flatMap encLSt) := ho2
   rw [Nat.zero_add, List.nil_append] at this
   exact this
theorem rnone_at {h : Heap} {b : Nat} {lp : Option Addr} {s : By} {tv sv pv : Value} {en : LSt} {n : Int} (k : Blk h b 52 (docC (.pointer lp) s tv sv en pv n)) :
 CallsH Tryd.prog 24 #[.pointer (some ⟨b, 0, none⟩)] h (Ret fun r h' => r = .bool lp.isNone ∧ h' = h) := by
 refine CallsH.of Tryd.func24 rfl rfl ?_
 refine xrd Tryd.func24 1 [0, 2] rfl ?_
 refine xra Tryd.func24 1 rfl ?_
 refine xp rfl (OpP.eqlNil Tryd.underlying23 rfl rfl) ?_
 refine xqm 1 rfl ?_
 refine RW.know (d := 5) (b' := false) rfl (rfl) ?_
 refine xqp 2 rfl rfl (OpP.fieldAddr (off := 0) Tryd.underlying52 rfl rfl H.sz25 rfl) ?_
 refine xp rfl (OpP.load H.ag25 rfl (k.cell (i := 0) rfl)) ?_
 refine xp rfl (OpP.eqlNil Tryd.underlying25 rfl rfl) ?_
 refine xqd 2 [0, 2] rfl ?_
 refine G.ret Tryd.func24 rfl rfl ?_
 exact ⟨_, rfl, rfl, rfl⟩
theorem before1_calls {h : Heap} {b1 b2 b : Nat} {l : Value} {s : By} {tv sv pv : Value} {en : LSt} {n : Int} {O : Nat → Prop} {pts : List Pt} {a : Int} (k1 : Blk h b1 23 [.pointer (some ⟨b, 0, none⟩)]) (k2 : Blk h b2 3 [.int .i64 a])
 (k : Blk h b 52 (docC l s tv sv en pv n)) (hp : SlR ePt h O pv pts) (i : Nat) {t : Pt} (ht : pts[i]? = some t) (ha : -1000000 ≤ a ∧ a ≤ 1000000) :
 CallsH Tryd.prog 44 #[.int .i64 (i : Nat), .pointer (some ⟨b1, 0, none⟩), .pointer (some ⟨b2, 0, none⟩)] h (Ret fun r h' => r = .bool (decide (a - 3 < t.1)) ∧ h' = h) := by
 obtain ⟨va, vn, vc, rfl, hvs⟩ := hp.open
 have hl : pts.length = vn := hvs.len
 have hi := (List.getElem?_eq_some_iff.1 ht).1
 obtain ⟨bb, o, t', hva, _, ht', hrow⟩ := hvs.recd (i := i) (by omega)
 obtain rfl : t' = t := Option.some.inj (ht'.symm.trans ht)
 refine CallsH.of Tryd.func44 rfl rfl ?_
 refine xrd Tryd.func44 1 [0, 1, 2, 4] rfl ?_
 refine G.seq rfl ?_
 refine G.drawQ Tryd.func44 H.mixed rfl (by kernel_rfl) ?_
 refine RQ.pureS rfl rfl rfl rfl (OpP.load H.ag23 rfl (k1.cell (i := 0) rfl)) ?_
 refine RQ.pureS rfl rfl rfl rfl (OpP.nilCheck rfl) ?_
 refine RQ.pureS rfl rfl rfl rfl (OpP.fieldAddr (off := 6) Tryd.underlying52 rfl rfl H.sz48 rfl) ?_
 refine RQ.pureS rfl rfl rfl rfl (OpP.load H.ag48 rfl (k.cell (i := 6) rfl)) ?_
 refine RQ.pureS rfl rfl rfl rfl (OpP.move rfl) ?_
 refine RQ.pureS rfl rfl rfl rfl (OpP.indexSlice Tryd.underlying48 H.sz61 rfl rfl i rfl hva (by omega)) ?_
 refine RQ.pureS rfl rfl rfl rfl (OpP.fieldAddr (off := 0) Tryd.underlying61 rfl rfl H.sz3 rfl) ?_
 refine RQ.pureS rfl rfl rfl rfl (OpP.load H.ag3 rfl (hrow 0 _ rfl)) ?_
 refine RQ.pureS rfl rfl rfl rfl (OpP.load H.ag3 rfl (k2.cell (i := 0) rfl)) ?_
 refine RQ.pureS rfl rfl rfl rfl (OpP.sub64 rfl rfl ⟨by omega, by omega⟩) ?_
 refine RQ.pureS rfl rfl rfl rfl (OpP.gtr rfl rfl) ?_
 refine RQ.pureS rfl rfl rfl rfl (OpP.assign rfl) ?_
 refine RQ.done rfl ?_
 refine xu [0, 1, 2, 4] rfl ?_
 refine G.ret Tryd.func44 rfl rfl ?_
 exact ⟨_, rfl, rfl, rfl⟩
theorem before_calls {h : Heap} {b : Nat} {l : Value} {s : By} {tv sv pv : Value} {en : LSt} {n : Int} {pts : List Pt} {O : Nat → Prop} (k : Blk h b 52 (docC l s tv sv en pv n)) (hp : SlR ePt h O pv pts) (hpl : pts.length ≤ 1000000) (h0 : pts[0]? = some (0, (0, 0)))
 (hs : pts.Pairwise fun p q => p.1 < q.1) (a : Int) (ha : -1000000 ≤ a ∧ a ≤ 1000000) :
 CallsH Tryd.prog 25 #[.pointer (some ⟨b, 0, none⟩), .int .i64 a] h (Ret fun r h' => (∃ p, r = .agg (encPt p).toArray ∧ IsBef pts a p) ∧ Ext0 h h') := by
 obtain ⟨va, vn, vc, rfl, hvs⟩ := id hp.open
 have hl : pts.length = vn := hvs.len
 subst hl
 have hpos : 0 < pts.length := (List.getElem?_eq_some_iff.1 h0).1
 refine CallsH.of Tryd.func25 rfl rfl ?_
 refine xr Tryd.func25 rfl ?_
 refine xo rfl (OpX.boxN rfl) ?_
 rintro _ h1 ⟨rfl, k1, e1, z1⟩
 refine xo rfl (OpX.boxN rfl) ?_
 rintro _ h2 ⟨rfl, k2, e2, z2⟩
 refine xo rfl (OpX.allocN H.zr61) ?_
 rintro _ h3 ⟨rfl, k3, e3, z3⟩
 have k1 : Blk h1 h.size 23 [.pointer (some ⟨b, 0, none⟩)] := k1
 have k2 : Blk h2 h1.size 3 [.int .i64 a] := k2
 have k3 : Blk h3 h2.size 61 (encPt (0, (0, 0))) := k3
 have e03 := (e1.trans e2).trans e3
 have y1 := e1.size
 have y2 := e2.size
 have q1 := (k1.ext0 e2).ext0 e3
 have q2 := k2.ext0 e3
 have q := k.ext0 e03
 have hp3 := hp.ext0 e03
 have hsr := search_calls (h := h3) (g := 44) (caps := [.pointer (some ⟨h.size, 0, none⟩), .pointer (some ⟨h1.size, 0, none⟩)]) ⟨_, Tryd.func44, rfl, by kernel_rfl⟩ pts.length hpl (fun i => match pts[i]? with | some t => decide (a - 3 < t.1) | none => false) (fun i hi => by
  have ht : pts[i]? = some pts[i] := List.getElem?_eq_getElem hi
  simp only [ht]
  exact before1_calls q1 q2 q hp3 i ht ha)
 refine xd [0, 1, 2, 3, 4] rfl ?_
 refine xr Tryd.func25 rfl ?_
 refine xp rfl (OpP.load H.ag23 rfl (q1.cell (i := 0) rfl)) ?_
 refine xqp 1 rfl rfl (OpP.fieldAddr (off := 6) Tryd.underlying52 rfl rfl H.sz48 rfl) ?_
 refine xp rfl (OpP.load H.ag48 rfl (q.cell (i := 6) rfl)) ?_
 refine xp rfl (OpP.lenSlice Tryd.underlying48 rfl) ?_
 refine xp rfl (OpP.makeFunc (vs := [_, _]) rfl) ?_
 refine xo rfl (OpX.call (vs := [_, _]) Tryd.func43 rfl H.nm43 rfl (CallsH.toX (hsr))) ?_
 rintro _ h4 ⟨⟨j, rfl, hj, hj1, hj2⟩, hh4⟩
 subst hh4
 have hmx : (if (j : Int) - 1 < 0 then 0 else (j : Int) - 1) = ((j - 1 : Nat) : Int) := by split <;> omega
 have hjl : j - 1 < pts.length := by omega
 obtain ⟨bb, o, t, hva, _, ht, hrow⟩ := (hvs.mv (Mv.ext0 e03)).recd hjl
 refine xqd 1 [0, 1, 2, 3, 4, 5] rfl ?_
 refine xr Tryd.func25 rfl ?_
 refine xp rfl (OpP.load H.ag23 rfl (q1.cell (i := 0) rfl)) ?_
 refine xqp 1 rfl rfl (OpP.fieldAddr (off := 6) Tryd.underlying52 rfl rfl H.sz48 rfl) ?_
 refine xp rfl (OpP.load H.ag48 rfl (q.cell (i := 6) rfl)) ?_
 refine xqp 1 rfl rfl (OpP.sub64 rfl rfl ⟨by omega, by omega⟩) ?_
 refine xp rfl (OpP.max2 rfl rfl) ?_
 refine xp rfl (OpP.indexSlice Tryd.underlying48 H.sz61 rfl rfl (j - 1) hmx hva hjl) ?_
 refine xp rfl (OpP.loadRowN H.ag61 H.sz61 rfl hrow (by first | rfl | simp)) ?_
 refine RW.op0 rfl rfl rfl (OpX.storeBlk H.sz61 rfl rfl k3 (by first | rfl | simp) (by first | decide | exact of_decide_eq_true rfl | (simp; done) | (simp; omega)) (pt_one _)) ?_
 rintro _ h5 ⟨rfl, k5, x5, z5⟩
 refine xd [0, 1, 2, 3, 4, 5] rfl ?_
 have k5 : Blk h5 h2.size 61 (encPt t) := k5
 refine G.retC Tryd.func25 rfl (.cons (ResOk.rowN H.ag61 H.sz61 rfl (k5.row) (by first | rfl | simp)) (.nil)) ?_
 have hlt : ∀ (x y : Nat) (p q : Pt), x < y → pts[x]? = some p → pts[y]? = some q → p.1 < q.1 := fun x y p q hxy hx hy => by
  obtain ⟨hx', rfl⟩ := List.getElem?_eq_some_iff.1 hx
  obtain ⟨hy', rfl⟩ := List.getElem?_eq_some_iff.1 hy
  exact List.pairwise_iff_getElem.1 hs x y hx' hy' hxy
 refine ⟨_, rfl, ⟨t, rfl, List.mem_of_getElem? ht, ?_, fun q hq hqa => ?_⟩, Ext0.only e03 x5 (by omega)⟩
 · rcases Nat.eq_zero_or_pos j with h6 | h6
   · subst h6
     rw [h0] at ht
     exact .inr (Option.some.inj ht).symm
   · have := hj1 h6
     simp only [ht] at this
     have := of_decide_eq_false this
     exact .inl (by omega)
 · obtain ⟨i, hi, rfl⟩ := List.getElem_of_mem hq
   have hiq : pts[i]? = some pts[i] := List.getElem?_eq_getElem hi
   rcases Nat.lt_trichotomy i (j - 1) with h6 | h6 | h6
   · have := hlt i (j - 1) _ _ h6 hiq ht; omega
   · rw [← h6, hiq] at ht; rw [Option.some.inj ht]; exact Int.le_refl _
   · exfalso
     have hjj : j ≤ i := by omega
     have hq2 : pts[j]? = some pts[j] := List.getElem?_eq_getElem (by omega)
     have := hj2 (by omega)
     simp only [hq2] at this
     have h7 := of_decide_eq_true this
     rcases Nat.lt_or_ge j i with h8 | h8
     · have := hlt j i _ _ h8 hq2 hiq; omega
     · obtain rfl : j = i := by omega
       omega
theorem DocH.none {h : Heap} {b : Nat} {s : By} {n : Int} (k : DocH h b s n) : CallsH Tryd.prog 24 #[.pointer (some ⟨b, 0, none⟩)] h (Ret fun r h' => r = .bool false ∧ h' = h) := by
 obtain ⟨h0, lb, tv, sv, pv, _, _, _, _, kb, _⟩ := k
 exact rnone_at kb
theorem DocH.ext0 {h h' : Heap} {b : Nat} {s : By} {n : Int} (k : DocH h b s n) (e : Ext0 h h') : DocH h' b s n := by
 obtain ⟨h0, lb, tv, sv, pv, k1, k2, k3, k4, k5, k6, k7, k8⟩ := k
 exact ⟨h0, lb, tv, sv, pv, k1, k2, k3.trans e, k4, k5.ext0 e, k6.ext0 e, k7.ext0 e, k8.ext0 e⟩
theorem all_len (s : By) : (allP s).1.length ≤ s.length := allG_len _ _ _ _
theorem text_calls {h : Heap} {b : Nat} {s : By} {n : Int} (k : DocH h b s n) : CallsH Tryd.prog 12 #[.pointer (some ⟨b, 0, none⟩)] h (Ret fun r h' => r = .string (bs s) ∧ h' = h) := by
 have hn := k.none
 obtain ⟨h0, lb, tv, sv, pv, _, _, _, _, kb, _⟩ := k
 refine CallsH.of Tryd.func12 rfl rfl ?_
 refine xrd Tryd.func12 1 [0, 2] rfl ?_
 refine G.seq rfl ?_
 refine xra Tryd.func12 1 rfl ?_
 refine xo rfl (OpX.call (vs := [_]) Tryd.func24 rfl H.nm24 rfl (CallsH.toX (hn))) ?_
 rintro _ h1 ⟨rfl, hh1⟩
 refine xd [0, 2, 4] rfl ?_
 subst hh1
 refine G.cond rfl rfl (fun hc => absurd hc (by decide)) (fun _ => ?_)
 refine G.skip rfl ?_
 refine xra Tryd.func12 2 rfl ?_
 refine xp rfl (OpP.fieldAddr (off := 1) Tryd.underlying52 rfl rfl H.sz9 rfl) ?_
 refine xp rfl (OpP.load H.ag9 rfl (kb.cell (i := 1) rfl)) ?_
 refine xqd 1 [0, 2, 4] rfl ?_
 refine G.ret Tryd.func12 rfl rfl ?_
 exact ⟨_, rfl, rfl, rfl⟩
theorem tokens_calls {h : Heap} {b : Nat} {s : By} {n : Int} (k : DocH h b s n) (hs : s.length ≤ 1000000) : CallsH Tryd.prog 14 #[.pointer (some ⟨b, 0, none⟩)] h (Ret fun r h' => OwR 3 encTk h' h.size 39 r (allP s).1 ∧ Ext0 h h') := by
 have hn := k.none
 have hal := all_len s
 obtain ⟨h0, lb, tv, sv, pv, _, _, _, _, kb, ht, _⟩ := k
 refine CallsH.of Tryd.func14 rfl rfl ?_
 refine xrd Tryd.func14 1 [0, 2] rfl ?_
 refine G.seq rfl ?_
 refine xra Tryd.func14 1 rfl ?_
 refine xo rfl (OpX.call (vs := [_]) Tryd.func24 rfl H.nm24 rfl (CallsH.toX (hn))) ?_
 rintro _ h1 ⟨rfl, hh1⟩
 refine xd [0, 2, 4] rfl ?_
 subst hh1
 refine G.cond rfl rfl (fun hc => absurd hc (by decide)) (fun _ => ?_)
 refine G.skip rfl ?_
 refine xra Tryd.func14 2 rfl ?_
 refine xp rfl (OpP.fieldAddr (off := 2) Tryd.underlying52 rfl rfl H.sz36 rfl) ?_
 refine xp rfl (OpP.load H.ag36 rfl (kb.cell (i := 2) rfl)) ?_
 refine xo rfl (OpX.call (vs := [_]) Tryd.func27 rfl H.nm27 rfl (CallsH.toX (cloneT_calls ht (by omega)))) ?_
 rintro v2 h2 ⟨ho, e2⟩
 refine xqd 1 [0, 2, 4] rfl ?_
 refine G.ret Tryd.func14 rfl rfl ?_
 exact ⟨_, rfl, ho, e2⟩
theorem pts_len (s : By) : (ptsP s).length ≤ s.length + 1 := by
 have h1 := ptsG_len (allP s).1 (sts0 s) 0
 have h2 := all_len s
 simp only [ptsP, List.length_cons]; omega
theorem mark_calls {h : Heap} {b : Nat} {l : Value} {s : By} {tv sv pv : Value} {en : LSt} {n : Int} {toks : List Tk} {sts : List LSt} (k : Blk h b 52 (docC l s tv sv en pv n)) (ht : SlR eTk h (fun x => x = b) tv toks) (hs : SlR eSt h (fun x => x = b) sv sts)
 (hl : sts.length = toks.length) (htl : toks.length ≤ 900000) (hpos : ∀ t ∈ toks, -1000000 ≤ t.2.1 ∧ t.2.1 ≤ 1000000) :
 CallsH Tryd.prog 30 #[.pointer (some ⟨b, 0, none⟩)] h (Ret fun _ h' => (∃ pv', Blk h' b 52 (docC l s tv sv en pv' n) ∧ SlR ePt h' (fun x => x = b) pv' ((0, (0, 0)) :: ptsG toks sts 0)) ∧ Ext (fun x => x = b) h h') := by
 have hb := k.lt
 obtain ⟨ta, tn, tc, rfl, hts⟩ := id ht.open
 obtain ⟨sa, sn, sc, rfl, hss⟩ := id hs.open
 have htn : toks.length = tn := hts.len
 have hsn : sts.length = sn := hss.len
 generalize htgt : ((0, (0, 0)) :: ptsG toks sts 0 : List Pt) = tgt
 refine CallsH.of Tryd.func30 rfl rfl ?_
 refine xra Tryd.func30 1 rfl ?_
 refine xp rfl (OpP.build (H.bd61_ ) rfl) ?_
 refine xo rfl (OpX.buildRec (cs := [_, _, _]) Tryd.underlying48 H.el61 rfl rfl (by decide)) ?_
 rintro _ h1 ⟨rfl, hh1⟩
 have e1 : Ext0 h h1 := by rw [hh1]; exact Ext.push _ _ _
 have z1 : h1.size = h.size + 1 := by rw [hh1]; simp
 have ho1 : OwR 3 encPt h1 h.size 61 (.slice (some ⟨h.size, 0, none⟩) 1 1) [(0, (0, 0))] := by rw [hh1]; exact OwR.made1 (fun _ => rfl) h ((0, (0, 0)) : Pt) 61 h.size (Nat.le_refl _) rfl
 refine xqp 1 rfl rfl (OpP.fieldAddr (off := 6) Tryd.underlying52 rfl rfl H.sz48 rfl) ?_
 refine RW.op0 rfl rfl rfl (OpX.storeOne H.sz48 rfl rfl (k.ext0 e1) (by first | decide | exact of_decide_eq_true rfl | (simp; done) | (simp; omega)) rfl) ?_
 rintro _ h2 ⟨rfl, k2, x2, z2⟩
 have k2 : Blk h2 b 52 (docC l s (.slice ta tn tc) (.slice sa sn sc) en (.slice (some ⟨h.size, 0, none⟩) 1 1) n) := k2
 have ho2 : OwR 3 encPt h2 h.size 61 (.slice (some ⟨h.size, 0, none⟩) 1 1) [(0, (0, 0))] := OwnH.ext x2 ho1 (fun x hx (q : x = b) => by have := (OwnH.lt ho1 hx).1; omega)
 have e02 : Ext (fun x => x = b) h h2 := (Ext0.of e1).trans x2
 refine xd [0] rfl ?_
 refine xra Tryd.func30 2 rfl ?_
 refine xp rfl (OpP.fieldAddr (off := 2) Tryd.underlying52 rfl rfl H.sz36 rfl) ?_
 refine xp rfl (OpP.load H.ag36 rfl (k2.cell (i := 2) rfl)) ?_
 refine xp rfl (OpP.lenSlice Tryd.underlying36 rfl) ?_
 refine xqd 1 [0, 12, 13, 14] rfl ?_
 refine G.block rfl rfl ?_
 refine G.loop (σ := Nat × Value × List Pt × Pt) (fun q => [(0, .pointer (some ⟨b, 0, none⟩)), (12, .slice ta tn tc), (13, .int .i64 (tn : Nat)), (14, .int .i64 (q.1 : Nat))]) (fun q h' => (q.1 ≤ tn ∧ q.2.2.1.length ≤ q.1 ∧ -1000000 ≤ q.2.2.2.1 ∧ q.2.2.2.1 ≤ 1000000) ∧ Ext (fun x => x = b) h h' ∧ Blk h' b 52 (docC l s (.slice ta tn tc) (.slice sa sn sc) en q.2.1 n) ∧ OwR 3 encPt h' h.size 61 q.2.1 (q.2.2.1 ++ [q.2.2.2]) ∧ (q.2.2.1 ++ [q.2.2.2]) ++ ptsG (toks.drop q.1) (sts.drop q.1) q.2.2.2.1 = tgt) (fun q => tn - q.1) ((0, .slice (some ⟨h.size, 0, none⟩) 1 1, [], (0, (0, 0)))) rfl ⟨rfl, rfl, rfl, rfl, trivial⟩ ⟨⟨Nat.zero_le _, Nat.le_refl _, show (-1000000 : Int) ≤ 0 by decide, show (0 : Int) ≤ 1000000 by decide⟩, e02, k2, ho2, htgt⟩ ?_
 rintro ⟨i, pv, pre, last⟩ g ⟨⟨hi, hpl, hl1, hl2⟩, eg, kg, hp, hcon⟩ ih
 try dsimp only
 dsimp only at hi hpl hl1 hl2 kg hp hcon
 have zg := eg.size
 refine xrd Tryd.func30 1 [0, 12, 13, 14, 15] rfl ?_
 refine G.seq rfl ?_
 refine G.ite rfl rfl (fun hlt => ?_) (fun hlt => ?_)
 · have hit : i < tn := by omega
   obtain ⟨bt, ot, t, hta, hbt, htk, hrow⟩ := ((ht.but eg).open_slice).recd hit
   obtain ⟨bs', os', st, hsa, hbs', hst, hrow0⟩ := hss.recd (i := i) (by omega)
   have hrow2 := eg.rowAt hbs' hrow0
   have hbsz : bs' < h.size := lt_of_rowAt hrow0 (List.cons_ne_nil _ _)
   have hdt : toks.drop i = t :: toks.drop (i + 1) := by obtain ⟨h3, h4⟩ := List.getElem?_eq_some_iff.1 htk; rw [← h4]; exact List.drop_eq_getElem_cons h3
   have hds : sts.drop i = st :: sts.drop (i + 1) := by obtain ⟨h3, h4⟩ := List.getElem?_eq_some_iff.1 hst; rw [← h4]; exact List.drop_eq_getElem_cons h3
   have htp := hpos t (List.mem_of_getElem? htk)
   rw [hdt, hds, ptsG] at hcon
   refine G.skip rfl ?_
   refine G.seq rfl ?_
   refine G.block rfl rfl ?_
   refine xra Tryd.func30 1 rfl ?_
   refine xp rfl (OpP.indexSlice Tryd.underlying36 H.sz39 rfl rfl i rfl hta hit) ?_
   refine xp rfl (OpP.loadRowN H.ag39 H.sz39 rfl hrow (by first | rfl | simp)) ?_
   refine xo rfl (OpX.allocN H.zr39) ?_
   rintro _ g1 ⟨rfl, k3, f1, y1⟩
   refine xqm 1 rfl ?_
   refine RW.op0 rfl rfl rfl (OpX.storeBlk H.sz39 rfl rfl k3 (by first | rfl | simp) (by first | decide | exact of_decide_eq_true rfl | (simp; done) | (simp; omega)) (tk_one _)) ?_
   rintro _ g2 ⟨rfl, k3, x3, y3⟩
   have k3 : Blk g2 g.size 39 (encTk t) := k3
   have eg2 : Ext0 g g2 := Ext0.only (h0 := g) f1 x3 (Nat.le_refl _)
   have kg2 := kg.ext0 eg2
   have hp2 := hp.ext0 eg2
   have zg2 := eg2.size
   have hpr : SlR ePt g2 (fun _ => False) pv (pre ++ [last]) := OwR.read hp2 (fun _ _ k => k)
   obtain ⟨pa, pn, pc, rfl, hps⟩ := hpr.open
   have hpn : (pre ++ [last]).length = pn := hps.len
   have hpn1 : pre.length + 1 = pn := by rw [← hpn]; simp
   obtain ⟨bp, op, lp, hpa, _, hlp, hrow3⟩ := hps.recd (i := pre.length) (by omega)
   obtain rfl : last = lp := by simpa using hlp
   have hrowS := eg2.rowAt (fun k => k) hrow2
   refine xd [0, 2, 3, 12, 13, 14, 15] rfl ?_
   refine G.seq rfl ?_
   refine G.drawQ Tryd.func30 H.mixed rfl (by kernel_rfl) ?_
   refine RQ.pureS rfl rfl rfl rfl (OpP.fieldAddr (off := 1) Tryd.underlying39 rfl rfl H.sz3 rfl) ?_
   refine RQ.pureS rfl rfl rfl rfl (OpP.load H.ag3 rfl (k3.cell (i := 1) rfl)) ?_
   refine RQ.pureS rfl rfl rfl rfl (OpP.move rfl) ?_
   refine RQ.pureS rfl rfl rfl rfl (OpP.nilCheck rfl) ?_
   refine RQ.pureS rfl rfl rfl rfl (OpP.fieldAddr (off := 6) Tryd.underlying52 rfl rfl H.sz48 rfl) ?_
   refine RQ.pureS rfl rfl rfl rfl (OpP.load H.ag48 rfl (kg2.cell (i := 6) rfl)) ?_
   refine RQ.pureS rfl rfl rfl rfl (OpP.move rfl) ?_
   refine RQ.pureS rfl rfl rfl rfl (OpP.nilCheck rfl) ?_
   refine RQ.pureS rfl rfl rfl rfl (OpP.fieldAddr (off := 6) Tryd.underlying52 rfl rfl H.sz48 rfl) ?_
   refine RQ.pureS rfl rfl rfl rfl (OpP.load H.ag48 rfl (kg2.cell (i := 6) rfl)) ?_
   refine RQ.pureS rfl rfl rfl rfl (OpP.lenSlice Tryd.underlying48 rfl) ?_
   refine RQ.pureS rfl rfl rfl rfl (OpP.sub64 rfl rfl ⟨by omega, by omega⟩) ?_
   refine RQ.pureS rfl rfl rfl rfl (OpP.indexSlice Tryd.underlying48 H.sz61 rfl rfl pre.length (by omega) hpa (by omega)) ?_
   refine RQ.pureS rfl rfl rfl rfl (OpP.fieldAddr (off := 0) Tryd.underlying61 rfl rfl H.sz3 rfl) ?_
   refine RQ.pureS rfl rfl rfl rfl (OpP.load H.ag3 rfl (hrow3 0 _ rfl)) ?_
   refine RQ.pureS rfl rfl rfl rfl (OpP.add64 rfl rfl ⟨by omega, by omega⟩) ?_
   refine RQ.pureS rfl rfl rfl rfl (OpP.geq rfl rfl) ?_
   refine RQ.done rfl ?_
   refine xu [0, 2, 3, 12, 13, 14, 15, 35] rfl ?_
   refine G.ite rfl rfl (fun hge => ?_) (fun hge => ?_)
   · have hge' : last.1 + 64 ≤ t.2.1 := hge
     rw [if_pos hge'] at hcon
     have hpo := (OwnH.lt hp2 (b := bp) (by rw [hpa]; rfl))
     have hMb : ¬ (but (Value.slice pa pn pc).ownBlock b ∨ Array.size g2 ≤ b) := by
      rintro (q | q)
      · have := (OwnH.lt hp2 q.symm).1; omega
      · have := kg2.lt; omega
     have hM3 : ¬ (but (Value.slice pa pn pc).ownBlock g.size ∨ Array.size g2 ≤ g.size) := by
      rintro (q | q)
      · have := (OwnH.lt hp q.symm).2; omega
      · have := k3.lt; omega
     have hMS : ¬ (but (Value.slice pa pn pc).ownBlock bs' ∨ Array.size g2 ≤ bs') := by
      rintro (q | q)
      · have := (OwnH.lt hp2 q.symm).1; omega
      · omega
     have hho2 : OwnH g2 h.size 61 3 (.slice pa pn pc) (pre ++ [last]).length ((pre ++ [last]).flatMap encPt) := hp2
     refine G.draw (fun x => but (Value.slice pa pn pc).ownBlock x ∨ Array.size g2 ≤ x) (fun i => Nat.blt i 19) (sz := 20) (listed := #[false, false, false, false, false, false, false, false, false, false, false, false, false, false, false, false, false, false, false, false]) Tryd.func30 H.mixed rfl rfl rfl ?_
     refine xtq 0 1 (by kernel_rfl) rfl ?_
     refine xtq 1 3 (by kernel_rfl) rfl ?_
     refine xtq 2 7 (by kernel_rfl) rfl ?_
     refine xtp 3 15 (by kernel_rfl) rfl (fun h' e => OpP.fieldAddr (off := 6) Tryd.underlying52 rfl rfl H.sz48 rfl) ?_
     refine xtp 4 31 (by kernel_rfl) rfl (fun h' e => OpP.load H.ag48 rfl (e.cell hMb (kg2.cell (i := 6) rfl))) ?_
     refine xtp 5 63 (by kernel_rfl) rfl (fun h' e => OpP.fieldAddr (off := 1) Tryd.underlying39 rfl rfl H.sz3 rfl) ?_
     refine xtp 6 127 (by kernel_rfl) rfl (fun h' e => OpP.load H.ag3 rfl (e.cell hM3 (k3.cell (i := 1) rfl))) ?_
     refine xtq 7 255 (by kernel_rfl) rfl ?_
     refine xtq 8 511 (by kernel_rfl) rfl ?_
     refine xtp 9 1023 (by kernel_rfl) rfl (fun h' e => OpP.fieldAddr (off := 3) Tryd.underlying52 rfl rfl H.sz50 rfl) ?_
     refine xtp 10 2047 (by kernel_rfl) rfl (fun h' e => OpP.load H.ag50 rfl (e.cell hMb (kg2.cell (i := 3) rfl))) ?_
     refine xtq 11 4095 (by kernel_rfl) rfl ?_
     refine xtp 12 8191 (by kernel_rfl) rfl (fun h' e => OpP.indexSlice Tryd.underlying50 H.sz45 rfl rfl i rfl hsa (by omega)) ?_
     refine xtp 13 16383 (by kernel_rfl) rfl (fun h' e => OpP.loadRowN H.ag45 H.sz45 rfl (e.rowAt hMS hrowS) (by first | rfl | simp)) ?_
     refine xtp 14 32767 (by kernel_rfl) rfl (fun h' e => OpP.build (H.bd61_0_1 _ _ _) rfl) ?_
     refine xto 15 65535 (by kernel_rfl) rfl (OpX.buildRec (cs := [_, _, _]) Tryd.underlying48 H.el61 rfl rfl (by decide)) ?_
     rintro _ g3 ⟨rfl, hg3⟩
     refine ⟨fun _ => by rw [hg3]; exact Ext.push _ _ _, ?_⟩
     have f3 : Ext0 g2 g3 := by rw [hg3]; exact Ext.push _ _ _
     have y3 : g3.size = g2.size + 1 := by rw [hg3]; simp
     have hrA : Lw.rowAt g3 g2.size 0 (encPt (t.2.1, st)) := by rw [hg3]; exact row_push _ _ _
     refine xto 16 131071 (by kernel_rfl) rfl (OpX.append Tryd.underlying48 H.el61 rfl rfl (hho2.ext0' f3) rfl (.inr ⟨_, _, rfl, hrA⟩) (pt_one _) (by simp only [maxLen]; omega) (by omega) (by omega)) ?_
     rintro v4 g4 ⟨ho4, hx4, _, hv4⟩
     refine ⟨fun _ => hx4.mono (fun _ _ k => .inl k), ?_⟩
     have kg4 := (kg2.ext0 f3).ext hx4 (fun q => hMb (.inl q))
     have z4 := hx4.size
     obtain ⟨qa, qc, hvq, _⟩ := OwnH.open ho4
     refine xto 17 262143 (by kernel_rfl) rfl (OpP.toX (OpP.nilCheck rfl)) ?_
     rintro _ hq_ ⟨rfl, hqe_⟩
     replace hqe_ := hqe_.symm
     subst hqe_
     refine ⟨fun _ => Ext.refl _ _, ?_⟩
     refine xtp 18 524287 (by kernel_rfl) rfl (fun h' e => OpP.fieldAddr (off := 6) Tryd.underlying52 rfl rfl H.sz48 rfl) ?_
     refine xt0 19 1048575 (by kernel_rfl) rfl (OpX.storeOne H.sz48 rfl rfl kg4 (by first | decide | exact of_decide_eq_true rfl | (simp; done) | (simp; omega)) (by rw [hvq]; rfl)) ?_
     rintro _ g5 ⟨rfl, kg5, x5, z5⟩
     refine ⟨fun hk => (nomatch hk), ?_⟩
     refine RD.done (by kernel_rfl) ?_
     refine xu [0, 2, 3, 12, 13, 14, 15, 35] rfl ?_
     refine G.blkEnd ?_
     refine G.reg Tryd.func30 rfl ?_
     refine xp rfl (OpP.add64 rfl rfl ⟨by omega, by omega⟩) ?_
     refine xqd 1 [0, 2, 3, 12, 13, 14, 15, 35] rfl ?_
     have kg5 : Blk g5 b 52 (docC l s (.slice ta tn tc) (.slice sa sn sc) en v4 n) := kg5
     have ho4' : OwR 3 encPt g4 h.size 61 v4 ((pre ++ [last]) ++ [(t.2.1, st)]) := OwR.of ho4 rfl rfl
     have ho5 : OwR 3 encPt g5 h.size 61 v4 ((pre ++ [last]) ++ [(t.2.1, st)]) := OwnH.ext x5 ho4' (fun x hx (q : x = b) => by have := (OwnH.lt ho4' hx).1; omega)
     have eg5 : Ext (fun x => x = b) h g5 := ⟨by have := x5.size; omega, fun x hx hn => by
      rw [x5.block x (by omega) hn, hx4.block x (by omega) (fun q => by have := (OwnH.lt hp q.symm).1; omega), f3.block x (by omega) (fun q => q), eg2.block x (by omega) (fun q => q)]
      exact eg.block x hx hn⟩
     exact ih (i + 1, v4, pre ++ [last], (t.2.1, st)) _ _ ⟨rfl, rfl, rfl, rfl, trivial⟩ ⟨⟨by show i + 1 ≤ tn; omega, by simp; omega, htp.1, htp.2⟩, eg5, kg5, ho5, by rw [← hcon]; simp⟩ (by show tn - (i + 1) < tn - i; omega)
   · have hge' : ¬ last.1 + 64 ≤ t.2.1 := hge
     rw [if_neg hge'] at hcon
     refine G.skip rfl ?_
     refine G.blkEnd ?_
     refine G.reg Tryd.func30 rfl ?_
     refine xp rfl (OpP.add64 rfl rfl ⟨by omega, by omega⟩) ?_
     refine xqd 1 [0, 2, 3, 12, 13, 14, 15, 35] rfl ?_
     exact ih (i + 1, .slice pa pn pc, pre, last) _ _ ⟨rfl, rfl, rfl, rfl, trivial⟩ ⟨⟨by show i + 1 ≤ tn; omega, by show pre.length ≤ i + 1; omega, hl1, hl2⟩, eg.trans (Ext0.of eg2), kg2, hp2, hcon⟩ (by show tn - (i + 1) < tn - i; omega)
 · obtain rfl : i = tn := by omega
   have hdt : toks.drop i = [] := List.drop_of_length_le (by omega)
   rw [hdt] at hcon
   have hcon : (pre ++ [last]) = tgt := by rw [← hcon]; simp [ptsG]
   refine G.exit rfl rfl ?_
   refine G.fall Tryd.func30 rfl ?_
   exact ⟨_, rfl, ⟨pv, kg, by rw [← hcon]; exact OwR.read hp (fun x hx q => by omega)⟩, eg⟩
end Go.Proofs.YtlkmlfofhbekoaaDoor
namespace Go.Lw
section
variable {P : Program} {n : Nat} {ops : Array Oper} {M : Nat → Prop} {keeps : Nat → Bool} {fuel : Nat} {listed : Array Bool} {ρ : Env} {h : Heap} {N : Env → Heap → Prop} {X : List PanicEntry → Heap → Prop}
theorem RD.three (i j k : Nat) {oi oj ok : Oper} {Φ Φ' Φ'' : Value → Heap → Prop} {li lj lk : Array Bool} {di dj dk : Option Nat} (hi' : nth ops.toList i = some oi) (hj' : nth ops.toList j = some oj) (hk' : nth ops.toList k = some ok) (hr : Region.ready .any ops listed = [i, j, k])
 (hwi : wantedE ops ρ oi = some true) (hwj : wantedE ops ρ oj = some true) (hwk : wantedE ops ρ ok = some true) (hodi : oi.dst = di) (hodj : oj.dst = dj) (hodk : ok.dst = dk) (hdi : dstOk n di = true) (hdj : dstOk n dj = true) (hdk : dstOk n dk = true)
 (ki : OpX P oi ρ h Φ X) (kj : OpX P oj ρ h Φ' X) (kk : OpX P ok ρ h Φ'' X)
 (hli : listed.setIfInBounds i true = li) (hlj : listed.setIfInBounds j true = lj) (hlk : listed.setIfInBounds k true = lk)
 (nexti : ∀ v h', Φ v h' → (keeps i = true → Ext M h h') ∧ RD P n ops M keeps fuel li (ρ.put di v) h' N X)
 (nextj : ∀ v h', Φ' v h' → (keeps j = true → Ext M h h') ∧ RD P n ops M keeps fuel lj (ρ.put dj v) h' N X)
 (nextk : ∀ v h', Φ'' v h' → (keeps k = true → Ext M h h') ∧ RD P n ops M keeps fuel lk (ρ.put dk v) h' N X) : RD P n ops M keeps (fuel + 1) listed ρ h N X := by
 subst hli; subst hlj; subst hlk; subst hodi; subst hodj; subst hodk
 have hi := nth_get hi'
 have hj := nth_get hj'
 have hk := nth_get hk'
 intro B a w hf' ha
 refine ⟨fun h0 => (by rw [hr] at h0; cases h0), fun q hq => ?_⟩
 rw [hr] at hq
 have : q = i ∨ q = j ∨ q = k := by simpa using hq
 rcases this with rfl | rfl | rfl
 · unfold wpOp
   simp only [hi]
   rw [wanted_of hf' hwi, if_pos rfl]
   refine .inl (ki n B a w hf' ha _ _ (fun v h' w' ha' hv => ?_) (fun ch h' w' ha' hx => ⟨hf'.nd, h', ha', hx⟩))
   obtain ⟨h1, h2⟩ := nexti v h' hv
   exact ⟨fun hk => by rw [ha.heap, ha'.heap]; exact h1 hk, h2 B _ w' (hf'.put hdi v) ha'⟩
 · unfold wpOp
   simp only [hj]
   rw [wanted_of hf' hwj, if_pos rfl]
   refine .inl (kj n B a w hf' ha _ _ (fun v h' w' ha' hv => ?_) (fun ch h' w' ha' hx => ⟨hf'.nd, h', ha', hx⟩))
   obtain ⟨h1, h2⟩ := nextj v h' hv
   exact ⟨fun hk => by rw [ha.heap, ha'.heap]; exact h1 hk, h2 B _ w' (hf'.put hdj v) ha'⟩
 · unfold wpOp
   simp only [hk]
   rw [wanted_of hf' hwk, if_pos rfl]
   refine .inl (kk n B a w hf' ha _ _ (fun v h' w' ha' hv => ?_) (fun ch h' w' ha' hx => ⟨hf'.nd, h', ha', hx⟩))
   obtain ⟨h1, h2⟩ := nextk v h' hv
   exact ⟨fun hk => by rw [ha.heap, ha'.heap]; exact h1 hk, h2 B _ w' (hf'.put hdk v) ha'⟩
theorem RD.threeS (i j k : Nat) {oi oj ok : Oper} {Φ Φ' Φ'' : Value → Heap → Prop} {li lj lk : Array Bool} {di dj dk : Nat} (hi' : nth ops.toList i = some oi) (hj' : nth ops.toList j = some oj) (hk' : nth ops.toList k = some ok) (hr : Region.ready .any ops listed = [i, j, k])
 (hwi : wantedE ops ρ oi = some true) (hwj : wantedE ops ρ oj = some true) (hwk : wantedE ops ρ ok = some true) (hodi : oi.dst = some di) (hodj : oj.dst = some dj) (hodk : ok.dst = some dk) (hdi : Nat.blt di n = true) (hdj : Nat.blt dj n = true) (hdk : Nat.blt dk n = true)
 (ki : OpX P oi ρ h Φ X) (kj : OpX P oj ρ h Φ' X) (kk : OpX P ok ρ h Φ'' X)
 (hli : listed.setIfInBounds i true = li) (hlj : listed.setIfInBounds j true = lj) (hlk : listed.setIfInBounds k true = lk)
 (nexti : ∀ v h', Φ v h' → (keeps i = true → Ext M h h') ∧ RD P n ops M keeps fuel li ((di, v) :: ρ) h' N X)
 (nextj : ∀ v h', Φ' v h' → (keeps j = true → Ext M h h') ∧ RD P n ops M keeps fuel lj ((dj, v) :: ρ) h' N X)
 (nextk : ∀ v h', Φ'' v h' → (keeps k = true → Ext M h h') ∧ RD P n ops M keeps fuel lk ((dk, v) :: ρ) h' N X) : RD P n ops M keeps (fuel + 1) listed ρ h N X :=
 RD.three i j k hi' hj' hk' hr hwi hwj hwk hodi hodj hodk hdi hdj hdk ki kj kk hli hlj hlk nexti nextj nextk
end
end Go.Lw
namespace Go.Proofs.YtlkmlfofhbekoaaDoor
open Go Go.Lw
set_option maxRecDepth 20000
def syncB (lim a old : Nat) (d : Int) (st : LSt) (T : List Tk) (S : List LSt) : Bool :=
 decide (lim ≤ a) && match T[old]?, S[old]? with
  | some t, some s => decide (t.2.1 + d = (a : Int)) && decide (s = st)
  | _, _ => false
theorem syncB_yes {lim a old : Nat} {d : Int} {st : LSt} {T : List Tk} {S : List LSt} (h : syncB lim a old d st T S = true) : lim ≤ a ∧ ∃ t, T[old]? = some t ∧ t.2.1 + d = a ∧ S[old]? = some st := by
 unfold syncB at h
 rw [Bool.and_eq_true] at h
 obtain ⟨h1, h2⟩ := h
 refine ⟨of_decide_eq_true h1, ?_⟩
 split at h2
 · rename_i t s ht hs
   rw [Bool.and_eq_true] at h2
   exact ⟨t, ht, of_decide_eq_true h2.1, by rw [hs, of_decide_eq_true h2.2]⟩
 · cases h2
theorem syncB_no {lim a old : Nat} {d : Int} {st : LSt} {T : List Tk} {S : List LSt} (h : syncB lim a old d st T S = false) (hl : lim ≤ a) (t : Tk) (ht : T[old]? = some t) (hd : t.2.1 + d = a) : ¬ S[old]? = some st := by
 intro hs
 unfold syncB at h
 rw [decide_eq_true hl, ht, hs, Bool.true_and] at h
 simp only [decide_eq_true hd, decide_true, Bool.and_self] at h
 cases h
theorem rows_two {g : Heap} {base base' : Nat} {vt vs : Value} {toks : List Tk} {pre : List LSt} (ht : OwR 3 encTk g base 39 vt toks) (hs : OwR 2 encLSt g base' 45 vs pre) : ∀ b, but vt.ownBlock b → ¬ but vs.ownBlock b := fun b hb hc => by
 obtain ⟨cur, fr, h1⟩ := OwnH.ty ht hb.symm
 obtain ⟨cur', fr', h2⟩ := OwnH.ty hs hc.symm
 have := h1.symm.trans h2
 simp at this
def AppQ (g : Heap) (base : Nat) (vt vs : Value) (toks : List Tk) (sts : List LSt) (t : Tk) (st : LSt) (q : Value × Value) (h : Heap) : Prop :=
 OwR 3 encTk h base 39 q.1 (toks ++ [t]) ∧ OwR 2 encLSt h base 45 q.2 (sts ++ [st]) ∧ Ext (fun b => but vt.ownBlock b ∨ but vs.ownBlock b) g h ∧ (∀ b, q.2.ownBlock = some b → vs.ownBlock = some b ∨ g.size ≤ b)
theorem appq_end {g w2 w4 : Heap} {base : Nat} {vt vs vt2 vs2 : Value} {toks : List Tk} {sts : List LSt} {t : Tk} {st : LSt} (ho : OwR 3 encTk g base 39 vt toks) (hs : OwR 2 encLSt g base 45 vs sts) (x1 : Ext (but vt.ownBlock) g w2) (hv2 : ∀ b, vt2.ownBlock = some b → vt.ownBlock = some b ∨ g.size ≤ b)
 (ho2 : OwnH w2 base 39 3 vt2 (toks.length + 1) (toks.flatMap encTk ++ encTk t)) (x2 : Ext (but vs.ownBlock) w2 w4) (ho4 : OwnH w4 base 45 2 vs2 (sts.length + 1) (sts.flatMap encLSt ++ encLSt st)) (hv4 : ∀ b, vs2.ownBlock = some b → vs.ownBlock = some b ∨ g.size ≤ b) : AppQ g base vt vs toks sts t st (vt2, vs2) w4 := by
 have hd := rows_two (g := g) ho hs
 refine ⟨OwR.of (OwnH.ext x2 ho2 (fun b hb k => ?_)) rfl rfl, OwR.of ho4 rfl rfl, (x1.mono (fun _ _ k => .inl k)).trans (x2.mono (fun _ _ k => .inr k)), hv4⟩
 rcases hv2 b hb with h | h
 · exact hd b h.symm k
 · have := (OwnH.lt hs k.symm).2; omega
def StepsOk (s s' : By) (i lim : Nat) (d : Int) (m : Int) : Prop := 0 ≤ m ∧ ∃ (p : Pt) (a e : Nat), IsBef (ptsP s) i p ∧ p.1 = a ∧ a ≤ i ∧ a ≤ e ∧ e ≤ s'.length ∧ m ≤ 3 * ((e : Int) - a) ∧ ∀ x, a ≤ x → x < e → lim ≤ x → ¬ SyncP s s' d x
def OneQ (g : Heap) (t : Tk) (st : LSt) (q : Nat × Nat) (h : Heap) : Prop := Blk h q.1 39 (encTk t) ∧ Blk h q.2 45 (encLSt st) ∧ Ext0 g h ∧ g.size ≤ q.1 ∧ g.size ≤ q.2 ∧ q.1 ≠ q.2
theorem oneq_leaf {g w3 w4 w5 : Heap} {b1 b2 : Nat} {t : Tk} {st : LSt} (e : Ext0 g w3) (h1 : g.size ≤ b1) (h2 : g.size ≤ b2) (hne : b1 ≠ b2) (x4 : Ext (fun b => b = b1) w3 w4) (x5 : Ext (fun b => b = b2) w4 w5) (d7 : Blk w4 b1 39 (encTk t)) (d8 : Blk w5 b2 45 (encLSt st)) : OneQ g t st (b1, b2) w5 :=
 ⟨d7.ext x5 hne, d8, Ext0.only (Ext0.only e x4 h1) x5 h2, h1, h2, hne⟩
theorem own_ne {h : Heap} {base c sz n : Nat} {t t' : TypeId} {v : Value} {xs cs : List Value} (k : OwnH h base t sz v n xs) (kc : Blk h c t' cs) (hne : t ≠ t') : ¬ but v.ownBlock c := fun hb => by
 obtain ⟨cur, fr, h1⟩ := OwnH.ty k hb.symm
 have h2 := h1.symm.trans kc
 simp only [Option.some.injEq, Obj.cells.injEq] at h2
 exact hne h2.2.1
structure EdI (h : Heap) (b c B : Nat) (s x : By) (i j : Nat) (d : Int) (pa : Nat) (l tv sv pv : Value) (a : Nat) (st : LSt) (old : Nat) (m : Int) (tv' : Value) (toks : List Tk) (sv' : Value) (sts : List LSt) (h' : Heap) : Prop where
 tk : Taking s (edP s i j x) (i + x.length) d pa toks sts a st
 ol : old ≤ (allP s).1.length
 ob : ∀ (r : Nat) (t : Tk), r < old → (allP s).1[r]? = some t → t.2.1 + d < max (a : Int) ((i + x.length : Nat) : Int)
 m0 : 0 ≤ m
 m1 : m ≤ 3 * ((a : Int) - pa)
 ex : Ext (fun y => y = b) h h'
 kd : Blk h' b 52 (docC l s tv sv (allP s).2 pv m)
 kc : Blk h' c 45 (encLSt st)
 ho : OwR 3 encTk h' B 39 tv' toks
 hp : OwR 2 encLSt h' B 45 sv' sts
 nc : ∀ y, sv'.ownBlock = some y → y ≠ c
 cb : B ≤ c
 hB : h.size ≤ B
theorem EdI.old {h : Heap} {b c B : Nat} {s x : By} {i j : Nat} {d : Int} {pa : Nat} {l tv sv pv : Value} {a : Nat} {st : LSt} {old r : Nat} {m : Int} {tv' : Value} {toks : List Tk} {sv' : Value} {sts : List LSt} {h' : Heap} (k : EdI h b c B s x i j d pa l tv sv pv a st old m tv' toks sv' sts h')
 (hr : r ≤ (allP s).1.length) (hb : ∀ (r' : Nat) (t : Tk), r' < r → (allP s).1[r']? = some t → t.2.1 + d < max (a : Int) ((i + x.length : Nat) : Int)) : EdI h b c B s x i j d pa l tv sv pv a st r m tv' toks sv' sts h' :=
 ⟨k.tk, hr, hb, k.m0, k.m1, k.ex, k.kd, k.kc, k.ho, k.hp, k.nc, k.cb, k.hB⟩
def skipB (T : List Tk) (r : Nat) (d : Int) (a : Nat) : Bool := match T[r]? with
 | some t => decide (t.2.1 + d < (a : Int))
 | none => false
structure EdF (h : Heap) (b c B : Nat) (s x : By) (i j : Nat) (d : Int) (l tv sv pv : Value) (m : Int) (tv' sv' : Value) (h' : Heap) : Prop where
 ex : Ext (fun y => y = b) h h'
 kd : Blk h' b 52 (docC l s tv sv (allP s).2 pv m)
 kc : Blk h' c 45 (encLSt (allP (edP s i j x)).2)
 ho : OwR 3 encTk h' B 39 tv' (allP (edP s i j x)).1
 hp : OwR 2 encLSt h' B 45 sv' (sts0 (edP s i j x))
 so : StepsOk s (edP s i j x) i (i + x.length) d m
 cb : B ≤ c
 hB : h.size ≤ B
end Go.Proofs.YtlkmlfofhbekoaaDoor
namespace Go.Proofs.YtlkmlfofhbekoaaDoor
open Go Go.Lw
set_option maxRecDepth 20000
set_option maxHeartbeats 4000000 in
theorem edit_calls {h : Heap} {b : Nat} {s : By} {n : Int} (k : DocH h b s n) (x : By) (i j : Nat) (hij : i ≤ j) (hj : j ≤ s.length) (hs : s.length ≤ 16384) (hx : i + x.length + (s.length - j) ≤ 16384) :
 CallsH Tryd.prog 9 #[.pointer (some ⟨b, 0, none⟩), .int .i64 (i : Nat), .int .i64 (j : Nat), .string (bs x)] h (Ret fun r h' => (r = .int .i64 0 ∧ ∃ m, DocH h' b (edP s i j x) m ∧ StepsOk s (edP s i j x) i (i + x.length) ((x.length : Int) - ((j : Int) - i)) m) ∧ Ext (fun y => y = b) h h') := by
 obtain ⟨h0, lb, tv, sv, pv, kG, kL, k3, hb0, kd, ht, hsv, hp⟩ := k
 have hbs := bs_size s
 have hbx := bs_size x
 have hal := all_len s
 have hpl := pts_len s
 have hsl := sts0_len s
 have hb := kd.lt
 have hEl := edP_len x hij hj
 have hEb := bs_size (edP s i j x)
 obtain ⟨ta, tn, tc, rfl, hts⟩ := id ht.open
 obtain ⟨sa, sn, sc, rfl, hss⟩ := id hsv.open
 have htn : (allP s).1.length = tn := hts.len
 have hsn : (sts0 s).length = sn := hss.len
 have htc := hts.le
 have hsc := hss.le
 obtain ⟨d, hd⟩ : ∃ d, d = (x.length : Int) - ((j : Int) - i) := ⟨_, rfl⟩
 rw [← hd]
 have hq1 : (bs s).extract 0 i = bs (s.take i) := by rw [bs_part s 0 i (Nat.zero_le _), List.drop_zero]
 have hq2 : (bs s).extract j (bs s).size = bs (s.drop j) := bs_drop s j
 refine CallsH.of Tryd.func9 rfl rfl ?_
 refine xrd Tryd.func9 1 [0, 1, 2, 3, 8] rfl ?_
 refine G.scope rfl ?_
 refine G.seq rfl ?_
 refine G.block rfl rfl ?_
 refine xra Tryd.func9 1 rfl ?_
 refine xo rfl (OpX.call (vs := [_]) Tryd.func24 rfl H.nm24 rfl (CallsH.toX ((rnone_at kd)))) ?_
 rintro _ h ⟨rfl, hg0⟩
 refine xqd 1 [0, 1, 2, 3, 8, 23] rfl ?_
 subst hg0
 refine G.cond rfl rfl (fun hc => absurd hc (by simp)) (fun _ => ?_)
 refine G.seq rfl ?_
 refine G.regTo1 [(26, .bool false)] [(0, _), (1, _), (2, _), (3, _), (8, _), (23, _)] ⟨rfl, rfl, rfl, rfl, rfl, rfl, trivial⟩ Tryd.func9 rfl ?_ ?_
 · refine xqm 3 rfl ?_
   refine RW.know (d := 29) (b' := false) rfl (by simp) ?_
   refine xqm 5 rfl ?_
   refine RW.know (d := 34) (b' := false) rfl (by simp; omega) ?_
   refine xqp 3 rfl rfl (OpP.fieldAddr (off := 1) Tryd.underlying52 rfl rfl H.sz9 rfl) ?_
   refine xp rfl (OpP.load H.ag9 rfl (kd.cell (i := 1) rfl)) ?_
   refine xp rfl (OpP.lenString Tryd.underlying9 rfl) ?_
   refine xqm 3 rfl ?_
   refine RW.done rfl ?_
   exact ⟨rfl, at_bool rfl (by simp [hbs]; omega), rfl, rfl, rfl, rfl, rfl, rfl, trivial⟩
 · refine G.cond rfl rfl (fun hc => absurd hc (by decide)) (fun _ => ?_)
   refine xra Tryd.func9 1 rfl ?_
   refine xp rfl (OpP.lenString Tryd.underlying9 rfl) ?_
   refine xqp 2 rfl rfl (OpP.fieldAddr (off := 1) Tryd.underlying52 rfl rfl H.sz9 rfl) ?_
   refine xp rfl (OpP.load H.ag9 rfl (kd.cell (i := 1) rfl)) ?_
   refine xp rfl (OpP.lenString Tryd.underlying9 rfl) ?_
   refine xp rfl (OpP.sub64 rfl rfl ⟨by omega, by omega⟩) ?_
   refine xqp 2 rfl rfl (OpP.sub64 rfl rfl ⟨by omega, by omega⟩) ?_
   refine xp rfl (OpP.add64 rfl rfl ⟨by omega, by omega⟩) ?_
   refine xqd 2 [0, 1, 2, 3, 8, 23, 26, 43] rfl ?_
   refine G.cond rfl rfl (fun hc => absurd hc (by simp [hbs, hbx]; omega)) (fun _ => ?_)
   refine G.skip rfl ?_
   refine G.blkEnd ?_
   refine G.seq rfl ?_
   refine G.drawQ Tryd.func9 H.mixed rfl (by kernel_rfl) ?_
   refine RQ.pureS rfl rfl rfl rfl (OpP.move rfl) ?_
   refine RQ.pureS rfl rfl rfl rfl (OpP.nilCheck rfl) ?_
   refine RQ.pureS rfl rfl rfl rfl (OpP.fieldAddr (off := 1) Tryd.underlying52 rfl rfl H.sz9 rfl) ?_
   refine RQ.pureS rfl rfl rfl rfl (OpP.load H.ag9 rfl (kd.cell (i := 1) rfl)) ?_
   refine RQ.pureS rfl rfl rfl rfl (OpP.move rfl) ?_
   refine RQ.pureS rfl rfl rfl rfl (OpP.sliceStrHi Tryd.underlying9 rfl rfl i rfl (by omega)) ?_
   rw [hq1]
   refine RQ.pureS rfl rfl rfl rfl (OpP.move rfl) ?_
   refine RQ.pureS rfl rfl rfl rfl (OpP.addStr rfl rfl (by rw [bs_size, bs_size, List.length_take]; omega)) ?_
   refine RQ.pureS rfl rfl rfl rfl (OpP.move rfl) ?_
   refine RQ.pureS rfl rfl rfl rfl (OpP.nilCheck rfl) ?_
   refine RQ.pureS rfl rfl rfl rfl (OpP.fieldAddr (off := 1) Tryd.underlying52 rfl rfl H.sz9 rfl) ?_
   refine RQ.pureS rfl rfl rfl rfl (OpP.load H.ag9 rfl (kd.cell (i := 1) rfl)) ?_
   refine RQ.pureS rfl rfl rfl rfl (OpP.move rfl) ?_
   refine RQ.pureS rfl rfl rfl rfl (OpP.sliceStrLo Tryd.underlying9 rfl rfl j rfl (by omega)) ?_
   rw [hq2, bs_append]
   refine RQ.pureS rfl rfl rfl rfl (OpP.addStr rfl rfl (by rw [bs_size, bs_size, List.length_append, List.length_take, List.length_drop]; omega)) ?_
   rw [bs_append, show s.take i ++ x ++ s.drop j = edP s i j x from rfl]
   have hbef := before_calls kd hp (by omega) rfl (ptsP_lt s) (i : Int) (by omega)
   refine RQ.pureS rfl rfl rfl rfl (OpP.assign rfl) ?_
   refine RQ.done rfl ?_
   refine xu [0, 1, 2, 3, 8, 9, 23, 26, 43] rfl ?_
   refine xra Tryd.func9 1 rfl ?_
   refine xp rfl (OpP.lenString Tryd.underlying9 rfl) ?_
   refine xqp 2 rfl rfl (OpP.fieldAddr (off := 1) Tryd.underlying52 rfl rfl H.sz9 rfl) ?_
   refine xp rfl (OpP.load H.ag9 rfl (kd.cell (i := 1) rfl)) ?_
   refine xp rfl (OpP.lenString Tryd.underlying9 rfl) ?_
   refine xp rfl (OpP.sub64 rfl rfl ⟨by omega, by omega⟩) ?_
   rw [show ((bs (edP s i j x)).size : Int) - ((bs s).size : Nat) = d by omega]
   refine xqd 1 [0, 1, 2, 3, 8, 9, 10, 23, 26, 43] rfl ?_
   refine xra Tryd.func9 2 rfl ?_
   refine xo rfl (OpX.call (vs := [_, _]) Tryd.func25 rfl H.nm25 rfl (CallsH.toX (hbef))) ?_
   rintro _ g1 ⟨⟨p, rfl, hbp⟩, e1⟩
   refine xo rfl (OpX.allocN H.zr61) ?_
   rintro _ g2 ⟨rfl, k11, e2, z2⟩
   refine RW.op0 rfl rfl rfl (OpX.storeBlk H.sz61 rfl rfl k11 (by first | rfl | simp) (by first | decide | exact of_decide_eq_true rfl | (simp; done) | (simp; omega)) (pt_one _)) ?_
   rintro _ g3 ⟨rfl, k11, x3, z3⟩
   have k11 : Blk g3 g1.size 61 (encPt p) := k11
   have z1 := e1.size
   have zz2 := e2.size
   have e03 : Ext0 h g3 := Ext0.only (e1.trans e2) x3 z1
   have kd3 := kd.ext0 e03
   have hM1 : ¬ Array.size g3 ≤ b := by have := kd3.lt; omega
   have hM2 : ¬ Array.size g3 ≤ g1.size := by have := k11.lt; omega
   have hfst := first_calls (ht.ext0 e03) (by omega) (fun i j t u h1 h2 h3 => tok_lt h1 h2 h3) p.1
   refine xd [0, 1, 2, 3, 8, 9, 10, 11, 23, 26, 43] rfl ?_
   refine G.seq rfl ?_
   refine G.draw (fun b => Array.size g3 ≤ b) (fun i => Nat.blt i 8) (sz := 8) (listed := #[false, false, false, false, false, false, false, false]) Tryd.func9 H.mixed rfl rfl rfl ?_
   refine xtq 0 1 (by kernel_rfl) rfl ?_
   refine xtq 1 3 (by kernel_rfl) rfl ?_
   refine xtp 2 7 (by kernel_rfl) rfl (fun h' e => OpP.fieldAddr (off := 2) Tryd.underlying52 rfl rfl H.sz36 rfl) ?_
   refine xtp 3 15 (by kernel_rfl) rfl (fun h' e => OpP.load H.ag36 rfl (e.cell hM1 (kd3.cell (i := 2) rfl))) ?_
   refine xtp 4 31 (by kernel_rfl) rfl (fun h' e => OpP.fieldAddr (off := 0) Tryd.underlying61 rfl rfl H.sz3 rfl) ?_
   refine xtp 5 63 (by kernel_rfl) rfl (fun h' e => OpP.load H.ag3 rfl (e.cell hM2 (k11.cell (i := 0) rfl))) ?_
   refine xto 6 127 (by kernel_rfl) rfl (OpX.call (vs := [_, _]) Tryd.func26 rfl H.nm26 rfl (CallsH.toX (hfst))) ?_
   rintro _ g4 ⟨⟨q, rfl, hqk, hq3, hq4⟩, e4⟩
   refine ⟨fun _ => e4.of, ?_⟩
   have e04 : Ext0 h g4 := e03.trans e4
   have kd4 := kd.ext0 e04
   have k11 := k11.ext0 e4
   have hM1 : ¬ Array.size g4 ≤ b := by have := kd4.lt; omega
   have hct := cloneT_calls (v := .slice (partAddr ta 0 3 tc) q tc) (xs := (allP s).1.take q) (((ht.ext0 e04).open_slice).part (i := 0) (j := q) (Nat.zero_le _) (by omega)).shut (by rw [List.length_take]; omega)
   have hcs : ∀ g5, Ext0 g4 g5 → _ := fun g5 e5 => cloneS_calls (v := .slice (partAddr sa 0 2 sc) q sc) (xs := (sts0 s).take q) (((hsv.ext0 (e04.trans e5)).open_slice).part (i := 0) (j := q) (Nat.zero_le _) (by omega)).shut (by rw [List.length_take]; omega)
   refine xtq 7 255 (by kernel_rfl) rfl ?_
   refine RD.done (by kernel_rfl) ?_
   refine xu [0, 1, 2, 3, 8, 9, 10, 11, 12, 23, 26, 43] rfl ?_
   refine G.seq rfl ?_
   refine G.draw (fun b => Array.size g4 ≤ b) (fun i => Nat.blt i 16) (sz := 16) (listed := #[false, false, false, false, false, false, false, false, false, false, false, false, false, false, false, false]) Tryd.func9 H.mixed rfl rfl rfl ?_
   refine xtq 0 1 (by kernel_rfl) rfl ?_
   refine xtq 1 3 (by kernel_rfl) rfl ?_
   refine xtp 2 7 (by kernel_rfl) rfl (fun h' e => OpP.fieldAddr (off := 2) Tryd.underlying52 rfl rfl H.sz36 rfl) ?_
   refine xtp 3 15 (by kernel_rfl) rfl (fun h' e => OpP.load H.ag36 rfl (e.cell hM1 (kd4.cell (i := 2) rfl))) ?_
   refine xtq 4 31 (by kernel_rfl) rfl ?_
   refine xtp 5 63 (by kernel_rfl) rfl (fun h' e => OpP.sliceSliceHi Tryd.underlying36 H.sz39 rfl rfl q rfl (by omega)) ?_
   refine xtq 7 191 (by kernel_rfl) rfl ?_
   refine xtq 8 447 (by kernel_rfl) rfl ?_
   refine xtp 9 959 (by kernel_rfl) rfl (fun h' e => OpP.fieldAddr (off := 3) Tryd.underlying52 rfl rfl H.sz50 rfl) ?_
   refine xtp 10 1983 (by kernel_rfl) rfl (fun h' e => OpP.load H.ag50 rfl (e.cell hM1 (kd4.cell (i := 3) rfl))) ?_
   refine xtq 11 4031 (by kernel_rfl) rfl ?_
   refine xtp 12 8127 (by kernel_rfl) rfl (fun h' e => OpP.sliceSliceHi Tryd.underlying50 H.sz45 rfl rfl q rfl (by omega)) ?_
   refine xto 6 8191 (by kernel_rfl) rfl (OpX.call (vs := [_]) Tryd.func27 rfl H.nm27 rfl (CallsH.toX (hct))) ?_
   rintro tv1 g5 ⟨ho5, e5⟩
   refine ⟨fun _ => e5.of, ?_⟩
   refine xto 13 16383 (by kernel_rfl) rfl (OpX.call (vs := [_]) Tryd.func28 rfl H.nm28 rfl (CallsH.toX (hcs _ e5))) ?_
   rintro sv1 g6 ⟨hp6, e6⟩
   refine ⟨fun _ => e6.of, ?_⟩
   have z5 := e5.size
   have z6 := e6.size
   have e46 : Ext0 g4 g6 := e5.trans e6
   have ho6 := ho5.ext0 e6
   have k11 := k11.ext0 e46
   have kd6 := kd4.ext0 e46
   have hp6 : OwR 2 encLSt g6 g4.size 45 sv1 ((sts0 s).take q) := OwnH.lower hp6 z5
   have hM2 : ¬ Array.size g6 ≤ g1.size := by have := k11.lt; omega
   have hr11 : Lw.rowAt g6 g1.size (0 + 1) (encLSt p.2) := k11.part 1 (fun j v hj => by match j, hj with | 0, hj => exact hj | 1, hj => exact hj | j + 2, hj => simp [encLSt] at hj)
   obtain ⟨pa, hpa, hpi, hT⟩ := take_start (x := x) hij hj hbp hqk hq3 hq4 (i + x.length) d
   refine xtq 14 32767 (by kernel_rfl) rfl ?_
   refine xtq 15 65535 (by kernel_rfl) rfl ?_
   refine RD.done (by kernel_rfl) ?_
   refine xu [0, 1, 2, 3, 8, 9, 10, 11, 12, 13, 14, 23, 26, 43] rfl ?_
   refine G.seq rfl ?_
   refine G.draw (fun b => Array.size g6 ≤ b) (fun i => Nat.blt i 7) (sz := 7) (listed := #[false, false, false, false, false, false, false]) Tryd.func9 H.mixed rfl rfl rfl ?_
   refine xtp 0 1 (by kernel_rfl) rfl (fun h' e => OpP.fieldAddr (off := 0) Tryd.underlying61 rfl rfl H.sz3 rfl) ?_
   refine xtp 1 3 (by kernel_rfl) rfl (fun h' e => OpP.load H.ag3 rfl (e.cell hM2 (k11.cell (i := 0) rfl))) ?_
   refine xtp 2 7 (by kernel_rfl) rfl (fun h' e => OpP.fieldAddr (off := 1) Tryd.underlying61 rfl rfl H.sz45 rfl) ?_
   refine xtp 3 15 (by kernel_rfl) rfl (fun h' e => OpP.loadRowN H.ag45 H.sz45 rfl (e.rowAt hM2 hr11) (by first | rfl | simp)) ?_
   refine xto 4 31 (by kernel_rfl) rfl (OpX.allocN H.zr45) ?_
   rintro _ g7 ⟨rfl, k16, e7, z7⟩
   refine ⟨fun _ => e7.of, ?_⟩
   refine xtq 5 63 (by kernel_rfl) rfl ?_
   refine xt0 6 127 (by kernel_rfl) rfl (OpX.storeBlk H.sz45 rfl rfl k16 (by first | rfl | simp) (by first | decide | exact of_decide_eq_true rfl | (simp; done) | (simp; omega)) (lst_one _)) ?_
   rintro _ g8 ⟨rfl, k16, x8, z8⟩
   refine ⟨fun _ => x8.mono (fun b _ k => by have k : b = g6.size := k; omega), ?_⟩
   have k16 : Blk g8 g6.size 45 (encLSt p.2) := k16
   have e68 : Ext0 g6 g8 := Ext0.only (h0 := g6) e7 x8 (Nat.le_refl _)
   refine RD.done (by kernel_rfl) ?_
   refine xu [0, 1, 2, 3, 8, 9, 10, 11, 12, 13, 14, 15, 16, 23, 26, 43] rfl ?_
   refine xra Tryd.func9 2 rfl ?_
   refine xp rfl (OpP.fieldAddr (off := 7) Tryd.underlying52 rfl rfl H.sz3 rfl) ?_
   refine RW.op0 rfl rfl rfl (OpX.storeOne H.sz3 rfl rfl (kd6.ext0 e68) (by first | decide | exact of_decide_eq_true rfl | (simp; done) | (simp; omega)) rfl) ?_
   rintro _ g9 ⟨rfl, kd9, x9, z9⟩
   have kd9 : Blk g9 b 52 (docC (.pointer (some ⟨lb, 0, none⟩)) s (.slice ta tn tc) (.slice sa sn sc) (allP s).2 pv 0) := kd9
   have hbg : b < g6.size := kd6.lt
   have hI0 : EdI h b g6.size g4.size s x i j d pa (.pointer (some ⟨lb, 0, none⟩)) (.slice ta tn tc) (.slice sa sn sc) pv pa p.2 q 0 tv1 ((allP s).1.take q) sv1 ((sts0 s).take q) g9 := by
    have hown1 := fun y hy => (OwnH.lt ho6 (b := y) hy)
    have hown2 := fun y hy => (OwnH.lt hp6 (b := y) hy)
    have hb4 : b < g4.size := kd4.lt
    refine ⟨hT, hqk, fun r t hr hrt => ?_, Int.le_refl _, by omega, (Ext0.of (e04.trans (e46.trans e68))).trans x9, kd9, k16.ext x9 (fun k => by omega), OwnH.ext x9 (ho6.ext0 e68) (fun y hy k => ?_), OwnH.ext x9 (hp6.ext0 e68) (fun y hy k => ?_), fun y hy => ?_, by omega, e04.size⟩
    · have := hq3 r t hr hrt; omega
    · have := hown1 y hy; omega
    · have := hown2 y hy; omega
    · have := hown2 y hy; omega
   have hc6 : g4.size ≤ g6.size := e46.size
   generalize hcc : g6.size = c at *
   generalize hBB : g4.size = B at *
   refine xd [0, 1, 2, 3, 8, 9, 10, 11, 12, 13, 14, 15, 16, 23, 26, 43] rfl ?_
   refine xrd Tryd.func9 2 [0, 1, 2, 3, 8, 9, 10, 11, 12, 13, 14, 15, 16, 17, 23, 26, 43] rfl ?_
   refine G.seq rfl ?_
   refine G.label rfl ?_
   refine G.seq rfl ?_
   refine G.block rfl rfl ?_
   rw [hpa]
   refine G.loop (σ := Nat × LSt × Nat × Int × (Value × List Tk) × (Value × List LSt)) (fun w => [(0, .pointer (some ⟨b, 0, none⟩)), (1, .int .i64 (i : Nat)), (3, .string (bs x)), (9, .string (bs (edP s i j x))), (10, .int .i64 d), (13, w.2.2.2.2.1.1), (14, w.2.2.2.2.2.1), (15, .int .i64 (w.1 : Nat)), (16, .pointer (some ⟨c, 0, none⟩)), (17, .int .i64 (w.2.2.1 : Nat))]) (fun w h' => EdI h b c B s x i j d pa (.pointer (some ⟨lb, 0, none⟩)) (.slice ta tn tc) (.slice sa sn sc) pv w.1 w.2.1 w.2.2.1 w.2.2.2.1 w.2.2.2.2.1.1 w.2.2.2.2.1.2 w.2.2.2.2.2.1 w.2.2.2.2.2.2 h') (fun w => (edP s i j x).length + 1 - w.1) ((pa, p.2, q, 0, (tv1, (allP s).1.take q), (sv1, (sts0 s).take q))) rfl ⟨rfl, rfl, rfl, rfl, rfl, rfl, rfl, rfl, rfl, rfl, trivial⟩ hI0 ?_
   rintro ⟨a, st, old, m, ⟨vt, toks⟩, ⟨vs, sts⟩⟩ g hI ih
   try dsimp only
   dsimp only at hI
   have hbc : b < h.size := hb
   have z0g := hI.ex.size
   have e0g : Ext0 h0 g := Ext0.only k3 hI.ex hb0
   have hle := hI.tk.le
   have hge := hI.tk.ge
   have htl := hI.tk.len
   have hsl2 := hI.tk.slen
   have hEal := all_len (edP s i j x)
   refine G.seq rfl ?_
   refine xra Tryd.func9 2 rfl ?_
   refine xp rfl (OpP.lenString Tryd.underlying9 rfl) ?_
   refine xqd 1 [0, 1, 3, 9, 10, 13, 14, 15, 16, 17, 115] rfl ?_
   have fin : ∀ (a : Nat) (st : LSt) (old : Nat) (m : Int) (vt : Value) (toks : List Tk) (vs : Value) (sts : List LSt) (h' : Heap) (ρ' : Env), Sub [(0, .pointer (some ⟨b, 0, none⟩)), (9, .string (bs (edP s i j x))), (10, .int .i64 d), (13, vt), (14, vs), (15, .int .i64 (a : Nat)), (16, .pointer (some ⟨c, 0, none⟩)), (17, .int .i64 (old : Nat))] ρ' → EdI h b c B s x i j d pa (.pointer (some ⟨lb, 0, none⟩)) (.slice ta tn tc) (.slice sa sn sc) pv a st old m vt toks vs sts h' ∧ (a = (edP s i j x).length ∨ (a < (edP s i j x).length ∧ syncB (i + x.length) a old d st (allP s).1 (sts0 s) = true)) → G Tryd.prog 9 Tryd.f9 [.code [1, 1, 1, 1, 1, 1, 1, 1, 1, 1, 1, 0, 1], .scp [0, 1]] ρ' h' (Ret fun r h' => (r = .int .i64 0 ∧ ∃ m, DocH h' b (edP s i j x) m ∧ StepsOk s (edP s i j x) i (i + x.length) d m) ∧ Ext (fun y => y = b) h h') := by
    rintro a st old m vt toks vs sts g ρ' hsub ⟨hI, hend⟩
    refine G.sub (ρ' := [(0, .pointer (some ⟨b, 0, none⟩)), (9, .string (bs (edP s i j x))), (10, .int .i64 d), (13, vt), (14, vs), (15, .int .i64 (a : Nat)), (16, .pointer (some ⟨c, 0, none⟩)), (17, .int .i64 (old : Nat))]) hsub ?_
    have hle := hI.tk.le
    have hge := hI.tk.ge
    have htl := hI.tk.len
    have hsl2 := hI.tk.slen
    have hcb := hI.cb
    have hhB := hI.hB
    have hso : StepsOk s (edP s i j x) i (i + x.length) d m := ⟨hI.m0, p, pa, a, hbp, hpa, hpi, hge, hle, hI.m1, hI.tk.no⟩
    refine G.seq rfl ?_
    refine G.seq rfl ?_
    refine G.regTo1 [(231, .bool (decide (a < (edP s i j x).length ∧ old < tn)))] [(0, _), (9, _), (10, _), (13, _), (14, _), (15, _), (16, _), (17, _)] ⟨rfl, rfl, rfl, rfl, rfl, rfl, rfl, rfl, trivial⟩ Tryd.func9 rfl ?_ ?_
    · refine xqp 2 rfl rfl (OpP.lenString Tryd.underlying9 rfl) ?_
      refine xqm 2 rfl ?_
      refine RW.split (d := 223) rfl (fun c1 => ?_) (fun c1 => ?_)
      · have c1' : (a : Int) < ((bs (edP s i j x)).size : Nat) := of_decide_eq_true c1
        refine xqp 3 rfl rfl (OpP.fieldAddr (off := 2) Tryd.underlying52 rfl rfl H.sz36 rfl) ?_
        refine xp rfl (OpP.load H.ag36 rfl (hI.kd.cell (i := 2) rfl)) ?_
        refine xp rfl (OpP.lenSlice Tryd.underlying36 rfl) ?_
        refine xqm 2 rfl ?_
        refine RW.done rfl ?_
        exact ⟨rfl, at_bool rfl (by rw [decide_eq_decide]; omega), rfl, rfl, rfl, rfl, rfl, rfl, rfl, rfl, trivial⟩
      · have c1' : ¬ (a : Int) < ((bs (edP s i j x)).size : Nat) := of_decide_eq_false c1
        refine xqm 8 rfl ?_
        refine RW.done rfl ?_
        exact ⟨rfl, at_bool rfl (by rw [decide_eq_false]; omega), rfl, rfl, rfl, rfl, rfl, rfl, rfl, rfl, trivial⟩
    · have fin2 : ∀ (m : Int) (tv2 sv2 : Value) (h' : Heap) (ρ' : Env), Sub [(0, .pointer (some ⟨b, 0, none⟩)), (9, .string (bs (edP s i j x))), (13, tv2), (14, sv2), (16, .pointer (some ⟨c, 0, none⟩))] ρ' → EdF h b c B s x i j d (.pointer (some ⟨lb, 0, none⟩)) (.slice ta tn tc) (.slice sa sn sc) pv m tv2 sv2 h' → G Tryd.prog 9 Tryd.f9 [.code [1, 1, 1, 1, 1, 1, 1, 1, 1, 1, 1, 1, 0, 1], .scp [0, 1]] ρ' h' (Ret fun r h' => (r = .int .i64 0 ∧ ∃ m, DocH h' b (edP s i j x) m ∧ StepsOk s (edP s i j x) i (i + x.length) d m) ∧ Ext (fun y => y = b) h h') := by
       rintro m tv2 sv2 g ρ' hsub hF
       refine G.sub (ρ' := [(0, .pointer (some ⟨b, 0, none⟩)), (9, .string (bs (edP s i j x))), (13, tv2), (14, sv2), (16, .pointer (some ⟨c, 0, none⟩))]) hsub ?_
       have hbsz := hF.kd.lt
       have hcsz := hF.kc.lt
       have hMc : ¬ (c = b ∨ Array.size g ≤ c) := by omega
       obtain ⟨qa, qc, hvq, _⟩ := OwnH.open hF.ho
       obtain ⟨qa', qc', hvq', _⟩ := OwnH.open hF.hp
       have hth : SlR eTk g (fun y => y = b) tv2 (allP (edP s i j x)).1 := OwR.read hF.ho (fun y hy k => by omega)
       have hsh : SlR eSt g (fun y => y = b) sv2 (sts0 (edP s i j x)) := OwR.read hF.hp (fun y hy k => by omega)
       refine G.seq rfl ?_
       refine G.draw (fun y => y = b ∨ Array.size g ≤ y) (fun i => Nat.blt i 20) (sz := 20) (listed := #[false, false, false, false, false, false, false, false, false, false, false, false, false, false, false, false, false, false, false, false]) Tryd.func9 H.mixed rfl rfl rfl ?_
       refine xtq 0 1 (by kernel_rfl) rfl ?_
       refine xtq 1 3 (by kernel_rfl) rfl ?_
       refine xtq 2 7 (by kernel_rfl) rfl ?_
       refine xtq 3 15 (by kernel_rfl) rfl ?_
       refine xtq 4 31 (by kernel_rfl) rfl ?_
       refine xtq 5 63 (by kernel_rfl) rfl ?_
       refine xtq 6 127 (by kernel_rfl) rfl ?_
       refine xtp 7 255 (by kernel_rfl) rfl (fun h' e => OpP.loadRowN H.ag45 H.sz45 rfl (e.rowAt hMc hF.kc.row) (by first | rfl | simp)) ?_
       refine xtq 8 511 (by kernel_rfl) rfl ?_
       refine xtp 9 1023 (by kernel_rfl) rfl (fun h' e => OpP.fieldAddr (off := 1) Tryd.underlying52 rfl rfl H.sz9 rfl) ?_
       refine xt0 10 2047 (by kernel_rfl) rfl (OpX.storeOne H.sz9 rfl rfl hF.kd (by first | decide | exact of_decide_eq_true rfl | (simp; done) | (simp; omega)) rfl) ?_
       rintro _ g1 ⟨rfl, k1, x1, z1⟩
       refine ⟨fun _ => x1.mono (fun _ _ k => .inl k), ?_⟩
       refine xtq 11 4095 (by kernel_rfl) rfl ?_
       refine xtp 12 8191 (by kernel_rfl) rfl (fun h' e => OpP.fieldAddr (off := 2) Tryd.underlying52 rfl rfl H.sz36 rfl) ?_
       refine xt0 13 16383 (by kernel_rfl) rfl (OpX.storeOne H.sz36 rfl rfl k1 (by first | decide | exact of_decide_eq_true rfl | (simp; done) | (simp; omega)) (by rw [hvq]; rfl)) ?_
       rintro _ g2 ⟨rfl, k2, x2, z2⟩
       refine ⟨fun _ => x2.mono (fun _ _ k => .inl k), ?_⟩
       refine xtq 14 32767 (by kernel_rfl) rfl ?_
       refine xtp 15 65535 (by kernel_rfl) rfl (fun h' e => OpP.fieldAddr (off := 3) Tryd.underlying52 rfl rfl H.sz50 rfl) ?_
       refine xt0 16 131071 (by kernel_rfl) rfl (OpX.storeOne H.sz50 rfl rfl k2 (by first | decide | exact of_decide_eq_true rfl | (simp; done) | (simp; omega)) (by rw [hvq']; rfl)) ?_
       rintro _ g3 ⟨rfl, k3', x3, z3⟩
       refine ⟨fun _ => x3.mono (fun _ _ k => .inl k), ?_⟩
       refine xtq 17 262143 (by kernel_rfl) rfl ?_
       refine xtp 18 524287 (by kernel_rfl) rfl (fun h' e => OpP.fieldAddr (off := 4) Tryd.underlying52 rfl rfl H.sz45 rfl) ?_
       refine xt0 19 1048575 (by kernel_rfl) rfl (OpX.storeBlk H.sz45 rfl rfl k3' (by first | rfl | simp) (by first | decide | exact of_decide_eq_true rfl | (simp; done) | (simp; omega)) (lst_one _)) ?_
       rintro _ g4 ⟨rfl, k4, x4, z4⟩
       refine ⟨fun _ => x4.mono (fun _ _ k => .inl k), ?_⟩
       have k4 : Blk g4 b 52 (docC (.pointer (some ⟨lb, 0, none⟩)) (edP s i j x) tv2 sv2 (allP (edP s i j x)).2 pv m) := k4
       have x04 : Ext (fun y => y = b) g g4 := ((x1.trans x2).trans x3).trans x4
       have hmk := mark_calls k4 (hth.but x04) (hsh.but x04) (sts0_len _) (by omega) (fun t ht => by
        obtain ⟨q, hq, rfl⟩ := List.getElem_of_mem ht
        have := tok_pos (List.getElem?_eq_getElem hq)
        omega)
       refine RD.done (by kernel_rfl) ?_
       refine xu [0, 9, 13, 14, 16] rfl ?_
       refine xra Tryd.func9 1 rfl ?_
       refine xo rfl (OpX.call (vs := [_]) Tryd.func30 rfl H.nm30 rfl (CallsH.toX (hmk))) ?_
       rintro _ g5 ⟨⟨pv', k5, hpt⟩, x5⟩
       refine xd [0, 9, 13, 14, 16] rfl ?_
       refine xrd Tryd.func9 1 [0, 8, 9, 13, 14, 16] rfl ?_
       refine G.ret Tryd.func9 rfl rfl ?_
       have x05 : Ext (fun y => y = b) g g5 := x04.trans x5
       have x0 : Ext (fun y => y = b) h g5 := hF.ex.trans x05
       exact ⟨_, rfl, ⟨rfl, m, ⟨h0, lb, tv2, sv2, pv', kG, kL, Ext0.only k3 x0 hb0, hb0, k5, hth.but x05, hsh.but x05, hpt⟩, hF.so⟩, x0⟩
      refine G.ite rfl rfl (fun hcp => ?_) (fun hcp => ?_)
      · obtain ⟨hlim, t0, htk0, htd0, hsk0⟩ := syncB_yes (hend.resolve_left (by omega)).2
        obtain ⟨s1, s2, s3⟩ := Taking.sync hij hj hd hI.tk hlim htk0 htd0 hsk0
        have hEal := all_len (edP s i j x)
        have hEsl := sts0_len (edP s i j x)
        refine G.seq rfl ?_
        refine xrd Tryd.func9 2 [0, 9, 10, 13, 14, 15, 16, 17, 21, 231] rfl ?_
        refine G.block rfl rfl ?_
        refine G.loop (σ := Nat × (Value × List Tk) × (Value × List LSt)) (fun w => [(0, .pointer (some ⟨b, 0, none⟩)), (9, .string (bs (edP s i j x))), (10, .int .i64 d), (13, w.2.1.1), (14, w.2.2.1), (16, .pointer (some ⟨c, 0, none⟩)), (21, .int .i64 (w.1 : Nat))]) (fun w h' => w.1 ≤ tn ∧ Ext (fun y => y = b) h h' ∧ Blk h' b 52 (docC (.pointer (some ⟨lb, 0, none⟩)) s (.slice ta tn tc) (.slice sa sn sc) (allP s).2 pv m) ∧ Blk h' c 45 (encLSt st) ∧ OwR 3 encTk h' B 39 w.2.1.1 w.2.1.2 ∧ OwR 2 encLSt h' B 45 w.2.2.1 w.2.2.2 ∧ (∀ y, w.2.2.1.ownBlock = some y → y ≠ c) ∧ w.2.1.2 ++ ((allP s).1.drop w.1).map (shT d) = (allP (edP s i j x)).1 ∧ w.2.2.2 ++ (sts0 s).drop w.1 = sts0 (edP s i j x)) (fun w => tn - w.1) ((old, (vt, toks), (vs, sts))) rfl ⟨rfl, rfl, rfl, rfl, rfl, rfl, rfl, trivial⟩ ⟨by show old ≤ tn; omega, hI.ex, hI.kd, hI.kc, hI.ho, hI.hp, hI.nc, s1, s2⟩ ?_
        rintro ⟨r, ⟨vt, l1⟩, ⟨vs, l2⟩⟩ g ⟨hr, ex, kdg, kcg, hog, hpg, hnc, q1, q2⟩ ih2
        try dsimp only
        dsimp only at hr kdg kcg hog hpg hnc q1 q2
        have z0g := ex.size
        have hl1 : l1.length ≤ 16384 := by have := congrArg List.length q1; rw [List.length_append] at this; omega
        have hl2 : l2.length ≤ 16384 := by have := congrArg List.length q2; rw [List.length_append] at this; omega
        refine G.seq rfl ?_
        refine xra Tryd.func9 3 rfl ?_
        refine xp rfl (OpP.fieldAddr (off := 2) Tryd.underlying52 rfl rfl H.sz36 rfl) ?_
        refine xp rfl (OpP.load H.ag36 rfl (kdg.cell (i := 2) rfl)) ?_
        refine xp rfl (OpP.lenSlice Tryd.underlying36 rfl) ?_
        refine xqd 1 [0, 9, 10, 13, 14, 16, 21, 239] rfl ?_
        refine G.ite rfl rfl (fun hrt => ?_) (fun hrt => ?_)
        · have hrt' : r < tn := by omega
          obtain ⟨bt, ot, t, hta, hbt, htk, hrow⟩ := ((ht.but ex).open_slice).recd (i := r) (by omega)
          obtain ⟨bs', os', su, hsa, hbs', hsu, hrow0⟩ := hss.recd (i := r) (by omega)
          have hbs2 : bs' < h.size := lt_of_rowAt hrow0 (List.cons_ne_nil _ _)
          have hrow2 := ex.rowAt hbs' hrow0
          have htp := tok_pos htk
          have hdt : (allP s).1.drop r = t :: (allP s).1.drop (r + 1) := by obtain ⟨h3, h4⟩ := List.getElem?_eq_some_iff.1 htk; rw [← h4]; exact List.drop_eq_getElem_cons h3
          have hds : (sts0 s).drop r = su :: (sts0 s).drop (r + 1) := by obtain ⟨h3, h4⟩ := List.getElem?_eq_some_iff.1 hsu; rw [← h4]; exact List.drop_eq_getElem_cons h3
          rw [hdt, List.map_cons] at q1
          rw [hds] at q2
          refine G.skip rfl ?_
          refine G.seq rfl ?_
          refine G.block rfl rfl ?_
          refine xra Tryd.func9 2 rfl ?_
          refine xp rfl (OpP.fieldAddr (off := 2) Tryd.underlying52 rfl rfl H.sz36 rfl) ?_
          refine xp rfl (OpP.load H.ag36 rfl (kdg.cell (i := 2) rfl)) ?_
          refine xqp 1 rfl rfl (OpP.indexSlice Tryd.underlying36 H.sz39 rfl rfl r rfl hta hrt') ?_
          refine xp rfl (OpP.loadRowN H.ag39 H.sz39 rfl hrow (by first | rfl | simp)) ?_
          refine xo rfl (OpX.allocN H.zr39) ?_
          rintro _ g1 ⟨rfl, k22, f1, y1⟩
          refine RW.op0 rfl rfl rfl (OpX.storeBlk H.sz39 rfl rfl k22 (by first | rfl | simp) (by first | decide | exact of_decide_eq_true rfl | (simp; done) | (simp; omega)) (tk_one _)) ?_
          rintro _ g2 ⟨rfl, k22, x2, y2⟩
          have k22 : Blk g2 g.size 39 (encTk t) := k22
          have eg2 : Ext0 g g2 := Ext0.only (h0 := g) f1 x2 (Nat.le_refl _)
          have z2g := eg2.size
          have tge : ∀ y, vt.ownBlock = some y → B ≤ y ∧ y < g.size := fun y hy => OwnH.lt hog hy
          have sge : ∀ y, vs.ownBlock = some y → B ≤ y ∧ y < g.size := fun y hy => OwnH.lt hpg hy
          have hoP : OwnH g2 B 39 3 vt l1.length (l1.flatMap encTk) := hog.ext0 eg2
          have hpP : OwnH g2 B 45 2 vs l2.length (l2.flatMap encLSt) := hpg.ext0 eg2
          have kd2 := kdg.ext0 eg2
          have kc2 := kcg.ext0 eg2
          have hdis := rows_two (g := g2) hoP hpP
          have h22 := k22.lt
          have hbz := kd2.lt
          have hcz := kcg.lt
          have hM22 : ¬ (but vt.ownBlock g.size ∨ but vs.ownBlock g.size ∨ Array.size g2 ≤ g.size) := by
           rintro (k | k | k)
           · have := tge _ k.symm; omega
           · have := sge _ k.symm; omega
           · omega
          have hMb2 : ¬ (but vt.ownBlock b ∨ but vs.ownBlock b ∨ Array.size g2 ≤ b) := by
           rintro (k | k | k)
           · have := tge _ k.symm; omega
           · have := sge _ k.symm; omega
           · omega
          have hMs2 : ¬ (but vt.ownBlock bs' ∨ but vs.ownBlock bs' ∨ Array.size g2 ≤ bs') := by
           rintro (k | k | k)
           · have := tge _ k.symm; omega
           · have := sge _ k.symm; omega
           · omega
          refine xd [0, 9, 10, 13, 14, 16, 21, 22, 239] rfl ?_
          refine G.drawToX (fun (q : Value × Value) (h' : Heap) => AppQ g2 B vt vs l1 l2 (shT d t) su q h') (fun (q : Value × Value) => [(13, q.1), (14, q.2)]) [(0, _), (9, _), (10, _), (16, _), (21, _), (22, _), (239, _)] ⟨rfl, rfl, rfl, rfl, rfl, rfl, rfl, trivial⟩ (fun b => but vt.ownBlock b ∨ but vs.ownBlock b ∨ Array.size g2 ≤ b) (fun i => Nat.blt i 26) (sz := 26) (listed := #[false, false, false, false, false, false, false, false, false, false, false, false, false, false, false, false, false, false, false, false, false, false, false, false, false, false]) Tryd.func9 H.mixed rfl rfl rfl ?_ ?_
          · refine xtq 0 1 (by kernel_rfl) rfl ?_
            refine xtp 1 3 (by kernel_rfl) rfl (fun h' e => OpP.fieldAddr (off := 0) Tryd.underlying39 rfl rfl H.sz3 rfl) ?_
            refine xtp 2 7 (by kernel_rfl) rfl (fun h' e => OpP.load H.ag3 rfl (e.cell hM22 (k22.cell (i := 0) rfl))) ?_
            refine xtp 3 15 (by kernel_rfl) rfl (fun h' e => OpP.fieldAddr (off := 1) Tryd.underlying39 rfl rfl H.sz3 rfl) ?_
            refine xtp 4 31 (by kernel_rfl) rfl (fun h' e => OpP.load H.ag3 rfl (e.cell hM22 (k22.cell (i := 1) rfl))) ?_
            refine xtq 5 63 (by kernel_rfl) rfl ?_
            refine xtp 6 127 (by kernel_rfl) rfl (fun h' e => OpP.add64 rfl rfl ⟨by omega, by omega⟩) ?_
            refine xtp 7 255 (by kernel_rfl) rfl (fun h' e => OpP.fieldAddr (off := 2) Tryd.underlying39 rfl rfl H.sz3 rfl) ?_
            refine xtp 8 511 (by kernel_rfl) rfl (fun h' e => OpP.load H.ag3 rfl (e.cell hM22 (k22.cell (i := 2) rfl))) ?_
            refine xtq 9 1023 (by kernel_rfl) rfl ?_
            refine xtp 10 2047 (by kernel_rfl) rfl (fun h' e => OpP.add64 rfl rfl ⟨by omega, by omega⟩) ?_
            refine xtp 11 4095 (by kernel_rfl) rfl (fun h' e => OpP.build (H.bd39_0_1_2 _ _ _) rfl) ?_
            refine xtq 14 20479 (by kernel_rfl) rfl ?_
            refine xtq 15 53247 (by kernel_rfl) rfl ?_
            refine xtq 16 118783 (by kernel_rfl) rfl ?_
            refine xtp 17 249855 (by kernel_rfl) rfl (fun h' e => OpP.fieldAddr (off := 3) Tryd.underlying52 rfl rfl H.sz50 rfl) ?_
            refine xtp 18 511999 (by kernel_rfl) rfl (fun h' e => OpP.load H.ag50 rfl (e.cell hMb2 (kd2.cell (i := 3) rfl))) ?_
            refine xtq 19 1036287 (by kernel_rfl) rfl ?_
            refine xtp 20 2084863 (by kernel_rfl) rfl (fun h' e => OpP.indexSlice Tryd.underlying50 H.sz45 rfl rfl r rfl hsa (by omega)) ?_
            refine xtp 21 4182015 (by kernel_rfl) rfl (fun h' e => OpP.loadRowN H.ag45 H.sz45 rfl (e.rowAt hMs2 (eg2.rowAt (fun k => k) hrow2)) (by first | rfl | simp)) ?_
            have tlt : ∀ x, but vt.ownBlock x → x < g2.size := fun x k => (OwnH.lt hoP k.symm).2
            have slt : ∀ x, but vs.ownBlock x → x < g2.size := fun x k => (OwnH.lt hpP k.symm).2
            refine RD.twoS 12 22 (li := #[true, true, true, true, true, true, true, true, true, true, true, true, true, false, true, true, true, true, true, true, true, true, false, false, false, false]) (lj := #[true, true, true, true, true, true, true, true, true, true, true, true, false, false, true, true, true, true, true, true, true, true, true, false, false, false]) rfl rfl (by kernel_rfl) rfl rfl rfl rfl rfl rfl (OpX.buildRec (cs := [_, _, _]) Tryd.underlying36 H.el39 rfl rfl (by decide)) (OpX.buildRec (cs := [_, _]) Tryd.underlying50 H.el45 rfl rfl (by decide)) (by kernel_rfl) (by kernel_rfl) ?_ ?_
            · rintro _ w1 ⟨rfl, hw1⟩
              refine ⟨fun _ => by rw [hw1]; exact Ext.push _ _ _, ?_⟩
              have x01 : Ext0 g2 w1 := by rw [hw1]; exact Ext.push _ _ _
              have z01 : w1.size = g2.size + 1 := by rw [hw1]; simp
              have hrA : Lw.rowAt w1 g2.size 0 (encTk (shT d t)) := by rw [hw1]; exact row_push _ _ _
              refine RD.twoS 13 22 (li := #[true, true, true, true, true, true, true, true, true, true, true, true, true, true, true, true, true, true, true, true, true, true, false, false, false, false]) (lj := #[true, true, true, true, true, true, true, true, true, true, true, true, true, false, true, true, true, true, true, true, true, true, true, false, false, false]) rfl rfl (by kernel_rfl) rfl rfl rfl rfl rfl rfl (OpX.append Tryd.underlying36 H.el39 rfl rfl (hoP.ext0' x01) rfl (.inr ⟨_, _, rfl, hrA⟩) (tk_one _) (by simp only [maxLen]; omega) (by omega) (by omega)) (OpX.buildRec (cs := [_, _]) Tryd.underlying50 H.el45 rfl rfl (by decide)) (by kernel_rfl) (by kernel_rfl) ?_ ?_
              · rintro vt2 w2 ⟨ho2, hx2, _, hv2⟩
                refine ⟨fun _ => hx2.mono (fun _ _ k => .inl k), ?_⟩
                have z12 := hx2.size
                refine xto 22 8388607 (by kernel_rfl) rfl (OpX.buildRec (cs := [_, _]) Tryd.underlying50 H.el45 rfl rfl (by decide)) ?_
                rintro _ w3 ⟨rfl, hw3⟩
                refine ⟨fun _ => by rw [hw3]; exact Ext.push _ _ _, ?_⟩
                have x23 : Ext0 w2 w3 := by rw [hw3]; exact Ext.push _ _ _
                have z23 : w3.size = w2.size + 1 := by rw [hw3]; simp
                have hrS : Lw.rowAt w3 w2.size 0 (encLSt su) := by rw [hw3]; exact row_push _ _ _
                refine xto 23 16777215 (by kernel_rfl) rfl (OpX.append Tryd.underlying50 H.el45 rfl rfl ((OwnH.ext hx2 (hpP.ext0' x01) (fun b hb k => hdis b k hb.symm)).ext0' x23) rfl (.inr ⟨_, _, rfl, hrS⟩) (lst_one _) (by simp only [maxLen]; omega) (by omega) (by omega)) ?_
                rintro vs2 w4 ⟨ho4, hx4, _, hv4⟩
                refine ⟨fun _ => hx4.mono (fun _ _ k => .inr (.inl k)), ?_⟩
                refine xtq 24 33554431 (by kernel_rfl) rfl ?_
                refine xtq 25 67108863 (by kernel_rfl) rfl ?_
                refine RD.done (by kernel_rfl) ?_
                exact ⟨(vt2, vs2), appq_end hoP hpP ((Ext0.of x01).trans hx2) (fun b hb => (hv2 b hb).imp id (fun k => by omega)) ho2 ((Ext0.of x23).trans hx4) ho4 (fun b hb => (hv4 b hb).imp id (fun k => by omega)), rfl, rfl, rfl, rfl, rfl, rfl, rfl, rfl, rfl, trivial⟩
              · rintro _ w2 ⟨rfl, hw2⟩
                refine ⟨fun _ => by rw [hw2]; exact Ext.push _ _ _, ?_⟩
                have x12 : Ext0 w1 w2 := by rw [hw2]; exact Ext.push _ _ _
                have z12 : w2.size = w1.size + 1 := by rw [hw2]; simp
                have hrS : Lw.rowAt w2 w1.size 0 (encLSt su) := by rw [hw2]; exact row_push _ _ _
                have x02 := x01.trans x12
                refine xto 13 8388607 (by kernel_rfl) rfl (OpX.append Tryd.underlying36 H.el39 rfl rfl (hoP.ext0' x02) rfl (.inr ⟨_, _, rfl, x12.rowAt (fun k => k) hrA⟩) (tk_one _) (by simp only [maxLen]; omega) (by omega) (by omega)) ?_
                rintro vt2 w3 ⟨ho2, hx2, _, hv2⟩
                refine ⟨fun _ => hx2.mono (fun _ _ k => .inl k), ?_⟩
                have z23 := hx2.size
                refine xto 23 16777215 (by kernel_rfl) rfl (OpX.append Tryd.underlying50 H.el45 rfl rfl (OwnH.ext hx2 (hpP.ext0' x02) (fun b hb k => hdis b k hb.symm)) rfl (.inr ⟨_, _, rfl, hx2.rowAt (fun k => by have := tlt _ k; omega) hrS⟩) (lst_one _) (by simp only [maxLen]; omega) (by omega) (by omega)) ?_
                rintro vs2 w4 ⟨ho4, hx4, _, hv4⟩
                refine ⟨fun _ => hx4.mono (fun _ _ k => .inr (.inl k)), ?_⟩
                refine xtq 24 33554431 (by kernel_rfl) rfl ?_
                refine xtq 25 67108863 (by kernel_rfl) rfl ?_
                refine RD.done (by kernel_rfl) ?_
                exact ⟨(vt2, vs2), appq_end hoP hpP ((Ext0.of x02).trans hx2) (fun b hb => (hv2 b hb).imp id (fun k => by omega)) ho2 hx4 ho4 (fun b hb => (hv4 b hb).imp id (fun k => by omega)), rfl, rfl, rfl, rfl, rfl, rfl, rfl, rfl, rfl, trivial⟩
            · rintro _ w1 ⟨rfl, hw1⟩
              refine ⟨fun _ => by rw [hw1]; exact Ext.push _ _ _, ?_⟩
              have x01 : Ext0 g2 w1 := by rw [hw1]; exact Ext.push _ _ _
              have z01 : w1.size = g2.size + 1 := by rw [hw1]; simp
              have hrS : Lw.rowAt w1 g2.size 0 (encLSt su) := by rw [hw1]; exact row_push _ _ _
              refine xto 12 8380415 (by kernel_rfl) rfl (OpX.buildRec (cs := [_, _, _]) Tryd.underlying36 H.el39 rfl rfl (by decide)) ?_
              rintro _ w2 ⟨rfl, hw2⟩
              refine ⟨fun _ => by rw [hw2]; exact Ext.push _ _ _, ?_⟩
              have x12 : Ext0 w1 w2 := by rw [hw2]; exact Ext.push _ _ _
              have z12 : w2.size = w1.size + 1 := by rw [hw2]; simp
              have hrA : Lw.rowAt w2 w1.size 0 (encTk (shT d t)) := by rw [hw2]; exact row_push _ _ _
              have x02 := x01.trans x12
              refine xto 13 8388607 (by kernel_rfl) rfl (OpX.append Tryd.underlying36 H.el39 rfl rfl (hoP.ext0' x02) rfl (.inr ⟨_, _, rfl, hrA⟩) (tk_one _) (by simp only [maxLen]; omega) (by omega) (by omega)) ?_
              rintro vt2 w3 ⟨ho2, hx2, _, hv2⟩
              refine ⟨fun _ => hx2.mono (fun _ _ k => .inl k), ?_⟩
              have z23 := hx2.size
              refine xto 23 16777215 (by kernel_rfl) rfl (OpX.append Tryd.underlying50 H.el45 rfl rfl (OwnH.ext hx2 (hpP.ext0' x02) (fun b hb k => hdis b k hb.symm)) rfl (.inr ⟨_, _, rfl, hx2.rowAt (fun k => by have := tlt _ k; omega) (x12.rowAt (fun k => k) hrS)⟩) (lst_one _) (by simp only [maxLen]; omega) (by omega) (by omega)) ?_
              rintro vs2 w4 ⟨ho4, hx4, _, hv4⟩
              refine ⟨fun _ => hx4.mono (fun _ _ k => .inr (.inl k)), ?_⟩
              refine xtq 24 33554431 (by kernel_rfl) rfl ?_
              refine xtq 25 67108863 (by kernel_rfl) rfl ?_
              refine RD.done (by kernel_rfl) ?_
              exact ⟨(vt2, vs2), appq_end hoP hpP ((Ext0.of x02).trans hx2) (fun b hb => (hv2 b hb).imp id (fun k => by omega)) ho2 hx4 ho4 (fun b hb => (hv4 b hb).imp id (fun k => by omega)), rfl, rfl, rfl, rfl, rfl, rfl, rfl, rfl, rfl, trivial⟩
          · rintro ⟨vt2, vs2⟩ g7 ⟨ho7, hp7, x7, hv7⟩
            dsimp only at ho7 hp7 hv7
            have z7 := x7.size
            refine G.blkEnd ?_
            refine G.reg Tryd.func9 rfl ?_
            refine xqp 1 rfl rfl (OpP.add64 rfl rfl ⟨by omega, by omega⟩) ?_
            refine xqd 1 [0, 9, 10, 13, 14, 16, 21, 22, 239] rfl ?_
            exact ih2 (r + 1, (vt2, l1 ++ [shT d t]), (vs2, l2 ++ [su])) _ _ ⟨rfl, rfl, rfl, rfl, rfl, rfl, rfl, trivial⟩ ⟨by show r + 1 ≤ tn; omega, ⟨by omega, fun y hy hn => by
             rw [x7.block y (by omega) (by rintro (k | k); have := tge _ k.symm; omega; have := sge _ k.symm; omega), eg2.block y (by omega) (fun k => k)]; exact ex.block y hy hn⟩,
             kd2.ext x7 (fun k => hMb2 (k.imp id .inl)), kc2.ext x7 (by rintro (k | k); exact own_ne hoP kc2 (by decide) k; exact hnc c k.symm rfl), ho7, hp7, fun y hy hyc => by
              rcases hv7 y hy with k | k
              · exact hnc y k hyc
              · omega
             , by simpa using q1, by simpa using q2⟩ (by show tn - (r + 1) < tn - r; omega)
        · obtain rfl : r = tn := by omega
          have hdt : (allP s).1.drop r = [] := List.drop_of_length_le (by omega)
          have hds : (sts0 s).drop r = [] := List.drop_of_length_le (by omega)
          rw [hdt, List.map_nil, List.append_nil] at q1
          rw [hds, List.append_nil] at q2
          subst q1 q2
          have tge : ∀ y, vt.ownBlock = some y → B ≤ y ∧ y < g.size := fun y hy => OwnH.lt hog hy
          have hrE : Lw.rowAt g b (0 + 4) (encLSt (allP s).2) := kdg.part 4 (fun j v hj => by match j, hj with | 0, hj => exact hj | 1, hj => exact hj | j + 2, hj => simp [encLSt] at hj)
          refine G.exit rfl rfl ?_
          refine G.reg Tryd.func9 rfl ?_
          refine xqp 2 rfl rfl (OpP.fieldAddr (off := 4) Tryd.underlying52 rfl rfl H.sz45 rfl) ?_
          refine xp rfl (OpP.loadRowN H.ag45 H.sz45 rfl hrE (by first | rfl | simp)) ?_
          refine RW.op0 rfl rfl rfl (OpX.storeBlk H.sz45 rfl rfl kcg (by first | rfl | simp) (by first | decide | exact of_decide_eq_true rfl | (simp; done) | (simp; omega)) (lst_one _)) ?_
          rintro _ g2 ⟨rfl, kc2, x2, z2⟩
          refine xd [0, 9, 10, 13, 14, 16, 21, 239] rfl ?_
          have kc2 : Blk g2 c 45 (encLSt (allP s).2) := kc2
          rw [s3] at kc2
          exact fin2 m vt vs _ _ ⟨rfl, rfl, rfl, rfl, rfl, trivial⟩ ⟨⟨by omega, fun y hy hn => by rw [x2.block y (by omega) (by omega)]; exact ex.block y hy hn⟩, kdg.ext x2 (by omega), kc2, OwnH.ext x2 hog (fun y hy k => own_ne hog kcg (by decide) (by rw [hy]; exact congrArg some k.symm)), OwnH.ext x2 hpg (fun y hy k => hnc y hy k), hso, hcb, hhB⟩
      · have ha : a = (edP s i j x).length := by
         rcases hend with k | ⟨k1, k2⟩
         · exact k
         · exfalso
           obtain ⟨_, t, h2, _⟩ := syncB_yes k2
           have := (List.getElem?_eq_some_iff.1 h2).1
           omega
        obtain ⟨s1, s2, s3⟩ := hI.tk.done ha
        subst s1 s2 s3
        refine G.skip rfl ?_
        exact fin2 m vt vs _ _ ⟨rfl, rfl, rfl, rfl, rfl, trivial⟩ ⟨hI.ex, hI.kd, hI.kc, hI.ho, hI.hp, hso, hcb, hhB⟩
   refine G.ite rfl rfl (fun hlt => ?_) (fun hlt => ?_)
   · have hlt' : a < (edP s i j x).length := by omega
     refine G.skip rfl ?_
     refine G.block rfl rfl ?_
     refine G.seq rfl ?_
     refine G.block rfl rfl ?_
     refine G.loop (σ := Nat) (fun r => [(0, .pointer (some ⟨b, 0, none⟩)), (1, .int .i64 (i : Nat)), (3, .string (bs x)), (9, .string (bs (edP s i j x))), (10, .int .i64 d), (13, vt), (14, vs), (15, .int .i64 (a : Nat)), (16, .pointer (some ⟨c, 0, none⟩)), (17, .int .i64 (r : Nat))]) (fun r h' => h' = g ∧ r ≤ tn ∧ ∀ (r' : Nat) (t : Tk), r' < r → (allP s).1[r']? = some t → t.2.1 + d < max (a : Int) ((i + x.length : Nat) : Int)) (fun r => tn - r) (old) rfl ⟨rfl, rfl, rfl, rfl, rfl, rfl, rfl, rfl, rfl, rfl, trivial⟩ ⟨rfl, by rw [← htn]; exact hI.ol, hI.ob⟩ ?_
     rintro r g ⟨hgq, hr, hrb⟩ ih2
     subst hgq
     refine G.seq rfl ?_
     refine G.seq rfl ?_
     refine G.regTo1 [(136, .bool (skipB (allP s).1 r d a))] [(0, _), (1, _), (3, _), (9, _), (10, _), (13, _), (14, _), (15, _), (16, _), (17, _)] ⟨rfl, rfl, rfl, rfl, rfl, rfl, rfl, rfl, rfl, rfl, trivial⟩ Tryd.func9 rfl ?_ ?_
     · refine xqp 3 rfl rfl (OpP.fieldAddr (off := 2) Tryd.underlying52 rfl rfl H.sz36 rfl) ?_
       refine xp rfl (OpP.load H.ag36 rfl (hI.kd.cell (i := 2) rfl)) ?_
       refine xp rfl (OpP.lenSlice Tryd.underlying36 rfl) ?_
       refine xqm 2 rfl ?_
       refine RW.split (d := 123) rfl (fun c1 => ?_) (fun c1 => ?_)
       · have c1' : (r : Int) < (tn : Nat) := of_decide_eq_true c1
         obtain ⟨bt, ot, t, hta, hbt, htk, hrow⟩ := ((ht.but hI.ex).open_slice).recd (i := r) (by omega)
         have htp := tok_pos htk
         refine xqp 2 rfl rfl (OpP.fieldAddr (off := 2) Tryd.underlying52 rfl rfl H.sz36 rfl) ?_
         refine xp rfl (OpP.load H.ag36 rfl (hI.kd.cell (i := 2) rfl)) ?_
         refine xqp 1 rfl rfl (OpP.indexSlice Tryd.underlying36 H.sz39 rfl rfl r rfl hta (by omega)) ?_
         refine xp rfl (OpP.fieldAddr (off := 1) Tryd.underlying39 rfl rfl H.sz3 rfl) ?_
         refine xp rfl (OpP.load H.ag3 rfl (hrow 1 _ rfl)) ?_
         refine xqp 1 rfl rfl (OpP.add64 rfl rfl ⟨by omega, by omega⟩) ?_
         refine xqm 3 rfl ?_
         refine RW.done rfl ?_
         exact ⟨rfl, at_bool rfl (by unfold skipB; rw [htk]), rfl, rfl, rfl, rfl, rfl, rfl, rfl, rfl, rfl, rfl, trivial⟩
       · have c1' : ¬ (r : Int) < (tn : Nat) := of_decide_eq_false c1
         refine xqm 13 rfl ?_
         refine RW.done rfl ?_
         exact ⟨rfl, at_bool rfl (by unfold skipB; rw [List.getElem?_eq_none (by omega)]), rfl, rfl, rfl, rfl, rfl, rfl, rfl, rfl, rfl, rfl, trivial⟩
     · refine G.cond rfl rfl (fun hskip => ?_) (fun hskip => ?_)
       · obtain ⟨t, htk, htlt⟩ : ∃ t, (allP s).1[r]? = some t ∧ t.2.1 + d < (a : Int) := by
          unfold skipB at hskip
          split at hskip
          · rename_i t ht; exact ⟨t, ht, of_decide_eq_true hskip⟩
          · cases hskip
         have hrn := (List.getElem?_eq_some_iff.1 htk).1
         refine G.skip rfl ?_
         refine G.block rfl rfl ?_
         refine G.reg Tryd.func9 rfl ?_
         refine xqp 1 rfl rfl (OpP.add64 rfl rfl ⟨by omega, by omega⟩) ?_
         refine xqd 1 [0, 1, 3, 9, 10, 13, 14, 15, 16, 17, 136] rfl ?_
         refine G.blkEnd ?_
         exact ih2 (r + 1) _ _ ⟨rfl, rfl, rfl, rfl, rfl, rfl, rfl, rfl, rfl, rfl, trivial⟩ ⟨rfl, by omega, fun r' t' hr' ht' => by rcases Nat.lt_or_ge r' r with k | k; exact hrb r' t' k ht'; obtain rfl : r' = r := (by omega); rw [htk] at ht'; obtain rfl := Option.some.inj ht'; omega⟩ (by omega)
       · have hnl : ∀ t : Tk, (allP s).1[r]? = some t → ¬ t.2.1 + d < (a : Int) := fun t htk hk => by
          unfold skipB at hskip
          rw [htk] at hskip
          simp only [decide_eq_true hk] at hskip
          cases hskip
         have hI := EdI.old hI (by omega) hrb
         refine G.exit rfl rfl ?_
         refine G.seq rfl ?_
         refine G.seq rfl ?_
         refine G.drawQTo1 [(178, .bool (syncB (i + x.length) a r d st (allP s).1 (sts0 s)))] [(0, _), (1, _), (3, _), (9, _), (10, _), (13, _), (14, _), (15, _), (16, _), (17, _), (136, _)] ⟨rfl, rfl, rfl, rfl, rfl, rfl, rfl, rfl, rfl, rfl, rfl, trivial⟩ Tryd.func9 H.mixed rfl (by kernel_rfl) ?_ ?_
         · refine RQ.pureS rfl rfl rfl rfl (OpP.move rfl) ?_
           refine RQ.pureS rfl rfl rfl rfl (OpP.move rfl) ?_
           refine RQ.pureS rfl rfl rfl rfl (OpP.move rfl) ?_
           refine RQ.pureS rfl rfl rfl rfl (OpP.lenString Tryd.underlying9 rfl) ?_
           refine RQ.pureS rfl rfl rfl rfl (OpP.add64 rfl rfl ⟨by omega, by omega⟩) ?_
           refine RQ.pureS rfl rfl rfl rfl (OpP.geq rfl rfl) ?_
           refine RQ.pureS rfl rfl rfl rfl (OpP.move rfl) ?_
           refine RQ.split (d := 145) rfl (fun c1 => ?_) (fun c1 => ?_)
           · have c1' : ((i : Int) + ((bs x).size : Nat)) ≤ (a : Nat) := of_decide_eq_true c1
             have hlim : i + x.length ≤ a := by omega
             refine RQ.pureS rfl rfl rfl rfl (OpP.move rfl) ?_
             refine RQ.pureS rfl rfl rfl rfl (OpP.move rfl) ?_
             refine RQ.pureS rfl rfl rfl rfl (OpP.nilCheck rfl) ?_
             refine RQ.pureS rfl rfl rfl rfl (OpP.fieldAddr (off := 2) Tryd.underlying52 rfl rfl H.sz36 rfl) ?_
             refine RQ.pureS rfl rfl rfl rfl (OpP.load H.ag36 rfl (hI.kd.cell (i := 2) rfl)) ?_
             refine RQ.pureS rfl rfl rfl rfl (OpP.lenSlice Tryd.underlying36 rfl) ?_
             refine RQ.pureS rfl rfl rfl rfl (OpP.lss rfl rfl) ?_
             refine RQ.pureS rfl rfl rfl rfl (OpP.pickT rfl rfl) ?_
             refine RQ.pureS rfl rfl rfl rfl (OpP.move rfl) ?_
             refine RQ.split (d := 154) rfl (fun c2 => ?_) (fun c2 => ?_)
             · have c2' : (r : Int) < (tn : Nat) := of_decide_eq_true c2
               obtain ⟨bt, ot, t, hta, hbt, htk, hrow⟩ := ((ht.but hI.ex).open_slice).recd (i := r) (by omega)
               obtain ⟨bs', os', su, hsa, hbs', hsu, hrow2⟩ := ((hsv.but hI.ex).open_slice).recd (i := r) (by omega)
               have htp := tok_pos htk
               refine RQ.pureS rfl rfl rfl rfl (OpP.move rfl) ?_
               refine RQ.pureS rfl rfl rfl rfl (OpP.nilCheck rfl) ?_
               refine RQ.pureS rfl rfl rfl rfl (OpP.fieldAddr (off := 2) Tryd.underlying52 rfl rfl H.sz36 rfl) ?_
               refine RQ.pureS rfl rfl rfl rfl (OpP.load H.ag36 rfl (hI.kd.cell (i := 2) rfl)) ?_
               refine RQ.pureS rfl rfl rfl rfl (OpP.move rfl) ?_
               refine RQ.pureS rfl rfl rfl rfl (OpP.indexSlice Tryd.underlying36 H.sz39 rfl rfl r rfl hta (by omega)) ?_
               refine RQ.pureS rfl rfl rfl rfl (OpP.fieldAddr (off := 1) Tryd.underlying39 rfl rfl H.sz3 rfl) ?_
               refine RQ.pureS rfl rfl rfl rfl (OpP.load H.ag3 rfl (hrow 1 _ rfl)) ?_
               refine RQ.pureS rfl rfl rfl rfl (OpP.move rfl) ?_
               refine RQ.pureS rfl rfl rfl rfl (OpP.add64 rfl rfl ⟨by omega, by omega⟩) ?_
               refine RQ.pureS rfl rfl rfl rfl (OpP.move rfl) ?_
               refine RQ.pureS rfl rfl rfl rfl (OpP.eqlInt rfl rfl) ?_
               refine RQ.pureS rfl rfl rfl rfl (OpP.pickT rfl rfl) ?_
               refine RQ.pureS rfl rfl rfl rfl (OpP.move rfl) ?_
               refine RQ.split (d := 168) rfl (fun c3 => ?_) (fun c3 => ?_)
               · have c3' : t.2.1 + d = (a : Nat) := of_decide_eq_true c3
                 refine RQ.pureS rfl rfl rfl rfl (OpP.move rfl) ?_
                 refine RQ.pureS rfl rfl rfl rfl (OpP.nilCheck rfl) ?_
                 refine RQ.pureS rfl rfl rfl rfl (OpP.fieldAddr (off := 3) Tryd.underlying52 rfl rfl H.sz50 rfl) ?_
                 refine RQ.pureS rfl rfl rfl rfl (OpP.load H.ag50 rfl (hI.kd.cell (i := 3) rfl)) ?_
                 refine RQ.pureS rfl rfl rfl rfl (OpP.move rfl) ?_
                 refine RQ.pureS rfl rfl rfl rfl (OpP.indexSlice Tryd.underlying50 H.sz45 rfl rfl r rfl hsa (by omega)) ?_
                 refine RQ.pureS rfl rfl rfl rfl (OpP.loadRowN H.ag45 H.sz45 rfl hrow2 (by first | rfl | simp)) ?_
                 refine RQ.pureS rfl rfl rfl rfl (OpP.loadRowN H.ag45 H.sz45 rfl hI.kc.row (by first | rfl | simp)) ?_
                 refine RQ.pureS rfl rfl rfl rfl (OpP.eqlAgg fieldsS stoodS guardS rfl rfl (stEq _ _)) ?_
                 refine RQ.pureS rfl rfl rfl rfl (OpP.pickT rfl rfl) ?_
                 refine RQ.done rfl ?_
                 exact ⟨rfl, at_bool rfl (by unfold syncB; rw [decide_eq_true hlim, htk, hsu]; simp [c3']), rfl, rfl, rfl, rfl, rfl, rfl, rfl, rfl, rfl, rfl, rfl, trivial⟩
               · have c3' : ¬ t.2.1 + d = (a : Nat) := of_decide_eq_false c3
                 refine RQ.skipS rfl rfl rfl rfl ?_
                 refine RQ.skipS rfl rfl rfl rfl ?_
                 refine RQ.skipS rfl rfl rfl rfl ?_
                 refine RQ.skipS rfl rfl rfl rfl ?_
                 refine RQ.skipS rfl rfl rfl rfl ?_
                 refine RQ.skipS rfl rfl rfl rfl ?_
                 refine RQ.skipS rfl rfl rfl rfl ?_
                 refine RQ.skipS rfl rfl rfl rfl ?_
                 refine RQ.skipS rfl rfl rfl rfl ?_
                 refine RQ.pureS rfl rfl rfl rfl (OpP.pickF rfl rfl) ?_
                 refine RQ.done rfl ?_
                 exact ⟨rfl, at_bool rfl (by unfold syncB; rw [htk, hsu]; simp [c3']), rfl, rfl, rfl, rfl, rfl, rfl, rfl, rfl, rfl, rfl, rfl, trivial⟩
             · have c2' : ¬ (r : Int) < (tn : Nat) := of_decide_eq_false c2
               refine RQ.skipS rfl rfl rfl rfl ?_
               refine RQ.skipS rfl rfl rfl rfl ?_
               refine RQ.skipS rfl rfl rfl rfl ?_
               refine RQ.skipS rfl rfl rfl rfl ?_
               refine RQ.skipS rfl rfl rfl rfl ?_
               refine RQ.skipS rfl rfl rfl rfl ?_
               refine RQ.skipS rfl rfl rfl rfl ?_
               refine RQ.skipS rfl rfl rfl rfl ?_
               refine RQ.skipS rfl rfl rfl rfl ?_
               refine RQ.skipS rfl rfl rfl rfl ?_
               refine RQ.skipS rfl rfl rfl rfl ?_
               refine RQ.skipS rfl rfl rfl rfl ?_
               refine RQ.pureS rfl rfl rfl rfl (OpP.pickF rfl rfl) ?_
               refine RQ.pureS rfl rfl rfl rfl (OpP.move rfl) ?_
               refine RQ.skipS rfl rfl rfl rfl ?_
               refine RQ.skipS rfl rfl rfl rfl ?_
               refine RQ.skipS rfl rfl rfl rfl ?_
               refine RQ.skipS rfl rfl rfl rfl ?_
               refine RQ.skipS rfl rfl rfl rfl ?_
               refine RQ.skipS rfl rfl rfl rfl ?_
               refine RQ.skipS rfl rfl rfl rfl ?_
               refine RQ.skipS rfl rfl rfl rfl ?_
               refine RQ.skipS rfl rfl rfl rfl ?_
               refine RQ.pureS rfl rfl rfl rfl (OpP.pickF rfl rfl) ?_
               refine RQ.done rfl ?_
               exact ⟨rfl, at_bool rfl (by unfold syncB; rw [List.getElem?_eq_none (by omega)]; simp), rfl, rfl, rfl, rfl, rfl, rfl, rfl, rfl, rfl, rfl, rfl, trivial⟩
           · have c1' : ¬ ((i : Int) + ((bs x).size : Nat)) ≤ (a : Nat) := of_decide_eq_false c1
             have hlim : ¬ i + x.length ≤ a := by omega
             refine RQ.skipS rfl rfl rfl rfl ?_
             refine RQ.skipS rfl rfl rfl rfl ?_
             refine RQ.skipS rfl rfl rfl rfl ?_
             refine RQ.skipS rfl rfl rfl rfl ?_
             refine RQ.skipS rfl rfl rfl rfl ?_
             refine RQ.skipS rfl rfl rfl rfl ?_
             refine RQ.skipS rfl rfl rfl rfl ?_
             refine RQ.pureS rfl rfl rfl rfl (OpP.pickF rfl rfl) ?_
             refine RQ.pureS rfl rfl rfl rfl (OpP.move rfl) ?_
             refine RQ.skipS rfl rfl rfl rfl ?_
             refine RQ.skipS rfl rfl rfl rfl ?_
             refine RQ.skipS rfl rfl rfl rfl ?_
             refine RQ.skipS rfl rfl rfl rfl ?_
             refine RQ.skipS rfl rfl rfl rfl ?_
             refine RQ.skipS rfl rfl rfl rfl ?_
             refine RQ.skipS rfl rfl rfl rfl ?_
             refine RQ.skipS rfl rfl rfl rfl ?_
             refine RQ.skipS rfl rfl rfl rfl ?_
             refine RQ.skipS rfl rfl rfl rfl ?_
             refine RQ.skipS rfl rfl rfl rfl ?_
             refine RQ.skipS rfl rfl rfl rfl ?_
             refine RQ.pureS rfl rfl rfl rfl (OpP.pickF rfl rfl) ?_
             refine RQ.pureS rfl rfl rfl rfl (OpP.move rfl) ?_
             refine RQ.skipS rfl rfl rfl rfl ?_
             refine RQ.skipS rfl rfl rfl rfl ?_
             refine RQ.skipS rfl rfl rfl rfl ?_
             refine RQ.skipS rfl rfl rfl rfl ?_
             refine RQ.skipS rfl rfl rfl rfl ?_
             refine RQ.skipS rfl rfl rfl rfl ?_
             refine RQ.skipS rfl rfl rfl rfl ?_
             refine RQ.skipS rfl rfl rfl rfl ?_
             refine RQ.skipS rfl rfl rfl rfl ?_
             refine RQ.pureS rfl rfl rfl rfl (OpP.pickF rfl rfl) ?_
             refine RQ.done rfl ?_
             exact ⟨rfl, at_bool rfl (by unfold syncB; rw [decide_eq_false hlim]; simp), rfl, rfl, rfl, rfl, rfl, rfl, rfl, rfl, rfl, rfl, rfl, trivial⟩
         · refine G.cond rfl rfl (fun hsy => ?_) (fun hsy => ?_)
           · refine G.exit rfl rfl ?_
             exact fin a st r m vt toks vs sts _ _ ⟨rfl, rfl, rfl, rfl, rfl, rfl, rfl, rfl, trivial⟩ ⟨hI, .inr ⟨hlt', hsy⟩⟩
           · have hsy' : syncB (i + x.length) a r d st (allP s).1 (sts0 s) = false := by simpa using hsy
             have hno : i + x.length ≤ a → ¬ SyncP s (edP s i j x) d a := fun hl => no_sync hI.tk hlt' hrb hnl (fun hl' t ht' hd' => syncB_no hsy' hl' t ht' hd') hl
             have hstep := hI.tk.step hlt' hno
             have hne : (edP s i j x).drop a ≠ [] := fun e => by have := congrArg List.length e; rw [List.length_drop] at this; simp at this; omega
             have hkl := lenP_len hne st.1
             rw [List.length_drop] at hkl
             have hone : ∀ g', Ext0 g g' → _ := fun g' e => one_calls (kG.ext0 (e0g.trans e)) (kL.ext0 (e0g.trans e)) (edP s i j x) a hlt' (by omega) st hI.tk.i64
             unfold oneV at hone
             have hst0 := lexS_le st.1 ((edP s i j x).drop a)
             have hll := lexM_len st.1 ((edP s i j x).drop a)
             have hsp : 0 ≤ lexS st.1 ((edP s i j x).drop a) ∧ lexS st.1 ((edP s i j x).drop a) ≤ 3 * (lenP ((edP s i j x).drop a) st.1 : Nat) := by
              unfold lenP at hkl ⊢
              split
              · rw [if_pos (by assumption)] at hkl; omega
              · rw [if_neg (by assumption)] at hkl; omega
             generalize lenP ((edP s i j x).drop a) st.1 = L at *
             generalize kndP ((edP s i j x).drop a) st.1 = kdd at *
             generalize nxtP ((edP s i j x).drop a) st = nx at *
             generalize lexS st.1 ((edP s i j x).drop a) = sp at *
             have hMb : ¬ Array.size g ≤ b := by have := hI.kd.lt; omega
             have hMc : ¬ Array.size g ≤ c := by have := hI.kc.lt; omega
             refine G.skip rfl ?_
             refine G.seq rfl ?_
             refine G.drawToX (fun (q : Nat × Nat) (h' : Heap) => OneQ g (kdd, (a : Int), ((a + L : Nat) : Int)) nx q h') (fun (q : Nat × Nat) => [(18, .pointer (some ⟨q.1, 0, none⟩)), (19, .pointer (some ⟨q.2, 0, none⟩)), (20, .int .i64 sp)]) [(0, _), (1, _), (3, _), (9, _), (10, _), (13, _), (14, _), (15, _), (16, _), (17, _), (136, _), (178, _)] ⟨rfl, rfl, rfl, rfl, rfl, rfl, rfl, rfl, rfl, rfl, rfl, rfl, trivial⟩ (fun b => Array.size g ≤ b) (fun i => Nat.blt i 17) (sz := 17) (listed := #[false, false, false, false, false, false, false, false, false, false, false, false, false, false, false, false, false]) Tryd.func9 H.mixed rfl rfl rfl ?_ ?_
             · refine xtq 0 1 (by kernel_rfl) rfl ?_
               refine xtq 1 3 (by kernel_rfl) rfl ?_
               refine xtp 2 7 (by kernel_rfl) rfl (fun h' e => OpP.fieldAddr (off := 0) Tryd.underlying52 rfl rfl H.sz25 rfl) ?_
               refine xtp 3 15 (by kernel_rfl) rfl (fun h' e => OpP.load H.ag25 rfl (e.cell hMb (hI.kd.cell (i := 0) rfl))) ?_
               refine xtq 4 31 (by kernel_rfl) rfl ?_
               refine xtq 5 63 (by kernel_rfl) rfl ?_
               refine xtp 6 127 (by kernel_rfl) rfl (fun h' e => OpP.loadRowN H.ag45 H.sz45 rfl (e.rowAt hMc hI.kc.row) (by first | rfl | simp)) ?_
               refine RD.threeS 7 12 13 (li := #[true, true, true, true, true, true, true, true, false, false, false, false, false, false, false, false, false]) (lj := #[true, true, true, true, true, true, true, false, false, false, false, false, true, false, false, false, false]) (lk := #[true, true, true, true, true, true, true, false, false, false, false, false, false, true, false, false, false]) rfl rfl rfl (by kernel_rfl) rfl rfl rfl rfl rfl rfl rfl rfl rfl (OpX.call (vs := [_, _, _, _]) Tryd.func29 rfl H.nm29 rfl (CallsH.toX (hone _ (Ext.refl _ _)))) (OpX.allocN H.zr39) (OpX.allocN H.zr45) (by kernel_rfl) (by kernel_rfl) (by kernel_rfl) ?_ ?_ ?_
               · rintro _ w1 ⟨rfl, e1⟩
                 refine ⟨fun _ => e1.of, ?_⟩
                 refine xtq 8 511 (by kernel_rfl) rfl ?_
                 refine xtq 9 1023 (by kernel_rfl) rfl ?_
                 refine xtq 10 2047 (by kernel_rfl) rfl ?_
                 refine xtq 11 4095 (by kernel_rfl) rfl ?_
                 refine RD.twoS 12 13 (li := #[true, true, true, true, true, true, true, true, true, true, true, true, true, false, false, false, false]) (lj := #[true, true, true, true, true, true, true, true, true, true, true, true, false, true, false, false, false]) rfl rfl (by kernel_rfl) rfl rfl rfl rfl rfl rfl (OpX.allocN H.zr39) (OpX.allocN H.zr45) (by kernel_rfl) (by kernel_rfl) ?_ ?_
                 · rintro _ w2 ⟨rfl, c7, e2, y2⟩
                   refine ⟨fun _ => e2.of, ?_⟩
                   refine xto 13 16383 (by kernel_rfl) rfl (OpX.allocN H.zr45) ?_
                   rintro _ w3 ⟨rfl, c8, e3, y3⟩
                   refine ⟨fun _ => e3.of, ?_⟩
                   have z1 := e1.size
                   have z2 := e2.size
                   have z3 := e3.size
                   refine xt0 14 32767 (by kernel_rfl) rfl (OpX.storeBlk H.sz39 rfl rfl (c7.ext0 e3) (by first | rfl | simp) (by first | decide | exact of_decide_eq_true rfl | (simp; done) | (simp; omega)) (tk_one _)) ?_
                   rintro _ w4 ⟨rfl, d7, x4', y4'⟩
                   refine ⟨fun _ => x4'.mono (fun b _ k => by have k : b = w1.size := k; omega), ?_⟩
                   refine xt0 15 65535 (by kernel_rfl) rfl (OpX.storeBlk H.sz45 rfl rfl ((c8).ext x4' (show ¬ w2.size = w1.size by omega)) (by first | rfl | simp) (by first | decide | exact of_decide_eq_true rfl | (simp; done) | (simp; omega)) (lst_one _)) ?_
                   rintro _ w5 ⟨rfl, d8, x5, y5⟩
                   refine ⟨fun _ => x5.mono (fun b _ k => by have k : b = w2.size := k; omega), ?_⟩
                   refine xtq 16 131071 (by kernel_rfl) rfl ?_
                   refine RD.done (by kernel_rfl) ?_
                   exact ⟨(w1.size, w2.size), oneq_leaf ((e1.trans e2).trans e3) (by omega) (by omega) (by omega) x4' x5 d7 d8, rfl, rfl, rfl, rfl, rfl, rfl, rfl, rfl, rfl, rfl, rfl, rfl, rfl, rfl, rfl, trivial⟩
                 · rintro _ w2 ⟨rfl, c8, e2, y2⟩
                   refine ⟨fun _ => e2.of, ?_⟩
                   refine xto 12 16383 (by kernel_rfl) rfl (OpX.allocN H.zr39) ?_
                   rintro _ w3 ⟨rfl, c7, e3, y3⟩
                   refine ⟨fun _ => e3.of, ?_⟩
                   have z1 := e1.size
                   have z2 := e2.size
                   have z3 := e3.size
                   refine xt0 14 32767 (by kernel_rfl) rfl (OpX.storeBlk H.sz39 rfl rfl (c7) (by first | rfl | simp) (by first | decide | exact of_decide_eq_true rfl | (simp; done) | (simp; omega)) (tk_one _)) ?_
                   rintro _ w4 ⟨rfl, d7, x4', y4'⟩
                   refine ⟨fun _ => x4'.mono (fun b _ k => by have k : b = w2.size := k; omega), ?_⟩
                   refine xt0 15 65535 (by kernel_rfl) rfl (OpX.storeBlk H.sz45 rfl rfl ((c8.ext0 e3).ext x4' (show ¬ w1.size = w2.size by omega)) (by first | rfl | simp) (by first | decide | exact of_decide_eq_true rfl | (simp; done) | (simp; omega)) (lst_one _)) ?_
                   rintro _ w5 ⟨rfl, d8, x5, y5⟩
                   refine ⟨fun _ => x5.mono (fun b _ k => by have k : b = w1.size := k; omega), ?_⟩
                   refine xtq 16 131071 (by kernel_rfl) rfl ?_
                   refine RD.done (by kernel_rfl) ?_
                   exact ⟨(w2.size, w1.size), oneq_leaf ((e1.trans e2).trans e3) (by omega) (by omega) (by omega) x4' x5 d7 d8, rfl, rfl, rfl, rfl, rfl, rfl, rfl, rfl, rfl, rfl, rfl, rfl, rfl, rfl, rfl, trivial⟩
               · rintro _ w1 ⟨rfl, c7, e1, y1⟩
                 refine ⟨fun _ => e1.of, ?_⟩
                 refine RD.twoS 7 13 (li := #[true, true, true, true, true, true, true, true, false, false, false, false, true, false, false, false, false]) (lj := #[true, true, true, true, true, true, true, false, false, false, false, false, true, true, false, false, false]) rfl rfl (by kernel_rfl) rfl rfl rfl rfl rfl rfl (OpX.call (vs := [_, _, _, _]) Tryd.func29 rfl H.nm29 rfl (CallsH.toX (hone _ e1))) (OpX.allocN H.zr45) (by kernel_rfl) (by kernel_rfl) ?_ ?_
                 · rintro _ w2 ⟨rfl, e2⟩
                   refine ⟨fun _ => e2.of, ?_⟩
                   refine xtq 8 4607 (by kernel_rfl) rfl ?_
                   refine xtq 9 5119 (by kernel_rfl) rfl ?_
                   refine xtq 10 6143 (by kernel_rfl) rfl ?_
                   refine xtq 11 8191 (by kernel_rfl) rfl ?_
                   refine xto 13 16383 (by kernel_rfl) rfl (OpX.allocN H.zr45) ?_
                   rintro _ w3 ⟨rfl, c8, e3, y3⟩
                   refine ⟨fun _ => e3.of, ?_⟩
                   have z1 := e1.size
                   have z2 := e2.size
                   have z3 := e3.size
                   refine xt0 14 32767 (by kernel_rfl) rfl (OpX.storeBlk H.sz39 rfl rfl ((c7.ext0 e2).ext0 e3) (by first | rfl | simp) (by first | decide | exact of_decide_eq_true rfl | (simp; done) | (simp; omega)) (tk_one _)) ?_
                   rintro _ w4 ⟨rfl, d7, x4', y4'⟩
                   refine ⟨fun _ => x4'.mono (fun b _ k => by have k : b = g.size := k; omega), ?_⟩
                   refine xt0 15 65535 (by kernel_rfl) rfl (OpX.storeBlk H.sz45 rfl rfl ((c8).ext x4' (show ¬ w2.size = g.size by omega)) (by first | rfl | simp) (by first | decide | exact of_decide_eq_true rfl | (simp; done) | (simp; omega)) (lst_one _)) ?_
                   rintro _ w5 ⟨rfl, d8, x5, y5⟩
                   refine ⟨fun _ => x5.mono (fun b _ k => by have k : b = w2.size := k; omega), ?_⟩
                   refine xtq 16 131071 (by kernel_rfl) rfl ?_
                   refine RD.done (by kernel_rfl) ?_
                   exact ⟨(g.size, w2.size), oneq_leaf ((e1.trans e2).trans e3) (by omega) (by omega) (by omega) x4' x5 d7 d8, rfl, rfl, rfl, rfl, rfl, rfl, rfl, rfl, rfl, rfl, rfl, rfl, rfl, rfl, rfl, trivial⟩
                 · rintro _ w2 ⟨rfl, c8, e2, y2⟩
                   refine ⟨fun _ => e2.of, ?_⟩
                   refine xto 7 12543 (by kernel_rfl) rfl (OpX.call (vs := [_, _, _, _]) Tryd.func29 rfl H.nm29 rfl (CallsH.toX (hone _ (e1.trans e2)))) ?_
                   rintro _ w3 ⟨rfl, e3⟩
                   refine ⟨fun _ => e3.of, ?_⟩
                   have z1 := e1.size
                   have z2 := e2.size
                   have z3 := e3.size
                   refine xtq 8 12799 (by kernel_rfl) rfl ?_
                   refine xtq 9 13311 (by kernel_rfl) rfl ?_
                   refine xtq 10 14335 (by kernel_rfl) rfl ?_
                   refine xtq 11 16383 (by kernel_rfl) rfl ?_
                   refine xt0 14 32767 (by kernel_rfl) rfl (OpX.storeBlk H.sz39 rfl rfl ((c7.ext0 e2).ext0 e3) (by first | rfl | simp) (by first | decide | exact of_decide_eq_true rfl | (simp; done) | (simp; omega)) (tk_one _)) ?_
                   rintro _ w4 ⟨rfl, d7, x4', y4'⟩
                   refine ⟨fun _ => x4'.mono (fun b _ k => by have k : b = g.size := k; omega), ?_⟩
                   refine xt0 15 65535 (by kernel_rfl) rfl (OpX.storeBlk H.sz45 rfl rfl ((c8.ext0 e3).ext x4' (show ¬ w1.size = g.size by omega)) (by first | rfl | simp) (by first | decide | exact of_decide_eq_true rfl | (simp; done) | (simp; omega)) (lst_one _)) ?_
                   rintro _ w5 ⟨rfl, d8, x5, y5⟩
                   refine ⟨fun _ => x5.mono (fun b _ k => by have k : b = w1.size := k; omega), ?_⟩
                   refine xtq 16 131071 (by kernel_rfl) rfl ?_
                   refine RD.done (by kernel_rfl) ?_
                   exact ⟨(g.size, w1.size), oneq_leaf ((e1.trans e2).trans e3) (by omega) (by omega) (by omega) x4' x5 d7 d8, rfl, rfl, rfl, rfl, rfl, rfl, rfl, rfl, rfl, rfl, rfl, rfl, rfl, rfl, rfl, trivial⟩
               · rintro _ w1 ⟨rfl, c8, e1, y1⟩
                 refine ⟨fun _ => e1.of, ?_⟩
                 refine RD.twoS 7 12 (li := #[true, true, true, true, true, true, true, true, false, false, false, false, false, true, false, false, false]) (lj := #[true, true, true, true, true, true, true, false, false, false, false, false, true, true, false, false, false]) rfl rfl (by kernel_rfl) rfl rfl rfl rfl rfl rfl (OpX.call (vs := [_, _, _, _]) Tryd.func29 rfl H.nm29 rfl (CallsH.toX (hone _ e1))) (OpX.allocN H.zr39) (by kernel_rfl) (by kernel_rfl) ?_ ?_
                 · rintro _ w2 ⟨rfl, e2⟩
                   refine ⟨fun _ => e2.of, ?_⟩
                   refine xtq 8 8703 (by kernel_rfl) rfl ?_
                   refine xtq 9 9215 (by kernel_rfl) rfl ?_
                   refine xtq 10 10239 (by kernel_rfl) rfl ?_
                   refine xtq 11 12287 (by kernel_rfl) rfl ?_
                   refine xto 12 16383 (by kernel_rfl) rfl (OpX.allocN H.zr39) ?_
                   rintro _ w3 ⟨rfl, c7, e3, y3⟩
                   refine ⟨fun _ => e3.of, ?_⟩
                   have z1 := e1.size
                   have z2 := e2.size
                   have z3 := e3.size
                   refine xt0 14 32767 (by kernel_rfl) rfl (OpX.storeBlk H.sz39 rfl rfl (c7) (by first | rfl | simp) (by first | decide | exact of_decide_eq_true rfl | (simp; done) | (simp; omega)) (tk_one _)) ?_
                   rintro _ w4 ⟨rfl, d7, x4', y4'⟩
                   refine ⟨fun _ => x4'.mono (fun b _ k => by have k : b = w2.size := k; omega), ?_⟩
                   refine xt0 15 65535 (by kernel_rfl) rfl (OpX.storeBlk H.sz45 rfl rfl (((c8.ext0 e2).ext0 e3).ext x4' (show ¬ g.size = w2.size by omega)) (by first | rfl | simp) (by first | decide | exact of_decide_eq_true rfl | (simp; done) | (simp; omega)) (lst_one _)) ?_
                   rintro _ w5 ⟨rfl, d8, x5, y5⟩
                   refine ⟨fun _ => x5.mono (fun b _ k => by have k : b = g.size := k; omega), ?_⟩
                   refine xtq 16 131071 (by kernel_rfl) rfl ?_
                   refine RD.done (by kernel_rfl) ?_
                   exact ⟨(w2.size, g.size), oneq_leaf ((e1.trans e2).trans e3) (by omega) (by omega) (by omega) x4' x5 d7 d8, rfl, rfl, rfl, rfl, rfl, rfl, rfl, rfl, rfl, rfl, rfl, rfl, rfl, rfl, rfl, trivial⟩
                 · rintro _ w2 ⟨rfl, c7, e2, y2⟩
                   refine ⟨fun _ => e2.of, ?_⟩
                   refine xto 7 12543 (by kernel_rfl) rfl (OpX.call (vs := [_, _, _, _]) Tryd.func29 rfl H.nm29 rfl (CallsH.toX (hone _ (e1.trans e2)))) ?_
                   rintro _ w3 ⟨rfl, e3⟩
                   refine ⟨fun _ => e3.of, ?_⟩
                   have z1 := e1.size
                   have z2 := e2.size
                   have z3 := e3.size
                   refine xtq 8 12799 (by kernel_rfl) rfl ?_
                   refine xtq 9 13311 (by kernel_rfl) rfl ?_
                   refine xtq 10 14335 (by kernel_rfl) rfl ?_
                   refine xtq 11 16383 (by kernel_rfl) rfl ?_
                   refine xt0 14 32767 (by kernel_rfl) rfl (OpX.storeBlk H.sz39 rfl rfl (c7.ext0 e3) (by first | rfl | simp) (by first | decide | exact of_decide_eq_true rfl | (simp; done) | (simp; omega)) (tk_one _)) ?_
                   rintro _ w4 ⟨rfl, d7, x4', y4'⟩
                   refine ⟨fun _ => x4'.mono (fun b _ k => by have k : b = w1.size := k; omega), ?_⟩
                   refine xt0 15 65535 (by kernel_rfl) rfl (OpX.storeBlk H.sz45 rfl rfl (((c8.ext0 e2).ext0 e3).ext x4' (show ¬ g.size = w1.size by omega)) (by first | rfl | simp) (by first | decide | exact of_decide_eq_true rfl | (simp; done) | (simp; omega)) (lst_one _)) ?_
                   rintro _ w5 ⟨rfl, d8, x5, y5⟩
                   refine ⟨fun _ => x5.mono (fun b _ k => by have k : b = g.size := k; omega), ?_⟩
                   refine xtq 16 131071 (by kernel_rfl) rfl ?_
                   refine RD.done (by kernel_rfl) ?_
                   exact ⟨(w1.size, g.size), oneq_leaf ((e1.trans e2).trans e3) (by omega) (by omega) (by omega) x4' x5 d7 d8, rfl, rfl, rfl, rfl, rfl, rfl, rfl, rfl, rfl, rfl, rfl, rfl, rfl, rfl, rfl, trivial⟩
             · rintro ⟨b1, b2⟩ g5 ⟨d7, d8, eg5, hb1, hb2, hbn⟩
               dsimp only at d7 d8 hb1 hb2 hbn
               have hm0 := hI.m0
               have hm1 := hI.m1
               have hcb := hI.cb
               have hhB := hI.hB
               have hbsz := hI.kd.lt
               have hcsz := hI.kc.lt
               have tge : ∀ y, vt.ownBlock = some y → B ≤ y ∧ y < g.size := fun y hy => OwnH.lt hI.ho hy
               have sge : ∀ y, vs.ownBlock = some y → B ≤ y ∧ y < g.size := fun y hy => OwnH.lt hI.hp hy
               have kd5 := hI.kd.ext0 eg5
               have z5 := eg5.size
               refine xra Tryd.func9 2 rfl ?_
               refine xp rfl (OpP.fieldAddr (off := 7) Tryd.underlying52 rfl rfl H.sz3 rfl) ?_
               refine xp rfl (OpP.load H.ag3 rfl (kd5.cell (i := 7) rfl)) ?_
               refine xqp 1 rfl rfl (OpP.add64 rfl rfl ⟨by omega, by omega⟩) ?_
               refine xqp 1 rfl rfl (OpP.fieldAddr (off := 7) Tryd.underlying52 rfl rfl H.sz3 rfl) ?_
               refine RW.op0 rfl rfl rfl (OpX.storeOne H.sz3 rfl rfl kd5 (by first | decide | exact of_decide_eq_true rfl | (simp; done) | (simp; omega)) rfl) ?_
               rintro _ g6 ⟨rfl, kd6, x6, z6⟩
               have kd6 : Blk g6 b 52 (docC (.pointer (some ⟨lb, 0, none⟩)) s (.slice ta tn tc) (.slice sa sn sc) (allP s).2 pv (m + sp)) := kd6
               have d7 := d7.ext x6 (show ¬ b1 = b by omega)
               have d8 := d8.ext x6 (show ¬ b2 = b by omega)
               have kc6 := (hI.kc.ext0 eg5).ext x6 (show ¬ c = b by omega)
               have ho6 : OwnH g6 B 39 3 vt toks.length (toks.flatMap encTk) := OwnH.ext x6 (hI.ho.ext0 eg5) (fun y hy (k : y = b) => by have := tge y hy; omega)
               have hp6 : OwnH g6 B 45 2 vs sts.length (sts.flatMap encLSt) := OwnH.ext x6 (hI.hp.ext0 eg5) (fun y hy (k : y = b) => by have := sge y hy; omega)
               have hdis := rows_two (g := g6) ho6 hp6
               have hb1' := d7.lt
               have hb2' := d8.lt
               refine xd [0, 1, 3, 9, 10, 13, 14, 15, 16, 17, 18, 19, 20, 136, 178] rfl ?_
               refine G.seq rfl ?_
               refine xr Tryd.func9 rfl ?_
               refine xp rfl (OpP.fieldAddr (off := 2) Tryd.underlying39 rfl rfl H.sz3 rfl) ?_
               refine xp rfl (OpP.load H.ag3 rfl (d7.cell (i := 2) rfl)) ?_
               refine xqd 2 [0, 1, 3, 9, 10, 13, 14, 15, 16, 17, 18, 19, 20, 136, 178, 202] rfl ?_
               refine G.cond rfl rfl (fun hc => absurd hc (by simp; omega)) (fun _ => ?_)
               have hMa : ¬ (but vt.ownBlock b1 ∨ but vs.ownBlock b1 ∨ Array.size g6 ≤ b1) := by
                rintro (k | k | k)
                · have := tge _ k.symm; omega
                · have := sge _ k.symm; omega
                · omega
               have hMd : ¬ (but vt.ownBlock c ∨ but vs.ownBlock c ∨ Array.size g6 ≤ c) := by
                rintro (k | k | k)
                · exact own_ne ho6 kc6 (by decide) k
                · exact hI.nc c k.symm rfl
                · omega
               refine G.skip rfl ?_
               refine G.seq rfl ?_
               refine G.drawToX (fun (q : Value × Value) (h' : Heap) => AppQ g6 B vt vs toks sts (kdd, (a : Int), ((a + L : Nat) : Int)) st q h') (fun (q : Value × Value) => [(13, q.1), (14, q.2)]) [(0, _), (1, _), (3, _), (9, _), (10, _), (15, _), (16, _), (17, _), (18, _), (19, _), (20, _), (136, _), (178, _), (202, _)] ⟨rfl, rfl, rfl, rfl, rfl, rfl, rfl, rfl, rfl, rfl, rfl, rfl, rfl, rfl, trivial⟩ (fun b => but vt.ownBlock b ∨ but vs.ownBlock b ∨ Array.size g6 ≤ b) (fun i => Nat.blt i 10) (sz := 10) (listed := #[false, false, false, false, false, false, false, false, false, false]) Tryd.func9 H.mixed rfl rfl rfl ?_ ?_
               · refine xtq 0 1 (by kernel_rfl) rfl ?_
                 refine xtp 1 3 (by kernel_rfl) rfl (fun h' e => OpP.loadRowN H.ag39 H.sz39 rfl (e.rowAt hMa d7.row) (by first | rfl | simp)) ?_
                 refine xtq 4 19 (by kernel_rfl) rfl ?_
                 refine xtp 5 51 (by kernel_rfl) rfl (fun h' e => OpP.loadRowN H.ag45 H.sz45 rfl (e.rowAt hMd kc6.row) (by first | rfl | simp)) ?_
                 have tlt : ∀ x, but vt.ownBlock x → x < g6.size := fun x k => (OwnH.lt ho6 k.symm).2
                 have slt : ∀ x, but vs.ownBlock x → x < g6.size := fun x k => (OwnH.lt hp6 k.symm).2
                 refine RD.twoS 2 6 (li := #[true, true, true, false, true, true, false, false, false, false]) (lj := #[true, true, false, false, true, true, true, false, false, false]) rfl rfl (by kernel_rfl) rfl rfl rfl rfl rfl rfl (OpX.buildRec (cs := [_, _, _]) Tryd.underlying36 H.el39 rfl rfl (by decide)) (OpX.buildRec (cs := [_, _]) Tryd.underlying50 H.el45 rfl rfl (by decide)) (by kernel_rfl) (by kernel_rfl) ?_ ?_
                 · rintro _ w1 ⟨rfl, hw1⟩
                   refine ⟨fun _ => by rw [hw1]; exact Ext.push _ _ _, ?_⟩
                   have x01 : Ext0 g6 w1 := by rw [hw1]; exact Ext.push _ _ _
                   have z01 : w1.size = g6.size + 1 := by rw [hw1]; simp
                   have hrA : Lw.rowAt w1 g6.size 0 (encTk (kdd, (a : Int), ((a + L : Nat) : Int))) := by rw [hw1]; exact row_push _ _ _
                   refine RD.twoS 3 6 (li := #[true, true, true, true, true, true, false, false, false, false]) (lj := #[true, true, true, false, true, true, true, false, false, false]) rfl rfl (by kernel_rfl) rfl rfl rfl rfl rfl rfl (OpX.append Tryd.underlying36 H.el39 rfl rfl (ho6.ext0' x01) rfl (.inr ⟨_, _, rfl, hrA⟩) (tk_one _) (by simp only [maxLen]; omega) (by omega) (by omega)) (OpX.buildRec (cs := [_, _]) Tryd.underlying50 H.el45 rfl rfl (by decide)) (by kernel_rfl) (by kernel_rfl) ?_ ?_
                   · rintro vt2 w2 ⟨ho2, hx2, _, hv2⟩
                     refine ⟨fun _ => hx2.mono (fun _ _ k => .inl k), ?_⟩
                     have z12 := hx2.size
                     refine xto 6 127 (by kernel_rfl) rfl (OpX.buildRec (cs := [_, _]) Tryd.underlying50 H.el45 rfl rfl (by decide)) ?_
                     rintro _ w3 ⟨rfl, hw3⟩
                     refine ⟨fun _ => by rw [hw3]; exact Ext.push _ _ _, ?_⟩
                     have x23 : Ext0 w2 w3 := by rw [hw3]; exact Ext.push _ _ _
                     have z23 : w3.size = w2.size + 1 := by rw [hw3]; simp
                     have hrS : Lw.rowAt w3 w2.size 0 (encLSt st) := by rw [hw3]; exact row_push _ _ _
                     refine xto 7 255 (by kernel_rfl) rfl (OpX.append Tryd.underlying50 H.el45 rfl rfl ((OwnH.ext hx2 (hp6.ext0' x01) (fun b hb k => hdis b k hb.symm)).ext0' x23) rfl (.inr ⟨_, _, rfl, hrS⟩) (lst_one _) (by simp only [maxLen]; omega) (by omega) (by omega)) ?_
                     rintro vs2 w4 ⟨ho4, hx4, _, hv4⟩
                     refine ⟨fun _ => hx4.mono (fun _ _ k => .inr (.inl k)), ?_⟩
                     refine xtq 8 511 (by kernel_rfl) rfl ?_
                     refine xtq 9 1023 (by kernel_rfl) rfl ?_
                     refine RD.done (by kernel_rfl) ?_
                     exact ⟨(vt2, vs2), appq_end ho6 hp6 ((Ext0.of x01).trans hx2) (fun b hb => (hv2 b hb).imp id (fun k => by omega)) ho2 ((Ext0.of x23).trans hx4) ho4 (fun b hb => (hv4 b hb).imp id (fun k => by omega)), rfl, rfl, rfl, rfl, rfl, rfl, rfl, rfl, rfl, rfl, rfl, rfl, rfl, rfl, rfl, rfl, trivial⟩
                   · rintro _ w2 ⟨rfl, hw2⟩
                     refine ⟨fun _ => by rw [hw2]; exact Ext.push _ _ _, ?_⟩
                     have x12 : Ext0 w1 w2 := by rw [hw2]; exact Ext.push _ _ _
                     have z12 : w2.size = w1.size + 1 := by rw [hw2]; simp
                     have hrS : Lw.rowAt w2 w1.size 0 (encLSt st) := by rw [hw2]; exact row_push _ _ _
                     have x02 := x01.trans x12
                     refine xto 3 127 (by kernel_rfl) rfl (OpX.append Tryd.underlying36 H.el39 rfl rfl (ho6.ext0' x02) rfl (.inr ⟨_, _, rfl, x12.rowAt (fun k => k) hrA⟩) (tk_one _) (by simp only [maxLen]; omega) (by omega) (by omega)) ?_
                     rintro vt2 w3 ⟨ho2, hx2, _, hv2⟩
                     refine ⟨fun _ => hx2.mono (fun _ _ k => .inl k), ?_⟩
                     have z23 := hx2.size
                     refine xto 7 255 (by kernel_rfl) rfl (OpX.append Tryd.underlying50 H.el45 rfl rfl (OwnH.ext hx2 (hp6.ext0' x02) (fun b hb k => hdis b k hb.symm)) rfl (.inr ⟨_, _, rfl, hx2.rowAt (fun k => by have := tlt _ k; omega) hrS⟩) (lst_one _) (by simp only [maxLen]; omega) (by omega) (by omega)) ?_
                     rintro vs2 w4 ⟨ho4, hx4, _, hv4⟩
                     refine ⟨fun _ => hx4.mono (fun _ _ k => .inr (.inl k)), ?_⟩
                     refine xtq 8 511 (by kernel_rfl) rfl ?_
                     refine xtq 9 1023 (by kernel_rfl) rfl ?_
                     refine RD.done (by kernel_rfl) ?_
                     exact ⟨(vt2, vs2), appq_end ho6 hp6 ((Ext0.of x02).trans hx2) (fun b hb => (hv2 b hb).imp id (fun k => by omega)) ho2 hx4 ho4 (fun b hb => (hv4 b hb).imp id (fun k => by omega)), rfl, rfl, rfl, rfl, rfl, rfl, rfl, rfl, rfl, rfl, rfl, rfl, rfl, rfl, rfl, rfl, trivial⟩
                 · rintro _ w1 ⟨rfl, hw1⟩
                   refine ⟨fun _ => by rw [hw1]; exact Ext.push _ _ _, ?_⟩
                   have x01 : Ext0 g6 w1 := by rw [hw1]; exact Ext.push _ _ _
                   have z01 : w1.size = g6.size + 1 := by rw [hw1]; simp
                   have hrS : Lw.rowAt w1 g6.size 0 (encLSt st) := by rw [hw1]; exact row_push _ _ _
                   refine xto 2 119 (by kernel_rfl) rfl (OpX.buildRec (cs := [_, _, _]) Tryd.underlying36 H.el39 rfl rfl (by decide)) ?_
                   rintro _ w2 ⟨rfl, hw2⟩
                   refine ⟨fun _ => by rw [hw2]; exact Ext.push _ _ _, ?_⟩
                   have x12 : Ext0 w1 w2 := by rw [hw2]; exact Ext.push _ _ _
                   have z12 : w2.size = w1.size + 1 := by rw [hw2]; simp
                   have hrA : Lw.rowAt w2 w1.size 0 (encTk (kdd, (a : Int), ((a + L : Nat) : Int))) := by rw [hw2]; exact row_push _ _ _
                   have x02 := x01.trans x12
                   refine xto 3 127 (by kernel_rfl) rfl (OpX.append Tryd.underlying36 H.el39 rfl rfl (ho6.ext0' x02) rfl (.inr ⟨_, _, rfl, hrA⟩) (tk_one _) (by simp only [maxLen]; omega) (by omega) (by omega)) ?_
                   rintro vt2 w3 ⟨ho2, hx2, _, hv2⟩
                   refine ⟨fun _ => hx2.mono (fun _ _ k => .inl k), ?_⟩
                   have z23 := hx2.size
                   refine xto 7 255 (by kernel_rfl) rfl (OpX.append Tryd.underlying50 H.el45 rfl rfl (OwnH.ext hx2 (hp6.ext0' x02) (fun b hb k => hdis b k hb.symm)) rfl (.inr ⟨_, _, rfl, hx2.rowAt (fun k => by have := tlt _ k; omega) (x12.rowAt (fun k => k) hrS)⟩) (lst_one _) (by simp only [maxLen]; omega) (by omega) (by omega)) ?_
                   rintro vs2 w4 ⟨ho4, hx4, _, hv4⟩
                   refine ⟨fun _ => hx4.mono (fun _ _ k => .inr (.inl k)), ?_⟩
                   refine xtq 8 511 (by kernel_rfl) rfl ?_
                   refine xtq 9 1023 (by kernel_rfl) rfl ?_
                   refine RD.done (by kernel_rfl) ?_
                   exact ⟨(vt2, vs2), appq_end ho6 hp6 ((Ext0.of x02).trans hx2) (fun b hb => (hv2 b hb).imp id (fun k => by omega)) ho2 hx4 ho4 (fun b hb => (hv4 b hb).imp id (fun k => by omega)), rfl, rfl, rfl, rfl, rfl, rfl, rfl, rfl, rfl, rfl, rfl, rfl, rfl, rfl, rfl, rfl, trivial⟩
               · rintro ⟨vt2, vs2⟩ g7 ⟨ho7, hp7, x7, hv7⟩
                 dsimp only at ho7 hp7 hv7
                 have d7 := d7.ext x7 (fun k => hMa (k.imp id .inl))
                 have d8 := d8.ext x7 (by rintro (k | k); have := tge _ k.symm; omega; have := sge _ k.symm; omega)
                 have kc7 := kc6.ext x7 (fun k => hMd (k.imp id .inl))
                 have kd7 := kd6.ext x7 (by rintro (k | k); have := tge _ k.symm; omega; have := sge _ k.symm; omega)
                 have z7 := x7.size
                 have tge2 : ∀ y, vt2.ownBlock = some y → B ≤ y ∧ y < g7.size := fun y hy => OwnH.lt ho7 hy
                 have sge2 : ∀ y, vs2.ownBlock = some y → B ≤ y ∧ y < g7.size := fun y hy => OwnH.lt hp7 hy
                 have hnc2 : ∀ y, vs2.ownBlock = some y → y ≠ c := fun y hy hyc => by
                  rcases hv7 y hy with k | k
                  · exact hI.nc y k hyc
                  · omega
                 have hM7 : ¬ (b1 = c ∨ Array.size g7 ≤ b1) := by omega
                 have hM8 : ¬ (b2 = c ∨ Array.size g7 ≤ b2) := by omega
                 refine G.draw (fun b => b = c ∨ Array.size g7 ≤ b) (fun i => Nat.blt i 5) (sz := 5) (listed := #[false, false, false, false, false]) Tryd.func9 H.mixed rfl rfl rfl ?_
                 refine xtp 0 1 (by kernel_rfl) rfl (fun h' e => OpP.fieldAddr (off := 2) Tryd.underlying39 rfl rfl H.sz3 rfl) ?_
                 refine xtp 1 3 (by kernel_rfl) rfl (fun h' e => OpP.load H.ag3 rfl (e.cell hM7 (d7.cell (i := 2) rfl))) ?_
                 refine xtp 2 7 (by kernel_rfl) rfl (fun h' e => OpP.loadRowN H.ag45 H.sz45 rfl (e.rowAt hM8 d8.row) (by first | rfl | simp)) ?_
                 refine xtq 3 15 (by kernel_rfl) rfl ?_
                 refine xt0 4 31 (by kernel_rfl) rfl (OpX.storeBlk H.sz45 rfl rfl kc7 (by first | rfl | simp) (by first | decide | exact of_decide_eq_true rfl | (simp; done) | (simp; omega)) (lst_one nx)) ?_
                 rintro _ g8 ⟨rfl, kc8, x8, z8⟩
                 refine ⟨fun _ => x8.mono (fun _ _ k => .inl k), ?_⟩
                 refine RD.done (by kernel_rfl) ?_
                 refine xu [0, 1, 3, 9, 10, 13, 14, 15, 16, 17, 18, 19, 20, 136, 178, 202] rfl ?_
                 refine G.blkEnd ?_
                 have kc8 : Blk g8 c 45 (encLSt nx) := kc8
                 have hI2 : EdI h b c B s x i j d pa (.pointer (some ⟨lb, 0, none⟩)) (.slice ta tn tc) (.slice sa sn sc) pv (a + L) nx r (m + sp) vt2 (toks ++ [(kdd, (a : Int), ((a + L : Nat) : Int))]) vs2 (sts ++ [st]) g8 :=
                  ⟨hstep, hI.ol, fun r' t h1 h2 => by have := hI.ob r' t h1 h2; omega, by omega, by omega,
                   ⟨by omega, fun y hy hn => by
                    rw [x8.block y (by omega) (by omega), x7.block y (by omega) (by rintro (k | k); have := tge _ k.symm; omega; have := sge _ k.symm; omega), x6.block y (by omega) hn, eg5.block y (by omega) (fun k => k)]
                    exact hI.ex.block y hy hn⟩,
                   kd7.ext x8 (show ¬ b = c by omega), kc8, OwnH.ext x8 ho7 (fun y hy k => own_ne ho7 kc7 (by decide) (by rw [hy]; exact congrArg some k.symm)), OwnH.ext x8 hp7 (fun y hy k => hnc2 y hy k), hnc2, hI.cb, hI.hB⟩
                 exact ih (a + L, nx, r, m + sp, (vt2, toks ++ [(kdd, (a : Int), ((a + L : Nat) : Int))]), (vs2, sts ++ [st])) _ _ ⟨rfl, rfl, rfl, rfl, rfl, rfl, rfl, rfl, rfl, rfl, trivial⟩ hI2 (by show (edP s i j x).length + 1 - (a + L) < (edP s i j x).length + 1 - a; omega)
   · refine G.exit rfl rfl ?_
     exact fin a st old m vt toks vs sts _ _ ⟨rfl, rfl, rfl, rfl, rfl, rfl, rfl, rfl, trivial⟩ ⟨hI, .inl (by omega)⟩
end Go.Proofs.YtlkmlfofhbekoaaDoor
namespace Go.Proofs.YtlkmlfofhbekoaaDoor
open Go Go.Lw
set_option maxRecDepth 20000
theorem edit_arg {h : Heap} {b : Nat} {s : By} {n : Int} (k : DocH h b s n) (a c : Int) (x : ByteArray) (hac : a < 0 ∨ c < a ∨ (s.length : Int) < c) :
 CallsH Tryd.prog 9 #[.pointer (some ⟨b, 0, none⟩), .int .i64 a, .int .i64 c, .string x] h (Ret fun r h' => r = .int .i64 2 ∧ h' = h) := by
 have hn := k.none
 have hbs := bs_size s
 obtain ⟨h0, lb, tv, sv, pv, _, _, _, _, kd, _⟩ := k
 refine CallsH.of Tryd.func9 rfl rfl ?_
 refine xrd Tryd.func9 1 [0, 1, 2, 3, 8] rfl ?_
 refine G.scope rfl ?_
 refine G.seq rfl ?_
 refine G.block rfl rfl ?_
 refine xra Tryd.func9 1 rfl ?_
 refine xo rfl (OpX.call (vs := [_]) Tryd.func24 rfl H.nm24 rfl (CallsH.toX (hn))) ?_
 rintro _ h ⟨rfl, hg0⟩
 refine xqd 1 [0, 1, 2, 3, 8, 23] rfl ?_
 subst hg0
 refine G.cond rfl rfl (fun hc => absurd hc (by simp)) (fun _ => ?_)
 refine G.seq rfl ?_
 refine G.regTo1 [(26, .bool true)] [(0, _), (1, _), (2, _), (3, _), (8, _), (23, _)] ⟨rfl, rfl, rfl, rfl, rfl, rfl, trivial⟩ Tryd.func9 rfl ?_ ?_
 · refine xqm 3 rfl ?_
   refine RW.split (d := 29) rfl (fun c1 => ?_) (fun c1 => ?_)
   · refine xqm 14 rfl ?_
     refine RW.done rfl ?_
     exact ⟨rfl, at_bool rfl (rfl), rfl, rfl, rfl, rfl, rfl, rfl, trivial⟩
   · have c1' := of_decide_eq_false c1
     refine xqm 5 rfl ?_
     refine RW.split (d := 34) rfl (fun c2 => ?_) (fun c2 => ?_)
     · refine xqm 9 rfl ?_
       refine RW.done rfl ?_
       exact ⟨rfl, at_bool rfl (rfl), rfl, rfl, rfl, rfl, rfl, rfl, trivial⟩
     · have c2' := of_decide_eq_false c2
       refine xqp 3 rfl rfl (OpP.fieldAddr (off := 1) Tryd.underlying52 rfl rfl H.sz9 rfl) ?_
       refine xp rfl (OpP.load H.ag9 rfl (kd.cell (i := 1) rfl)) ?_
       refine xp rfl (OpP.lenString Tryd.underlying9 rfl) ?_
       refine xqm 3 rfl ?_
       refine RW.done rfl ?_
       exact ⟨rfl, at_bool rfl (by simp [hbs]; omega), rfl, rfl, rfl, rfl, rfl, rfl, trivial⟩
 · refine G.cond rfl rfl (fun _ => ?_) (fun hc => absurd hc (by simp))
   refine xrd Tryd.func9 1 [0, 1, 2, 3, 8, 23, 26] rfl ?_
   refine G.ret Tryd.func9 rfl rfl ?_
   exact ⟨_, rfl, rfl, rfl⟩
theorem edit_full {h : Heap} {b : Nat} {s : By} {n : Int} (k : DocH h b s n) (x : ByteArray) (i j : Nat) (hij : i ≤ j) (hj : j ≤ s.length) (hs : s.length ≤ 16384) (hx : 16384 < i + x.size + (s.length - j)) :
 CallsH Tryd.prog 9 #[.pointer (some ⟨b, 0, none⟩), .int .i64 (i : Nat), .int .i64 (j : Nat), .string x] h (Ret fun r h' => r = .int .i64 60 ∧ h' = h) := by
 have hn := k.none
 have hbs := bs_size s
 obtain ⟨h0, lb, tv, sv, pv, _, _, _, _, kd, _⟩ := k
 refine CallsH.of Tryd.func9 rfl rfl ?_
 refine xrd Tryd.func9 1 [0, 1, 2, 3, 8] rfl ?_
 refine G.scope rfl ?_
 refine G.seq rfl ?_
 refine G.block rfl rfl ?_
 refine xra Tryd.func9 1 rfl ?_
 refine xo rfl (OpX.call (vs := [_]) Tryd.func24 rfl H.nm24 rfl (CallsH.toX (hn))) ?_
 rintro _ h ⟨rfl, hg0⟩
 refine xqd 1 [0, 1, 2, 3, 8, 23] rfl ?_
 subst hg0
 refine G.cond rfl rfl (fun hc => absurd hc (by simp)) (fun _ => ?_)
 refine G.seq rfl ?_
 refine G.regTo1 [(26, .bool false)] [(0, _), (1, _), (2, _), (3, _), (8, _), (23, _)] ⟨rfl, rfl, rfl, rfl, rfl, rfl, trivial⟩ Tryd.func9 rfl ?_ ?_
 · refine xqm 3 rfl ?_
   refine RW.know (d := 29) (b' := false) rfl (by simp) ?_
   refine xqm 5 rfl ?_
   refine RW.know (d := 34) (b' := false) rfl (by simp; omega) ?_
   refine xqp 3 rfl rfl (OpP.fieldAddr (off := 1) Tryd.underlying52 rfl rfl H.sz9 rfl) ?_
   refine xp rfl (OpP.load H.ag9 rfl (kd.cell (i := 1) rfl)) ?_
   refine xp rfl (OpP.lenString Tryd.underlying9 rfl) ?_
   refine xqm 3 rfl ?_
   refine RW.done rfl ?_
   exact ⟨rfl, at_bool rfl (by simp [hbs]; omega), rfl, rfl, rfl, rfl, rfl, rfl, trivial⟩
 · refine G.cond rfl rfl (fun hc => absurd hc (by decide)) (fun _ => ?_)
   refine xra Tryd.func9 1 rfl ?_
   refine xp rfl (OpP.lenString Tryd.underlying9 rfl) ?_
   refine xqp 2 rfl rfl (OpP.fieldAddr (off := 1) Tryd.underlying52 rfl rfl H.sz9 rfl) ?_
   refine xp rfl (OpP.load H.ag9 rfl (kd.cell (i := 1) rfl)) ?_
   refine xp rfl (OpP.lenString Tryd.underlying9 rfl) ?_
   refine xp rfl (OpP.sub64 rfl rfl ⟨by omega, by omega⟩) ?_
   refine xqp 2 rfl rfl (OpP.sub64 rfl rfl ⟨by omega, by omega⟩) ?_
   refine xp rfl (OpP.add64 rfl rfl ⟨by omega, by omega⟩) ?_
   refine xqd 2 [0, 1, 2, 3, 8, 23, 26, 43] rfl ?_
   refine G.cond rfl rfl (fun _ => ?_) (fun hc => absurd hc (by simp [hbs]; omega))
   refine xrd Tryd.func9 1 [0, 1, 2, 3, 8, 23, 26, 43] rfl ?_
   refine G.ret Tryd.func9 rfl rfl ?_
   exact ⟨_, rfl, rfl, rfl⟩
theorem doc_nil {h0 h : Heap} {b lb : Nat} {pv : Value} (kG : LxG h0) (kL : LexAt h0 (.pointer (some ⟨lb, 0, none⟩))) (e : Ext0 h0 h) (hb : h0.size ≤ b) (kd : Blk h b 52 (docC (.pointer (some ⟨lb, 0, none⟩)) [] (.slice none 0 0) (.slice none 0 0) (0, 0) pv 0)) (hp : SlR ePt h (fun y => y = b) pv [(0, (0, 0))]) : DocH h b [] 0 :=
 ⟨h0, lb, _, _, pv, kG, kL, e, hb, kd, SlR.nil _ _ _, SlR.nil _ _ _, hp⟩
theorem DocH.steps {h h' : Heap} {b : Nat} {s : By} {n : Int} (k : DocH h b s n) : ∃ lp tv sv pv, Blk h b 52 (docC (.pointer (some lp)) s tv sv (allP s).2 pv n) ∧ ∀ h' m, Blk h' b 52 (docC (.pointer (some lp)) s tv sv (allP s).2 pv m) → Ext (fun y => y = b) h h' → DocH h' b s m := by
 obtain ⟨h0, lb, tv, sv, pv, kG, kL, k3, hb0, kd, ht, hs, hp⟩ := k
 exact ⟨_, tv, sv, pv, kd, fun h' m k' x => ⟨h0, lb, tv, sv, pv, kG, kL, Ext0.only k3 x hb0, hb0, k', ht.but x, hs.but x, hp.but x⟩⟩
theorem docNew_calls {h : Heap} {lp : Value} (kG : LxG h) (kL : LexAt h lp) (s : By) (hs : s.length ≤ 16384) :
 CallsH Tryd.prog 7 #[lp, .string (bs s)] h (Ret fun r h' => (∃ b : Nat, r = .pointer (some ⟨b, 0, none⟩) ∧ h.size ≤ b ∧ DocH h' b s 0) ∧ Ext0 h h') := by
 have hbs := bs_size s
 obtain ⟨lb, vm, rfl, kL1, kL2⟩ := id kL
 refine CallsH.of Tryd.func7 rfl rfl ?_
 refine xrd Tryd.func7 1 [0, 1, 4] rfl ?_
 refine G.seq rfl ?_
 refine G.seq rfl ?_
 refine G.regTo1 [(12, .bool false)] [(0, _), (1, _), (4, _)] ⟨rfl, rfl, rfl, trivial⟩ Tryd.func7 rfl ?_ ?_
 · refine xqp 1 rfl rfl (OpP.eqlNil Tryd.underlying25 rfl rfl) ?_
   refine xqm 1 rfl ?_
   refine RW.know (d := 8) (b' := false) rfl (rfl) ?_
   refine xqp 1 rfl rfl (OpP.lenString Tryd.underlying9 rfl) ?_
   refine xqm 2 rfl ?_
   refine RW.done rfl ?_
   exact ⟨rfl, at_bool rfl (by simp [hbs]; omega), rfl, rfl, rfl, trivial⟩
 · refine G.cond rfl rfl (fun hc => absurd hc (by decide)) (fun _ => ?_)
   refine G.skip rfl ?_
   refine xra Tryd.func7 1 rfl ?_
   refine xp rfl (OpP.build (H.bd61_ ) rfl) ?_
   refine xo rfl (OpX.buildRec (cs := [_, _, _]) Tryd.underlying48 H.el61 rfl rfl (by decide)) ?_
   rintro _ h1 ⟨rfl, hh1⟩
   refine xp rfl (OpP.build (H.bd52_0_5 _ _ _ _) rfl) ?_
   refine xo rfl (OpX.boxN rfl) ?_
   rintro _ h2 ⟨rfl, k2, e2, z2⟩
   have e1 : Ext0 h h1 := by rw [hh1]; exact Ext.push _ _ _
   have z1 : h1.size = h.size + 1 := by rw [hh1]; simp
   have ho1 : OwR 3 encPt h1 h.size 61 (.slice (some ⟨h.size, 0, none⟩) 1 1) [(0, (0, 0))] := by rw [hh1]; exact OwR.made1 (fun _ => rfl) h ((0, (0, 0)) : Pt) 61 h.size (Nat.le_refl _) rfl
   have ho2 := ho1.ext0 e2
   have hd : DocH h2 h1.size [] 0 := doc_nil kG kL (e1.trans e2) (by omega) k2 (by
    have hp : SlR ePt h2 (fun y => y = h1.size) (.slice (some ⟨h.size, 0, none⟩) 1 1) [(0, (0, 0))] := OwnH.shutR2 ho2 (fun y hy (q : y = h1.size) => by have h5 : h.size = y := Option.some.inj hy; omega)
    exact hp)
   have hed := edit_calls hd s 0 0 (Nat.le_refl _) (Nat.zero_le _) (Nat.zero_le _) (by simp only [List.length_nil]; omega)
   have hE : edP [] 0 0 s = s := by simp [edP]
   rw [hE] at hed
   refine xqd 1 [0, 1, 4, 5, 12] rfl ?_
   refine xra Tryd.func7 2 rfl ?_
   refine xo rfl (OpX.call (vs := [_, _, _, _]) Tryd.func9 rfl H.nm9 rfl (CallsH.toX (hed))) ?_
   rintro _ h3 ⟨⟨rfl, m, hd3, _⟩, x3⟩
   obtain ⟨lp, tv, sv, pv, kd, hset⟩ := hd3.steps (h' := h3)
   refine xd [0, 1, 4, 5, 12] rfl ?_
   refine xra Tryd.func7 2 rfl ?_
   refine xp rfl (OpP.fieldAddr (off := 7) Tryd.underlying52 rfl rfl H.sz3 rfl) ?_
   refine RW.op0 rfl rfl rfl (OpX.storeOne H.sz3 rfl rfl kd (by first | decide | exact of_decide_eq_true rfl | (simp; done) | (simp; omega)) rfl) ?_
   rintro _ h4 ⟨rfl, kd4, x4, z4⟩
   refine xd [0, 1, 4, 5, 12] rfl ?_
   refine xrd Tryd.func7 2 [0, 1, 4, 5, 12] rfl ?_
   have hd4 := hset h4 0 kd4 x4
   refine G.ret Tryd.func7 rfl rfl ?_
   exact ⟨_, rfl, ⟨_, rfl, by omega, hd4⟩, Ext0.only (Ext0.only (e1.trans e2) x3 (by omega)) x4 (by omega)⟩
theorem docNew_long {h : Heap} {lb : Addr} (s : ByteArray) (hs : 16384 < s.size) : CallsH Tryd.prog 7 #[.pointer (some lb), .string s] h (Ret fun r h' => r = .pointer none ∧ h' = h) := by
 refine CallsH.of Tryd.func7 rfl rfl ?_
 refine xrd Tryd.func7 1 [0, 1, 4] rfl ?_
 refine G.seq rfl ?_
 refine G.seq rfl ?_
 refine G.regTo1 [(12, .bool true)] [(0, _), (1, _), (4, _)] ⟨rfl, rfl, rfl, trivial⟩ Tryd.func7 rfl ?_ ?_
 · refine xqp 1 rfl rfl (OpP.eqlNil Tryd.underlying25 rfl rfl) ?_
   refine xqm 1 rfl ?_
   refine RW.know (d := 8) (b' := false) rfl (rfl) ?_
   refine xqp 1 rfl rfl (OpP.lenString Tryd.underlying9 rfl) ?_
   refine xqm 2 rfl ?_
   refine RW.done rfl ?_
   exact ⟨rfl, at_bool rfl (by simp; omega), rfl, rfl, rfl, trivial⟩
 · refine G.cond rfl rfl (fun _ => ?_) (fun hc => absurd hc (by decide))
   refine xrd Tryd.func7 1 [0, 1, 4, 12] rfl ?_
   refine G.ret Tryd.func7 rfl rfl ?_
   exact ⟨_, rfl, rfl, rfl⟩
theorem same_calls {h : Heap} {v w : Value} {O O' : Nat → Prop} {xs ys : List Tk} (hv : SlR eTk h O v xs) (hw : SlR eTk h O' w ys) :
 CallsH Tryd.prog 15 #[v, w] h (Ret fun r h' => r = .bool (decide (xs = ys)) ∧ h' = h) := by
 obtain ⟨va, vn, vc, rfl, hvs⟩ := hv.open
 obtain ⟨wa, wn, wc, rfl, hws⟩ := hw.open
 have hxl : xs.length = vn := hvs.len
 have hyl : ys.length = wn := hws.len
 have hvc := hvs.le
 have hvm := hvs.cap
 simp only [maxLen] at hvm
 refine CallsH.of Tryd.func15 rfl rfl ?_
 refine xrd Tryd.func15 1 [0, 1, 4] rfl ?_
 refine G.seq rfl ?_
 refine xra Tryd.func15 1 rfl ?_
 refine xp rfl (OpP.lenSlice Tryd.underlying36 rfl) ?_
 refine xqp 1 rfl rfl (OpP.lenSlice Tryd.underlying36 rfl) ?_
 refine xqd 1 [0, 1, 4, 10] rfl ?_
 refine G.ite rfl rfl (fun hne => ?_) (fun hne => ?_)
 · refine xrd Tryd.func15 1 [0, 1, 4, 10] rfl ?_
   refine G.ret Tryd.func15 rfl rfl ?_
   rw [decide_eq_false (fun k : xs = ys => hne (by rw [← hxl, ← hyl, k]))]
   exact ⟨_, rfl, rfl, rfl⟩
 · have hnn : vn = wn := by omega
   refine G.skip rfl ?_
   refine G.seq rfl ?_
   refine xrd Tryd.func15 1 [0, 1, 4, 5, 10] rfl ?_
   refine G.block rfl rfl ?_
   refine G.loop (σ := Nat) (fun i => [(0, .slice va vn vc), (1, .slice wa wn wc), (5, .int .i64 (i : Nat))]) (fun i h' => h' = h ∧ i ≤ vn ∧ ∀ j, j < i → xs[j]? = ys[j]?) (fun i => vn - i) (0) rfl ⟨rfl, rfl, rfl, trivial⟩ ⟨rfl, Nat.zero_le _, fun j hj => by omega⟩ ?_
   rintro i g ⟨rfl, hi, hin⟩ ih
   refine G.seq rfl ?_
   refine xra Tryd.func15 2 rfl ?_
   refine xp rfl (OpP.lenSlice Tryd.underlying36 rfl) ?_
   refine xqd 1 [0, 1, 5, 14] rfl ?_
   refine G.ite rfl rfl (fun hlt => ?_) (fun hlt => ?_)
   · have hlt' : i < vn := by omega
     obtain ⟨b1, o1, x, ha, _, hx, hrow⟩ := hvs.recd hlt'
     obtain ⟨b2, o2, y, hb, _, hy, hrow2⟩ := hws.recd (i := i) (by omega)
     refine G.skip rfl ?_
     refine G.seq rfl ?_
     refine G.block rfl rfl ?_
     refine G.seq rfl ?_
     refine G.drawQ Tryd.func15 H.mixed rfl (by kernel_rfl) ?_
     refine RQ.pureS rfl rfl rfl rfl (OpP.move rfl) ?_
     refine RQ.pureS rfl rfl rfl rfl (OpP.move rfl) ?_
     refine RQ.pureS rfl rfl rfl rfl (OpP.indexSlice Tryd.underlying36 H.sz39 rfl rfl i rfl ha (by omega)) ?_
     refine RQ.pureS rfl rfl rfl rfl (OpP.loadRowN H.ag39 H.sz39 rfl hrow (by first | rfl | simp)) ?_
     refine RQ.pureS rfl rfl rfl rfl (OpP.move rfl) ?_
     refine RQ.pureS rfl rfl rfl rfl (OpP.move rfl) ?_
     refine RQ.pureS rfl rfl rfl rfl (OpP.indexSlice Tryd.underlying36 H.sz39 rfl rfl i rfl hb (by omega)) ?_
     refine RQ.pureS rfl rfl rfl rfl (OpP.loadRowN H.ag39 H.sz39 rfl hrow2 (by first | rfl | simp)) ?_
     refine RQ.pureS rfl rfl rfl rfl (OpP.neqAgg fieldsT stoodT guardT rfl rfl (tkEq _ _)) ?_
     refine RQ.done rfl ?_
     refine xu [0, 1, 5, 14, 25] rfl ?_
     refine G.cond rfl rfl (fun hk => ?_) (fun hk => ?_)
     · have hk' : ¬ x = y := by simpa using hk
       refine xrd Tryd.func15 1 [0, 1, 4, 5, 14, 25] rfl ?_
       refine G.ret Tryd.func15 rfl rfl ?_
       rw [decide_eq_false (fun k : xs = ys => hk' (by rw [k, hy] at hx; exact (Option.some.inj hx).symm))]
       exact ⟨_, rfl, rfl, rfl⟩
     · have hk' : x = y := by simpa using hk
       subst hk'
       refine G.skip rfl ?_
       refine G.blkEnd ?_
       refine G.reg Tryd.func15 rfl ?_
       refine xqp 1 rfl rfl (OpP.add64 rfl rfl ⟨by omega, by omega⟩) ?_
       refine xqd 1 [0, 1, 5, 14, 25] rfl ?_
       exact ih (i + 1) _ _ ⟨rfl, rfl, rfl, trivial⟩ ⟨rfl, by omega, fun j hj => by rcases Nat.lt_or_ge j i with q | q; exact hin j q; obtain rfl : j = i := (by omega); rw [hx, hy]⟩ (by omega)
   · obtain rfl : i = vn := by omega
     refine G.exit rfl rfl ?_
     refine xrd Tryd.func15 1 [0, 1, 4, 5, 14] rfl ?_
     refine G.ret Tryd.func15 rfl rfl ?_
     rw [decide_eq_true (show xs = ys from List.ext_getElem? fun j => by
      rcases Nat.lt_or_ge j i with q | q
      · exact hin j q
      · rw [List.getElem?_eq_none (by omega), List.getElem?_eq_none (by omega)])]
     exact ⟨_, rfl, rfl, rfl⟩
theorem ex_rel : (allP [97, 34, 32, 98]).1 = [(3, 0, 1), (9, 1, 2), (9, 2, 4)] ∧ (allP [97, 32, 98]).1 = [(3, 0, 1), (1, 1, 2), (3, 2, 3)] := by decide +kernel
theorem relexed_calls {h : Heap} (hg : LxG h) : CallsH Tryd.prog 13 #[] h (Ret fun r h' => r = .bool true ∧ Ext0 h h') := by
 obtain ⟨x1, x2⟩ := ex_rel
 obtain ⟨lim, hl1, hl2⟩ := id hg.sg
 refine CallsH.of Tryd.func13 rfl rfl ?_
 refine xrd Tryd.func13 1 [0] rfl ?_
 refine xr Tryd.func13 rfl ?_
 refine xo rfl (OpX.call (vs := []) Tryd.func8 rfl H.nm8 rfl (CallsH.toX (new_calls hl2 hl1 hg.tens hg.rules))) ?_
 rintro lp h1 ⟨hp, e1⟩
 refine xo rfl (OpX.call (vs := [_, _]) Tryd.func7 rfl H.nm7 rfl (CallsH.toX (docNew_calls (hg.ext0 e1) hp [97, 32, 98] (by decide)))) ?_
 rintro _ h2 ⟨⟨b, rfl, hb, hd⟩, e2⟩
 have e02 := e1.trans e2
 have z1 := e1.size
 have hb0 : h.size ≤ b := by omega
 have hed := edit_calls hd [34] 1 1 (by decide) (by decide) (by decide) (by decide)
 rw [show edP [97, 32, 98] 1 1 [34] = [97, 34, 32, 98] from rfl] at hed
 refine xqd 1 [0, 1] rfl ?_
 refine G.seq rfl ?_
 refine G.seq rfl ?_
 refine G.regToX (fun (m : Int) (h' : Heap) => Ext0 h h' ∧ DocH h' b [97, 34, 32, 98] m) (fun (m : Int) => [(21, .bool false)]) [(0, _), (1, _)] ⟨rfl, rfl, trivial⟩ Tryd.func13 rfl ?_ ?_
 · refine xqm 1 rfl ?_
   refine xo rfl (OpX.call (vs := [_, _, _, _]) Tryd.func9 rfl H.nm9 rfl (CallsH.toX (hed))) ?_
   rintro _ h3 ⟨⟨rfl, m, hd3, _⟩, x3⟩
   have e03 : Ext0 h h3 := Ext0.only e02 x3 hb0
   refine xqm 2 rfl ?_
   refine RW.know (d := 7) (b' := false) rfl (by simp) ?_
   refine xqm 1 rfl ?_
   refine xo rfl (OpX.call (vs := [_]) Tryd.func12 rfl H.nm12 rfl (CallsH.toX (text_calls hd3))) ?_
   rintro _ h3 ⟨rfl, hh3⟩
   subst hh3
   refine xp rfl (OpP.neqStr rfl rfl) ?_
   refine xqm 2 rfl ?_
   refine RW.know (d := 12) (b' := false) rfl (by decide) ?_
   refine xqm 1 rfl ?_
   refine xo rfl (OpX.call (vs := [_]) Tryd.func14 rfl H.nm14 rfl (CallsH.toX (tokens_calls hd3 (by decide)))) ?_
   rintro v4 h4 ⟨ho4, e4⟩
   refine xp rfl (OpP.build (H.bd39_0_1_2 _ _ _) rfl) ?_
   refine xp rfl (OpP.build (H.bd39_0_1_2 _ _ _) rfl) ?_
   refine xp rfl (OpP.build (H.bd39_0_1_2 _ _ _) rfl) ?_
   refine xo rfl (OpX.buildRecs Tryd.underlying36 H.el39 ([encTk (3, 0, 1), encTk (9, 1, 2), encTk (9, 2, 4)]) rfl rfl (by decide) (by simp <;> repeat' (first | rfl | constructor))) ?_
   rintro _ h5 ⟨rfl, hh5⟩
   have e5 : Ext0 h4 h5 := by rw [hh5]; exact Ext.push _ _ _
   have hx : SlR eTk h5 (fun _ => False) (.slice (some ⟨h4.size, 0, none⟩) 3 3) [(3, 0, 1), (9, 1, 2), (9, 2, 4)] := by rw [hh5]; exact recs_made h4 [(3, 0, 1), (9, 1, 2), (9, 2, 4)] 39 3 rfl (by decide) rfl
   have hv : SlR eTk h5 (fun _ => False) v4 (allP [97, 34, 32, 98]).1 := OwR.read (ho4.ext0 e5) (fun _ _ k => k)
   have hsm := same_calls hv hx
   rw [decide_eq_true x1] at hsm
   refine xo rfl (OpX.call (vs := [_, _]) Tryd.func15 rfl H.nm15 rfl (CallsH.toX (hsm))) ?_
   rintro _ h5 ⟨rfl, hh⟩
   refine xqm 2 rfl ?_
   subst hh
   refine RW.done rfl ?_
   exact ⟨m, ⟨(e03.trans e4).trans e5, (hd3.ext0 e4).ext0 e5⟩, at_bool rfl (by simp), rfl, rfl, trivial⟩
 · rintro m g ⟨eg, hdg⟩
   refine G.cond rfl rfl (fun hc => absurd hc (by decide)) (fun _ => ?_)
   have hed2 := edit_calls hdg [] 1 2 (by decide) (by decide) (by decide) (by decide)
   rw [show edP [97, 34, 32, 98] 1 2 [] = [97, 32, 98] from rfl] at hed2
   refine G.skip rfl ?_
   refine xra Tryd.func13 1 rfl ?_
   refine xo rfl (OpX.call (vs := [_, _, _, _]) Tryd.func9 rfl H.nm9 rfl (CallsH.toX (hed2))) ?_
   rintro _ h3 ⟨⟨rfl, m, hd3, _⟩, x3⟩
   have e03 : Ext0 h h3 := Ext0.only eg x3 hb0
   refine xqm 2 rfl ?_
   refine RW.know (d := 25) (b' := true) rfl (by simp) ?_
   refine xqm 1 rfl ?_
   refine xo rfl (OpX.call (vs := [_]) Tryd.func14 rfl H.nm14 rfl (CallsH.toX (tokens_calls hd3 (by decide)))) ?_
   rintro v4 h4 ⟨ho4, e4⟩
   refine xp rfl (OpP.build (H.bd39_0_1_2 _ _ _) rfl) ?_
   refine xp rfl (OpP.build (H.bd39_0_1_2 _ _ _) rfl) ?_
   refine xp rfl (OpP.build (H.bd39_0_1_2 _ _ _) rfl) ?_
   refine xo rfl (OpX.buildRecs Tryd.underlying36 H.el39 ([encTk (3, 0, 1), encTk (1, 1, 2), encTk (3, 2, 3)]) rfl rfl (by decide) (by simp <;> repeat' (first | rfl | constructor))) ?_
   rintro _ h5 ⟨rfl, hh5⟩
   have e5 : Ext0 h4 h5 := by rw [hh5]; exact Ext.push _ _ _
   have hx : SlR eTk h5 (fun _ => False) (.slice (some ⟨h4.size, 0, none⟩) 3 3) [(3, 0, 1), (1, 1, 2), (3, 2, 3)] := by rw [hh5]; exact recs_made h4 [(3, 0, 1), (1, 1, 2), (3, 2, 3)] 39 3 rfl (by decide) rfl
   have hv : SlR eTk h5 (fun _ => False) v4 (allP [97, 32, 98]).1 := OwR.read (ho4.ext0 e5) (fun _ _ k => k)
   have hsm := same_calls hv hx
   rw [decide_eq_true x2] at hsm
   have hd5 := (hd3.ext0 e4).ext0 e5
   refine xo rfl (OpX.call (vs := [_, _]) Tryd.func15 rfl H.nm15 rfl (CallsH.toX (hsm))) ?_
   rintro _ h5 ⟨rfl, hh⟩
   subst hh
   refine xqm 2 rfl ?_
   refine RW.know (d := 34) (b' := true) rfl (rfl) ?_
   refine xqm 1 rfl ?_
   refine xo rfl (OpX.call (vs := [_, _, _, _]) Tryd.func9 rfl H.nm9 rfl (CallsH.toX (edit_arg hd5 2 1 _ (by decide)))) ?_
   rintro _ h5 ⟨rfl, hh⟩
   subst hh
   refine xqm 3 rfl ?_
   refine RW.know (d := 39) (b' := true) rfl (by simp) ?_
   refine xqm 1 rfl ?_
   refine xo rfl (OpX.call (vs := [_, _, _, _]) Tryd.func9 rfl H.nm9 rfl (CallsH.toX (edit_arg hd5 0 9 _ (by decide)))) ?_
   rintro _ h5 ⟨rfl, hh⟩
   subst hh
   refine xqd 3 [0, 1, 21] rfl ?_
   refine G.ret Tryd.func13 rfl rfl ?_
   exact ⟨_, rfl, rfl, (e03.trans e4).trans e5⟩
def zer (n : Nat) : By := List.replicate n 0
theorem zer_len (n : Nat) : (zer n).length = n := List.length_replicate
theorem zer_read {h : Heap} {base : Nat} {t : TypeId} {v : Value} {n : Nat} (k : OwnH h base t 1 v n (List.replicate n (Value.int .u8 0))) : SlR .byte h (fun _ => False) v (zer n) := by
 have k2 : OwnH h base t 1 v n ((zer n).map encB) := by unfold zer; rw [List.map_replicate]; exact k
 exact OwnH.shut k2 (fun _ _ k => k)
theorem del_calls {h : Heap} (s : By) (j : Nat) (hj : j ≤ s.length) (hs : s.length ≤ 1000000) :
 CallsH Tryd.prog 10 #[.string (bs s), .int .i64 0, .int .i64 (j : Nat)] h (Ret fun r h' => r = .tuple #[.string (bs (s.drop j)), .int .i64 0] ∧ h' = h) := by
 have hbs := bs_size s
 refine CallsH.of Tryd.func10 rfl rfl ?_
 refine xrd Tryd.func10 2 [0, 1, 2, 6, 7] rfl ?_
 refine G.seq rfl ?_
 refine G.seq rfl ?_
 refine G.regTo1 [(20, .bool false)] [(0, _), (1, _), (2, _), (6, _), (7, _)] ⟨rfl, rfl, rfl, rfl, rfl, trivial⟩ Tryd.func10 rfl ?_ ?_
 · refine xqm 3 rfl ?_
   refine RW.know (d := 10) (b' := false) rfl (by simp) ?_
   refine xqp 2 rfl rfl (OpP.lenString Tryd.underlying9 rfl) ?_
   refine xqm 3 rfl ?_
   refine RW.know (d := 16) (b' := false) rfl (by simp <;> omega) ?_
   refine xqm 4 rfl ?_
   refine RW.done rfl ?_
   exact ⟨rfl, at_bool rfl (by simp <;> omega), rfl, rfl, rfl, rfl, rfl, trivial⟩
 · refine G.cond rfl rfl (fun hc => absurd hc (by decide)) (fun _ => ?_)
   refine G.skip rfl ?_
   refine G.seq rfl ?_
   refine G.drawQ Tryd.func10 H.mixed rfl (by kernel_rfl) ?_
   refine RQ.pureS rfl rfl rfl rfl (OpP.move rfl) ?_
   refine RQ.pureS rfl rfl rfl rfl (OpP.move rfl) ?_
   refine RQ.pureS rfl rfl rfl rfl (OpP.sliceStrHi Tryd.underlying9 rfl rfl 0 rfl (by omega)) ?_
   refine RQ.pureS rfl rfl rfl rfl (OpP.move rfl) ?_
   refine RQ.pureS rfl rfl rfl rfl (OpP.move rfl) ?_
   refine RQ.pureS rfl rfl rfl rfl (OpP.sliceStrLo Tryd.underlying9 rfl rfl j rfl (by omega)) ?_
   rw [bs_part s 0 0 (Nat.le_refl _), bs_drop]
   refine RQ.pureS rfl rfl rfl rfl (OpP.addStr rfl rfl (by rw [bs_size, bs_size, List.length_drop, List.length_drop, List.length_take]; omega)) ?_
   rw [bs_append, show (s.take 0).drop 0 ++ s.drop j = s.drop j by simp]
   refine RQ.pureS rfl rfl rfl rfl (OpP.assign rfl) ?_
   refine RQ.pureS rfl rfl rfl rfl (OpP.assign rfl) ?_
   refine RQ.done rfl ?_
   refine xu [0, 1, 2, 6, 7, 20] rfl ?_
   refine G.ret Tryd.func10 rfl rfl ?_
   exact ⟨_, rfl, rfl, rfl⟩
theorem ins_calls {h : Heap} (s x : By) (hs : s.length ≤ 1000000) (hx : x.length ≤ 1000000) :
 CallsH Tryd.prog 11 #[.string (bs s), .int .i64 0, .string (bs x)] h (Ret fun r h' => r = (if 16384 < x.length + s.length then .tuple #[.string (bs []), .int .i64 60] else .tuple #[.string (bs (x ++ s)), .int .i64 0]) ∧ h' = h) := by
 have hbs := bs_size s
 have hbx := bs_size x
 refine CallsH.of Tryd.func11 rfl rfl ?_
 refine xrd Tryd.func11 2 [0, 1, 2, 6, 7] rfl ?_
 refine G.seq rfl ?_
 refine G.seq rfl ?_
 refine G.regTo1 [(15, .bool false)] [(0, _), (1, _), (2, _), (6, _), (7, _)] ⟨rfl, rfl, rfl, rfl, rfl, trivial⟩ Tryd.func11 rfl ?_ ?_
 · refine xqm 3 rfl ?_
   refine RW.know (d := 10) (b' := false) rfl (by simp) ?_
   refine xqp 2 rfl rfl (OpP.lenString Tryd.underlying9 rfl) ?_
   refine xqm 2 rfl ?_
   refine RW.done rfl ?_
   exact ⟨rfl, at_bool rfl (by simp <;> omega), rfl, rfl, rfl, rfl, rfl, trivial⟩
 · refine G.cond rfl rfl (fun hc => absurd hc (by decide)) (fun _ => ?_)
   refine G.skip rfl ?_
   refine G.seq rfl ?_
   refine G.seq rfl ?_
   refine G.regTo1 [(26, .bool (decide (16384 < x.length + s.length)))] [(0, _), (1, _), (2, _), (6, _), (7, _), (15, _)] ⟨rfl, rfl, rfl, rfl, rfl, rfl, trivial⟩ Tryd.func11 rfl ?_ ?_
   · refine xqp 1 rfl rfl (OpP.lenString Tryd.underlying9 rfl) ?_
     refine xqm 2 rfl ?_
     refine RW.split (d := 19) rfl (fun c1 => ?_) (fun c1 => ?_)
     · have c1' := of_decide_eq_true c1
       refine xqm 7 rfl ?_
       refine RW.done rfl ?_
       exact ⟨rfl, at_bool rfl (by rw [decide_eq_true]; omega), rfl, rfl, rfl, rfl, rfl, rfl, trivial⟩
     · have c1' := of_decide_eq_false c1
       refine xqp 1 rfl rfl (OpP.lenString Tryd.underlying9 rfl) ?_
       refine xqp 1 rfl rfl (OpP.lenString Tryd.underlying9 rfl) ?_
       refine xp rfl (OpP.add64 rfl rfl ⟨by omega, by omega⟩) ?_
       refine xqm 2 rfl ?_
       refine RW.done rfl ?_
       exact ⟨rfl, at_bool rfl (by rw [decide_eq_decide]; omega), rfl, rfl, rfl, rfl, rfl, rfl, trivial⟩
   · refine G.ite rfl rfl (fun hc => ?_) (fun hc => ?_)
     · rw [if_pos hc]
       refine xrd Tryd.func11 2 [0, 1, 2, 6, 7, 15, 26] rfl ?_
       refine G.ret Tryd.func11 rfl rfl ?_
       exact ⟨_, rfl, rfl, rfl⟩
     · rw [if_neg hc]
       refine G.skip rfl ?_
       refine G.seq rfl ?_
       refine G.drawQ Tryd.func11 H.mixed rfl (by kernel_rfl) ?_
       refine RQ.pureS rfl rfl rfl rfl (OpP.move rfl) ?_
       refine RQ.pureS rfl rfl rfl rfl (OpP.move rfl) ?_
       refine RQ.pureS rfl rfl rfl rfl (OpP.sliceStrHi Tryd.underlying9 rfl rfl 0 rfl (by omega)) ?_
       rw [bs_part s 0 0 (Nat.le_refl _)]
       refine RQ.pureS rfl rfl rfl rfl (OpP.move rfl) ?_
       refine RQ.pureS rfl rfl rfl rfl (OpP.addStr rfl rfl (by rw [bs_size, bs_size, List.length_drop, List.length_take]; omega)) ?_
       refine RQ.pureS rfl rfl rfl rfl (OpP.move rfl) ?_
       refine RQ.pureS rfl rfl rfl rfl (OpP.move rfl) ?_
       refine RQ.pureS rfl rfl rfl rfl (OpP.sliceStrLo Tryd.underlying9 rfl rfl 0 rfl (by omega)) ?_
       rw [bs_drop, bs_append]
       refine RQ.pureS rfl rfl rfl rfl (OpP.addStr rfl rfl (by rw [bs_size, bs_size, List.length_append, List.length_drop, List.length_drop, List.length_take]; omega)) ?_
       rw [bs_append, show (s.take 0).drop 0 ++ x ++ s.drop 0 = x ++ s by simp]
       refine RQ.pureS rfl rfl rfl rfl (OpP.assign rfl) ?_
       refine RQ.pureS rfl rfl rfl rfl (OpP.assign rfl) ?_
       refine RQ.done rfl ?_
       refine xu [0, 1, 2, 6, 7, 15, 26] rfl ?_
       refine G.ret Tryd.func11 rfl rfl ?_
       exact ⟨_, rfl, rfl, rfl⟩
theorem relexFull_calls {h : Heap} (hg : LxG h) (m n1 n2 : Nat) (hm : m ≤ 255) (hn1 : n1 ≤ 255) (hn2 : n2 ≤ 255) :
 CallsH Tryd.prog 3 #[.int .u8 (m : Nat), .int .u8 (n1 : Nat), .int .u8 (n2 : Nat)] h (Ret fun r h' => r = .bool true ∧ Ext0 h h') := by
 obtain ⟨lim, hl1, hl2⟩ := id hg.sg
 obtain ⟨K, hK⟩ : ∃ K, K = 16384 - m := ⟨_, rfl⟩
 have hKm : K + m = 16384 := by omega
 have hKv : (16384 : Int) - (m : Nat) = (K : Nat) := by omega
 have hzK := zer_len K
 have hzn := zer_len n2
 have hzm := zer_len (m + 1)
 refine CallsH.of Tryd.func3 rfl rfl ?_
 refine xrd Tryd.func3 1 [0, 1, 2, 6] rfl ?_
 refine xra Tryd.func3 1 rfl ?_
 refine xp rfl (OpP.convIn Tryd.underlying5 Tryd.underlying3 rfl (by rw [wrap_i64 ⟨by omega, by omega⟩])) ?_
 refine xp rfl (OpP.sub64 rfl rfl ⟨by omega, by omega⟩) ?_
 rw [hKv]
 refine xo rfl (OpX.makeOnes Tryd.underlying22 H.el5 H.zr5 rfl rfl rfl (by omega) (by decide)) ?_
 rintro _ h1 ⟨rfl, k1, e1⟩
 refine xp rfl (OpP.convBytes Tryd.underlying22 Tryd.underlying5 Tryd.underlying9 rfl (zer_read k1)) ?_
 have hlen : ∀ n, bs (zer n) = ⟨(zer n).toArray⟩ := fun _ => rfl
 rw [← hlen]
 have hg1 := hg.ext0 e1
 obtain ⟨lim1, hl11, hl21⟩ := id hg1.sg
 refine xqd 1 [0, 1, 2, 6, 7] rfl ?_
 refine xr Tryd.func3 rfl ?_
 refine xo rfl (OpX.call (vs := []) Tryd.func8 rfl H.nm8 rfl (CallsH.toX (new_calls hl21 hl11 hg1.tens hg1.rules))) ?_
 rintro lp h2 ⟨hp, e2⟩
 refine xo rfl (OpX.call (vs := [_, _]) Tryd.func7 rfl H.nm7 rfl (CallsH.toX (docNew_calls (hg1.ext0 e2) hp [] (by decide)))) ?_
 rintro _ h3 ⟨⟨b, rfl, hb, hd⟩, e3⟩
 have e03 : Ext0 h h3 := (e1.trans e2).trans e3
 have z1 := e1.size
 have z2 := e2.size
 have hb0 : h.size ≤ b := by omega
 have hed := edit_calls hd (zer K) 0 0 (Nat.le_refl _) (Nat.zero_le _) (Nat.zero_le _) (by rw [zer_len]; simp; omega)
 rw [show edP [] 0 0 (zer K) = zer K by simp [edP]] at hed
 refine xqd 1 [0, 1, 2, 6, 7, 8] rfl ?_
 refine G.seq rfl ?_
 refine xra Tryd.func3 2 rfl ?_
 refine xo rfl (OpX.call (vs := [_, _, _, _]) Tryd.func9 rfl H.nm9 rfl (CallsH.toX (hed))) ?_
 rintro _ h4 ⟨⟨rfl, m4, hd4, _⟩, x4⟩
 refine xqd 1 [0, 1, 2, 6, 7, 8, 24] rfl ?_
 refine G.cond rfl rfl (fun hc => absurd hc (by simp)) (fun _ => ?_)
 have e04 : Ext0 h h4 := Ext0.only e03 x4 hb0
 refine G.skip rfl ?_
 refine xra Tryd.func3 2 rfl ?_
 refine xp rfl (OpP.convIn Tryd.underlying5 Tryd.underlying3 rfl (by rw [wrap_i64 ⟨by omega, by omega⟩])) ?_
 refine xqm 1 rfl ?_
 refine xo rfl (OpX.makeOnes Tryd.underlying22 H.el5 H.zr5 rfl rfl rfl (by omega) (by decide)) ?_
 rintro _ h5 ⟨rfl, k5, e5⟩
 refine xp rfl (OpP.convBytes Tryd.underlying22 Tryd.underlying5 Tryd.underlying9 rfl (zer_read k5)) ?_
 rw [← hlen]
 have hd5 := hd4.ext0 e5
 have hK1 : n1 ≤ (zer K).length := by omega
 have hdel := fun g : Heap => del_calls (h := g) (zer K) n1 hK1 (by omega)
 have hdl : ((zer K).drop n1).length = K - n1 := by rw [List.length_drop, zer_len]
 have hins := fun g : Heap => ins_calls (h := g) ((zer K).drop n1) (zer n2) (by omega) (by omega)
 by_cases hfull : 16384 < n2 + (K - n1)
 · have hins2 : ∀ g : Heap, _ := fun g => by have := hins g; rw [if_pos (by omega)] at this; exact this
   refine xo rfl (OpX.call (vs := [_, _, _, _]) Tryd.func9 rfl H.nm9 rfl (CallsH.toX (edit_full hd5 _ 0 n1 (Nat.zero_le _) hK1 (by omega) (by rw [bs_size, zer_len, zer_len]; omega)))) ?_
   rintro _ h5 ⟨rfl, hh⟩
   subst hh
   refine xqd 1 [0, 1, 2, 6, 7, 8, 9, 24] rfl ?_
   refine xra Tryd.func3 2 rfl ?_
   refine xp rfl (OpP.convIn Tryd.underlying5 Tryd.underlying3 rfl (by rw [wrap_i64 ⟨by omega, by omega⟩])) ?_
   refine xo rfl (OpX.call (vs := [_, _, _]) Tryd.func10 rfl H.nm10 rfl (CallsH.toX (hdel _))) ?_
   rintro _ h5 ⟨rfl, hh⟩
   subst hh
   refine xqd 5 [0, 1, 2, 6, 7, 8, 9, 10, 11, 24] rfl ?_
   refine xra Tryd.func3 2 rfl ?_
   refine xo rfl (OpX.makeOnes Tryd.underlying22 H.el5 H.zr5 rfl rfl rfl (by omega) (by decide)) ?_
   rintro _ h6 ⟨rfl, k6, e6⟩
   refine xp rfl (OpP.convBytes Tryd.underlying22 Tryd.underlying5 Tryd.underlying9 rfl (zer_read k6)) ?_
   rw [← hlen]
   refine xo rfl (OpX.call (vs := [_, _, _]) Tryd.func11 rfl H.nm11 rfl (CallsH.toX (hins2 _))) ?_
   rintro _ h6 ⟨rfl, hh⟩
   subst hh
   refine xqd 5 [0, 1, 2, 6, 7, 8, 9, 10, 11, 12, 13, 24] rfl ?_
   refine G.seq rfl ?_
   refine G.seq rfl ?_
   refine G.regTo1 [(63, .bool false)] [(0, _), (1, _), (2, _), (6, _), (7, _), (8, _), (9, _), (10, _), (11, _), (12, _), (13, _), (24, _)] ⟨rfl, rfl, rfl, rfl, rfl, rfl, rfl, rfl, rfl, rfl, rfl, rfl, trivial⟩ Tryd.func3 rfl ?_ ?_
   · refine xqm 3 rfl ?_
     refine RW.know (d := 49) (b' := false) rfl (by simp) ?_
     refine xqp 4 rfl rfl (OpP.neqBool Tryd.underlying4 rfl rfl) ?_
     refine xqm 2 rfl ?_
     refine RW.know (d := 56) (b' := false) rfl (by simp) ?_
     refine xqm 3 rfl ?_
     refine RW.know (d := 59) (b' := true) rfl (by simp) ?_
     refine xqm 4 rfl ?_
     refine RW.done rfl ?_
     exact ⟨rfl, at_bool rfl (by simp), rfl, rfl, rfl, rfl, rfl, rfl, rfl, rfl, rfl, rfl, rfl, rfl, trivial⟩
   · refine G.cond rfl rfl (fun hc => absurd hc (by decide)) (fun _ => ?_)
     refine G.skip rfl ?_
     refine G.seq rfl ?_
     refine xrd Tryd.func3 2 [0, 1, 2, 6, 7, 8, 9, 10, 11, 12, 13, 24, 63, 65] rfl ?_
     refine G.cond rfl rfl (fun _ => ?_) (fun hc => absurd hc (by simp))
     have hd6 := hd5.ext0 e6
     have e06 : Ext0 h h6 := (e04.trans e5).trans e6
     refine G.seq rfl ?_
     refine G.draw (fun _ => False) (fun i => Nat.blt i 20) (sz := 20) (listed := #[false, false, false, false, false, false, false, false, false, false, false, false, false, false, false, false, false, false, false, false]) Tryd.func3 H.mixed rfl rfl rfl ?_
     refine xtq 0 1 (by kernel_rfl) rfl ?_
     refine xtq 2 5 (by kernel_rfl) rfl ?_
     refine xto 1 7 (by kernel_rfl) rfl (OpX.call (vs := [_]) Tryd.func12 rfl H.nm12 rfl (CallsH.toX (text_calls hd6))) ?_
     rintro _ h6 ⟨rfl, hh⟩
     refine ⟨fun _ => by rw [hh]; exact Ext.refl _ _, ?_⟩
     subst hh
     refine xtp 3 15 (by kernel_rfl) rfl (fun h' e => OpP.eqlStr rfl rfl) ?_
     refine xtq 4 31 (by kernel_rfl) rfl ?_
     refine RD.know (d := 70) (b' := true) rfl (by simp) ?_
     have hg6 := hg.ext0 e06
     obtain ⟨lim6, hl16, hl26⟩ := id hg6.sg
     refine xtq 6 95 (by kernel_rfl) rfl ?_
     refine xtq 7 223 (by kernel_rfl) rfl ?_
     refine xtp 8 479 (by kernel_rfl) rfl (fun h' e => OpP.convIn Tryd.underlying5 Tryd.underlying3 rfl (by rw [wrap_i64 ⟨by omega, by omega⟩])) ?_
     refine xtp 9 991 (by kernel_rfl) rfl (fun h' e => OpP.add64 rfl rfl ⟨by omega, by omega⟩) ?_
     rw [show (m : Int) + 1 = ((m + 1 : Nat) : Int) by omega]
     refine RD.twoS 5 10 (li := #[true, true, true, true, true, true, true, true, true, true, false, false, false, false, false, false, false, false, false, false]) (lj := #[true, true, true, true, true, false, true, true, true, true, true, false, false, false, false, false, false, false, false, false]) rfl rfl (by kernel_rfl) rfl rfl rfl rfl rfl rfl (OpX.call (vs := []) Tryd.func8 rfl H.nm8 rfl (CallsH.toX (new_calls hl26 hl16 hg6.tens hg6.rules))) (OpX.makeOnes Tryd.underlying22 H.el5 H.zr5 rfl rfl rfl (by omega) (by decide)) (by kernel_rfl) (by kernel_rfl) ?_ ?_
     · rintro lp2 w1 ⟨hlp, f1⟩
       refine ⟨fun _ => f1, ?_⟩
       refine xto 10 2047 (by kernel_rfl) rfl (OpX.makeOnes Tryd.underlying22 H.el5 H.zr5 rfl rfl rfl (by omega) (by decide)) ?_
       rintro _ w2 ⟨rfl, k7, f2⟩
       refine ⟨fun _ => f2, ?_⟩
       refine xtp 11 4095 (by kernel_rfl) rfl (fun h' e => OpP.convBytes Tryd.underlying22 Tryd.underlying5 Tryd.underlying9 rfl (zer_read (k7.ext0' e))) ?_
       rw [← hlen]
       refine xtp 12 8191 (by kernel_rfl) rfl (fun h' e => OpP.addStr rfl rfl (by rw [bs_size, bs_size]; omega)) ?_
       rw [bs_append]
       obtain ⟨lb, vm, rfl, _, _⟩ := id hlp
       refine xto 13 16383 (by kernel_rfl) rfl (OpX.call (vs := [_, _]) Tryd.func7 rfl H.nm7 rfl (CallsH.toX (docNew_long _ (by rw [bs_size, List.length_append, zer_len, zer_len]; omega)))) ?_
       rintro _ w3 ⟨rfl, hw3⟩
       refine ⟨fun _ => by rw [hw3]; exact Ext.refl _ _, ?_⟩
       subst hw3
       refine xtp 14 32767 (by kernel_rfl) rfl (fun h' e => OpP.eqlNil Tryd.underlying23 rfl rfl) ?_
       refine xtq 15 65535 (by kernel_rfl) rfl ?_
       refine xtq 16 131071 (by kernel_rfl) rfl ?_
       refine RD.know (d := 82) (b' := true) rfl (rfl) ?_
       refine xto 17 262143 (by kernel_rfl) rfl (OpX.call (vs := []) Tryd.func13 rfl H.nm13 rfl (CallsH.toX (relexed_calls (hg.ext0 ((e06.trans f1).trans f2))))) ?_
       rintro _ w4 ⟨rfl, f4⟩
       refine ⟨fun _ => f4, ?_⟩
       refine xtq 18 524287 (by kernel_rfl) rfl ?_
       refine xtq 19 1048575 (by kernel_rfl) rfl ?_
       refine RD.done (by kernel_rfl) ?_
       refine xu [0, 1, 2, 6, 7, 8, 9, 10, 11, 12, 13, 24, 63, 65] rfl ?_
       refine G.ret Tryd.func3 rfl rfl ?_
       exact ⟨_, rfl, rfl, ((e06.trans f1).trans f2).trans f4⟩
     · rintro _ w1 ⟨rfl, k7, f1⟩
       refine ⟨fun _ => f1, ?_⟩
       refine xtp 11 4063 (by kernel_rfl) rfl (fun h' e => OpP.convBytes Tryd.underlying22 Tryd.underlying5 Tryd.underlying9 rfl (zer_read (k7.ext0' e))) ?_
       rw [← hlen]
       refine xtp 12 8159 (by kernel_rfl) rfl (fun h' e => OpP.addStr rfl rfl (by rw [bs_size, bs_size]; omega)) ?_
       rw [bs_append]
       have hg7 := hg6.ext0 f1
       obtain ⟨lim7, hl17, hl27⟩ := id hg7.sg
       refine xto 5 8191 (by kernel_rfl) rfl (OpX.call (vs := []) Tryd.func8 rfl H.nm8 rfl (CallsH.toX (new_calls hl27 hl17 hg7.tens hg7.rules))) ?_
       rintro lp2 w2 ⟨hlp, f2⟩
       refine ⟨fun _ => f2, ?_⟩
       obtain ⟨lb, vm, rfl, _, _⟩ := id hlp
       refine xto 13 16383 (by kernel_rfl) rfl (OpX.call (vs := [_, _]) Tryd.func7 rfl H.nm7 rfl (CallsH.toX (docNew_long _ (by rw [bs_size, List.length_append, zer_len, zer_len]; omega)))) ?_
       rintro _ w3 ⟨rfl, hw3⟩
       refine ⟨fun _ => by rw [hw3]; exact Ext.refl _ _, ?_⟩
       subst hw3
       refine xtp 14 32767 (by kernel_rfl) rfl (fun h' e => OpP.eqlNil Tryd.underlying23 rfl rfl) ?_
       refine xtq 15 65535 (by kernel_rfl) rfl ?_
       refine xtq 16 131071 (by kernel_rfl) rfl ?_
       refine RD.know (d := 82) (b' := true) rfl (rfl) ?_
       refine xto 17 262143 (by kernel_rfl) rfl (OpX.call (vs := []) Tryd.func13 rfl H.nm13 rfl (CallsH.toX (relexed_calls (hg.ext0 ((e06.trans f1).trans f2))))) ?_
       rintro _ w4 ⟨rfl, f4⟩
       refine ⟨fun _ => f4, ?_⟩
       refine xtq 18 524287 (by kernel_rfl) rfl ?_
       refine xtq 19 1048575 (by kernel_rfl) rfl ?_
       refine RD.done (by kernel_rfl) ?_
       refine xu [0, 1, 2, 6, 7, 8, 9, 10, 11, 12, 13, 24, 63, 65] rfl ?_
       refine G.ret Tryd.func3 rfl rfl ?_
       exact ⟨_, rfl, rfl, ((e06.trans f1).trans f2).trans f4⟩
 · have hins2 : ∀ g : Heap, _ := fun g => by have := hins g; rw [if_neg (by omega)] at this; exact this
   have hed2 := edit_calls hd5 (zer n2) 0 n1 (Nat.zero_le _) hK1 (by omega) (by omega)
   rw [show edP (zer K) 0 n1 (zer n2) = zer n2 ++ (zer K).drop n1 by simp [edP]] at hed2
   refine xo rfl (OpX.call (vs := [_, _, _, _]) Tryd.func9 rfl H.nm9 rfl (CallsH.toX (hed2))) ?_
   rintro _ h6 ⟨⟨rfl, m6, hd6, _⟩, x6⟩
   have e06 : Ext0 h h6 := Ext0.only (e04.trans e5) x6 hb0
   refine xqd 1 [0, 1, 2, 6, 7, 8, 9, 24] rfl ?_
   refine xra Tryd.func3 2 rfl ?_
   refine xp rfl (OpP.convIn Tryd.underlying5 Tryd.underlying3 rfl (by rw [wrap_i64 ⟨by omega, by omega⟩])) ?_
   refine xo rfl (OpX.call (vs := [_, _, _]) Tryd.func10 rfl H.nm10 rfl (CallsH.toX (hdel _))) ?_
   rintro _ h6 ⟨rfl, hh⟩
   subst hh
   refine xqd 5 [0, 1, 2, 6, 7, 8, 9, 10, 11, 24] rfl ?_
   refine xra Tryd.func3 2 rfl ?_
   refine xo rfl (OpX.makeOnes Tryd.underlying22 H.el5 H.zr5 rfl rfl rfl (by omega) (by decide)) ?_
   rintro _ h7 ⟨rfl, k7, e7⟩
   refine xp rfl (OpP.convBytes Tryd.underlying22 Tryd.underlying5 Tryd.underlying9 rfl (zer_read k7)) ?_
   rw [← hlen]
   refine xo rfl (OpX.call (vs := [_, _, _]) Tryd.func11 rfl H.nm11 rfl (CallsH.toX (hins2 _))) ?_
   rintro _ h7 ⟨rfl, hh⟩
   subst hh
   refine xqd 5 [0, 1, 2, 6, 7, 8, 9, 10, 11, 12, 13, 24] rfl ?_
   refine G.seq rfl ?_
   refine G.seq rfl ?_
   refine G.regTo1 [(63, .bool false)] [(0, _), (1, _), (2, _), (6, _), (7, _), (8, _), (9, _), (10, _), (11, _), (12, _), (13, _), (24, _)] ⟨rfl, rfl, rfl, rfl, rfl, rfl, rfl, rfl, rfl, rfl, rfl, rfl, trivial⟩ Tryd.func3 rfl ?_ ?_
   · refine xqm 3 rfl ?_
     refine RW.know (d := 49) (b' := false) rfl (by simp) ?_
     refine xqp 4 rfl rfl (OpP.neqBool Tryd.underlying4 rfl rfl) ?_
     refine xqm 2 rfl ?_
     refine RW.know (d := 56) (b' := false) rfl (by simp) ?_
     refine xqm 3 rfl ?_
     refine RW.know (d := 59) (b' := false) rfl (by simp) ?_
     refine xqm 4 rfl ?_
     refine RW.done rfl ?_
     exact ⟨rfl, at_bool rfl (by simp), rfl, rfl, rfl, rfl, rfl, rfl, rfl, rfl, rfl, rfl, rfl, rfl, trivial⟩
   · refine G.cond rfl rfl (fun hc => absurd hc (by decide)) (fun _ => ?_)
     refine G.skip rfl ?_
     refine G.seq rfl ?_
     refine xrd Tryd.func3 2 [0, 1, 2, 6, 7, 8, 9, 10, 11, 12, 13, 24, 63, 65] rfl ?_
     refine G.cond rfl rfl (fun hc => absurd hc (by simp)) (fun _ => ?_)
     have hd7 := hd6.ext0 e7
     refine G.skip rfl ?_
     refine xra Tryd.func3 1 rfl ?_
     refine xo rfl (OpX.call (vs := [_]) Tryd.func12 rfl H.nm12 rfl (CallsH.toX (text_calls hd7))) ?_
     rintro _ h7 ⟨rfl, hh⟩
     subst hh
     refine xqp 1 rfl rfl (OpP.eqlStr rfl rfl) ?_
     refine xqm 1 rfl ?_
     refine RW.know (d := 89) (b' := true) rfl (by simp) ?_
     refine xo rfl (OpX.call (vs := []) Tryd.func13 rfl H.nm13 rfl (CallsH.toX (relexed_calls (hg.ext0 (e06.trans e7))))) ?_
     rintro _ h8 ⟨rfl, e8⟩
     refine xqd 2 [0, 1, 2, 6, 7, 8, 9, 10, 11, 12, 13, 24, 63, 65] rfl ?_
     refine G.ret Tryd.func3 rfl rfl ?_
     exact ⟨_, rfl, rfl, (e06.trans e7).trans e8⟩
end Go.Proofs.YtlkmlfofhbekoaaDoor
