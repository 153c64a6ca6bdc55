/- The library's functions on texts, as the shelf tells them, on heaps; what the package variables hold. -/
import Derived.Test.YtmbikkapabljfaaDoorScrQ
import Derived.Test.YtmbikkapabljfaaDoorShelf
import Derived.Test.YtmbikkapabljfaaDoorHead
namespace Go.Proofs.YtmbikkapabljfaaDoor
open Go Go.Lw Go.RowKit
set_option maxRecDepth 20000

/-- What the package variables hold that the library's functions read. -/
structure Glob (h : Heap) : Prop where
  most : ∃ m, cellAt h ⟨1, 0, none⟩ = some (.int .i64 m)
  syn : ∃ ev, cellAt h ⟨5, 0, none⟩ = some ev ∧ (ev = .nilIface ∨ ∃ te pe, ev = .iface te pe)
  rng : ∃ ev, cellAt h ⟨6, 0, none⟩ = some ev ∧ (ev = .nilIface ∨ ∃ te pe, ev = .iface te pe)
  tab : varAt Tryd.prog h "internal/strconv.uint64pow10" = some (Lib.pow10Tab.map fun z => Value.int .u64 z).toArray

theorem Glob.ext0 {h h' : Heap} (k : Glob h) (e : Ext0 h h') : Glob h' := by
  obtain ⟨⟨m, h1⟩, ⟨e1, h2, h2'⟩, ⟨e2, h3, h3'⟩, h4⟩ := k
  exact ⟨⟨m, e.cell (fun k => k) h1⟩, ⟨e1, e.cell (fun k => k) h2, h2'⟩, ⟨e2, e.cell (fun k => k) h3, h3'⟩, varAt_ext0 e h4⟩

theorem indexByte_calls {h : Heap} (s : ByteArray) (c : Int) : CallsH Tryd.prog 68 #[.string s, .int .u8 c] h (Ret fun r h' => r = .int .i64 (Lib.indexByte s.data.toList c.toNat.toUInt8) ∧ h' = h) :=
  CallsH.ofCalls fun w => Tryd.strings_IndexByte s c w

theorem cut_calls {h : Heap} (hg : Glob h) (s : ByteArray) (c : UInt8) (sep : ByteArray) (hsep : sep.data.toList = [c]) (hs : s.size < 4294967281) :
    CallsH Tryd.prog 20 #[.string s, .string sep] h (Ret fun r h' => r = .tuple #[.string ⟨(Lib.cut s.data.toList [c]).1.toArray⟩, .string ⟨(Lib.cut s.data.toList [c]).2.1.toArray⟩, .bool (Lib.cut s.data.toList [c]).2.2] ∧ h' = h) := by
  obtain ⟨m, hm⟩ := hg.most
  refine CallsH.ofBelow fun w hw => ?_
  subst hw
  refine (Tryd.strings_Cut s sep m w hs hm).mono ?_
  rintro e w' ⟨rfl, n, rfl⟩
  rw [hsep]
  exact ⟨_, rfl, ⟨rfl, rfl⟩, rfl, rfl, rfl⟩

theorem split_calls {h : Heap} (hg : Glob h) (s : ByteArray) (c : UInt8) (sep : ByteArray) (hsep : sep.data.toList = [c]) (hs : s.size < 4294967281) :
    CallsH Tryd.prog 41 #[.string s, .string sep] h (Ret fun r h' => ∃ l, l.map (fun x : ByteArray => x.data.toList) = splitS c s.data.toList ∧ OwE Value.string h' h.size 9 r l ∧ Ext0 h h') := by
  obtain ⟨m, hm⟩ := hg.most
  have hz : sep.size = 1 := by have := congrArg List.length hsep; simpa using this
  refine CallsH.ofBelow fun w hw => ?_
  subst hw
  refine (Tryd.strings_Split s sep m w hs hm (by omega)).mono ?_
  rintro e w' ⟨rfl, rfl⟩
  have hl := Lib.splitB_all sep (by omega) 0 _ s rfl
  have hd := Lib.splitB_data sep 0 (Lib.countB s sep) s
  have hle := Lib.countB_le sep (by omega) s.size s (Nat.le_refl _)
  refine ⟨_, rfl, ⟨Lib.splitB sep 0 (Lib.countB s sep) s, ?_, ?_, Ext.push _ _ _⟩, rfl, rfl, rfl⟩
  · rw [hd, hsep]
    have : Lib.countB s sep = Lib.count s.data.toList [c] := by rw [← hsep, Lib.countB]
    rw [this, split_one]
  · exact OwE.made Value.string w.heap 9 _ _ hl (by simp only [maxLen]; omega) _ (Nat.le_refl _) rfl

theorem itoa_calls {h : Heap} (hg : Glob h) (n : Int) (hn : -9223372036854775808 ≤ n ∧ n ≤ 9223372036854775807) :
    CallsH Tryd.prog 25 #[.int .i64 n] h (Ret fun r h' => r = .string ⟨(Lib.itoa n).toArray⟩ ∧ Ext0 h h') := by
  refine CallsH.ofBelow fun w hw => ?_
  subst hw
  refine (Tryd.strconv_Itoa n hn.1 hn.2 w hg.tab).mono ?_
  rintro e w' ⟨rfl, k, os, rfl⟩
  refine ⟨_, rfl, ⟨rfl, ?_⟩, rfl, rfl, rfl⟩
  refine ⟨by simp [Go.Sort.grow], fun b hb _ => ?_⟩
  simp [Go.Sort.grow, Array.getElem?_append_left hb]

theorem atoi_calls {h : Heap} (hg : Glob h) (s : ByteArray) (hs : s.size ≤ 1000000000) :
    CallsH Tryd.prog 69 #[.string s] h (Ret fun r h' => (∃ ev, r = .tuple #[.int .i64 (numP s.data.toList).1, ev] ∧ ((∃ v, Lib.atoiAll s.data.toList = .ok v ∧ ev = .nilIface) ∨ ((∀ v, Lib.atoiAll s.data.toList ≠ .ok v) ∧ ∃ t p, ev = .iface t p))) ∧ Ext0 h h') := by
  obtain ⟨e1, h1, h1'⟩ := hg.syn
  obtain ⟨e2, h2, h2'⟩ := hg.rng
  refine CallsH.ofBelow fun w hw => ?_
  subst hw
  unfold numP
  match ha : Lib.atoiAll s.data.toList with
  | .ok v =>
    refine (Tryd.strconv_Atoi_ok s (by omega) v ha w).mono ?_
    rintro e w' ⟨rfl, rfl | ⟨t, rfl⟩⟩
    · exact ⟨_, rfl, ⟨⟨_, rfl, .inl ⟨v, rfl, rfl⟩⟩, Ext.refl _ _⟩, rfl, rfl, rfl⟩
    · have hb := Lib.bytesWorld_below w 5 t
      exact ⟨_, rfl, ⟨⟨_, rfl, .inl ⟨v, rfl, rfl⟩⟩, Ext0.below hb⟩, hb.os, hb.tape, hb.output⟩
  | .syntax =>
    refine (Tryd.strconv_Atoi_syntax s (by omega) ha e1 w h1 h1').mono ?_
    rintro e w' ⟨N, rfl, _, _, hb⟩
    exact ⟨_, rfl, ⟨⟨_, rfl, .inr ⟨(fun v hv => by cases hv), _, _, rfl⟩⟩, Ext0.below hb⟩, hb.os, hb.tape, hb.output⟩
  | .range =>
    refine (Tryd.strconv_Atoi_range s (by omega) ha e2 w h2 h2').mono ?_
    rintro e w' ⟨N, rfl, _, _, hb⟩
    exact ⟨_, rfl, ⟨⟨_, rfl, .inr ⟨(fun v hv => by cases hv), _, _, rfl⟩⟩, Ext0.below hb⟩, hb.os, hb.tape, hb.output⟩

end Go.Proofs.YtmbikkapabljfaaDoor
