/- limnerlaw19.killed, KillsRing. -/
import Derived.Test.YtdiaedohhnbonaaKills2
namespace Go.Proofs.Ytdiaedohhnbonaa
open Go Go.Lw

def nobody : Nat → Prop := fun _ => False

theorem add_read {h : Heap} {O : Nat → Prop} {v : Value} {l : List ByteArray} {s : ByteArray} (way : Int) (hv : SlR .str h O v l) (hl : l.length ≤ 1000000) (hs : s.size ≤ 1000000) (hls : ∀ x ∈ l, x.size ≤ 1000000) :
    CallsH Try.prog 6 #[v, .string s, .int .i64 way] h (Ret fun r h' => SlR .str h' nobody r (add l s way) ∧ Ext0 h h') :=
  (add_calls way hv hl hs hls).ret fun _ _ ⟨ho, he⟩ => ⟨ho.shut (fun _ _ k => k), he⟩

theorem turn_read {h : Heap} {O : Nat → Prop} {v : Value} {l : List ByteArray} (hv : SlR .str h O v l) (hl : l.length ≤ 1000000) :
    CallsH Try.prog 7 #[v] h (Ret fun r h' => SlR .str h' nobody r (turn l) ∧ Ext0 h h') :=
  (turn_calls hv hl).ret fun _ _ ⟨ho, he⟩ => ⟨ho.shut (fun _ _ k => k), he⟩

theorem texts_true {h : Heap} {O O' : Nat → Prop} {v v' : Value} {l l' : List ByteArray} (hv : SlR .str h O v l) (hv' : SlR .str h O' v' l') (e : l = l') :
    CallsH Try.prog 8 #[v, v'] h (Ret fun r h' => r = .bool true ∧ h' = h) :=
  (texts_calls hv hv').ret fun _ _ ⟨ho, he⟩ => ⟨ho.trans (by simp [e]), he⟩

theorem made_read {h : Heap} {us : List ByteArray} {n : Nat} (hl : us.length = n) (hn : n ≤ maxLen) : SlR .str (h.push (.cells (us.map Value.string).toArray 9)) nobody (.slice (some ⟨h.size, 0, none⟩) n n) us :=
  (OwnH.made h (us.map .string) 9 n (by simpa using hl) hn h.size (Nat.le_refl _)).shut (fun _ _ k => k)

theorem killed_calls (h : Heap) : CallsH Try.prog 5 #[] h (Ret fun r h' => r = .bool true ∧ Ext0 h h') := by
  have e1 : add [] ⟨#[97]⟩ 0 = [⟨#[97]⟩] := by decide +kernel
  have e2 : add [⟨#[97]⟩] ⟨#[98]⟩ 1 = [⟨#[97, 98]⟩] := by decide +kernel
  have e3 : add [⟨#[97, 98]⟩] ⟨#[99]⟩ (-1) = [⟨#[99, 97, 98]⟩] := by decide +kernel
  have e4 : add [⟨#[99, 97, 98]⟩] ⟨#[100]⟩ 0 = [⟨#[100]⟩, ⟨#[99, 97, 98]⟩] := by decide +kernel
  have e5 : turn [⟨#[100]⟩, ⟨#[99, 97, 98]⟩] = [⟨#[99, 97, 98]⟩, ⟨#[100]⟩] := rfl
  refine CallsH.of Try.func5 rfl rfl ?_
  refine G.seq rfl ?_
  refine G.reg Try.func5 rfl ?_
  refine RW.pureS rfl rfl rfl rfl (OpP.assign rfl) ?_
  refine RW.done rfl ?_
  refine G.sub (ρ' := [(0, _)]) ⟨rfl, trivial⟩ ?_
  refine G.seq rfl ?_
  refine G.reg Try.func5 rfl ?_
  refine RW.opS rfl rfl rfl rfl (OpX.call (vs := [_, _, _]) Try.func6 rfl H.nm6 rfl (CallsH.toX (add_read 0 (SlR.nil .str h nobody) (by simp) (by decide) (by simp)))) ?_
  rintro v1 h1 ⟨hv1, he1⟩
  rw [e1] at hv1
  refine RW.opS rfl rfl rfl rfl (OpX.call (vs := [_, _, _]) Try.func6 rfl H.nm6 rfl (CallsH.toX (add_read 1 hv1 (by simp) (by decide) (by simp; decide)))) ?_
  rintro v2 h2 ⟨hv2, he2⟩
  rw [e2] at hv2
  refine RW.opS rfl rfl rfl rfl (OpX.call (vs := [_, _, _]) Try.func6 rfl H.nm6 rfl (CallsH.toX (add_read (-1) hv2 (by simp) (by decide) (by simp; decide)))) ?_
  rintro v3 h3 ⟨hv3, he3⟩
  refine RW.pureS rfl rfl rfl rfl (OpP.assign rfl) ?_
  refine RW.done rfl ?_
  refine G.sub (ρ' := [(0, _), (1, _)]) ⟨rfl, rfl, trivial⟩ ?_
  refine G.seq rfl ?_
  refine G.reg Try.func5 rfl ?_
  refine RW.pureS rfl rfl rfl rfl (OpP.move rfl) ?_
  rw [e3] at hv3
  refine RW.opS rfl rfl rfl rfl (OpX.call (vs := [_, _, _]) Try.func6 rfl H.nm6 rfl (CallsH.toX (add_read 0 hv3 (by simp) (by decide) (by simp; decide)))) ?_
  rintro v4 h4 ⟨hv4, he4⟩
  refine RW.pureS rfl rfl rfl rfl (OpP.assign rfl) ?_
  refine RW.done rfl ?_
  refine G.sub (ρ' := [(0, _), (1, _), (2, _)]) ⟨rfl, rfl, rfl, trivial⟩ ?_
  refine G.seq rfl ?_
  rw [e4] at hv4
  have hv34 := hv3.ext0 he4
  refine G.regToX (fun (_u : Unit) (h' : Heap) => Ext0 h4 h') (fun (_u : Unit) => [(0, .bool true)]) [(1, _), (2, _)] ⟨rfl, rfl, trivial⟩ Try.func5 rfl ?_ ?_
  · refine RW.pureS rfl rfl rfl rfl (OpP.move rfl) ?_
    refine RW.opS rfl rfl rfl rfl (OpX.buildOnes (us := [_]) Try.underlying22 H.el9 rfl rfl (by decide) (by simp [Value.oneCell'])) ?_
    rintro _ _ ⟨rfl, rfl⟩
    have hp := Ext.push (fun _ => False) h4 (.cells [Value.string ⟨#[99, 97, 98]⟩].toArray 9)
    refine RW.opS rfl rfl rfl rfl (OpX.call (vs := [_, _]) Try.func8 rfl H.nm8 rfl (CallsH.toX (texts_true (hv34.ext0 hp) (made_read (us := [⟨#[99, 97, 98]⟩]) rfl (by decide)) rfl))) ?_
    rintro _ _ ⟨rfl, rfl⟩
    refine RW.pureS rfl rfl rfl rfl (OpP.move rfl) ?_
    refine RW.pureS rfl rfl rfl rfl (OpP.move rfl) ?_
    refine RW.opS rfl rfl rfl rfl (OpX.buildOnes (us := [_, _]) Try.underlying22 H.el9 rfl rfl (by decide) (by simp [Value.oneCell'])) ?_
    rintro _ _ ⟨rfl, rfl⟩
    have hp2 := hp.trans (Ext.push (fun _ => False) _ (.cells [Value.string ⟨#[100]⟩, Value.string ⟨#[99, 97, 98]⟩].toArray 9))
    refine RW.opS rfl rfl rfl rfl (OpX.call (vs := [_, _]) Try.func8 rfl H.nm8 rfl (CallsH.toX (texts_true (hv4.ext0 hp2) (made_read (us := [⟨#[100]⟩, ⟨#[99, 97, 98]⟩]) rfl (by decide)) rfl))) ?_
    rintro _ _ ⟨rfl, rfl⟩
    refine RW.pureS rfl rfl rfl rfl (OpP.pickT rfl rfl) ?_
    refine RW.pureS rfl rfl rfl rfl (OpP.move rfl) ?_
    refine RW.pureS rfl rfl rfl rfl (OpP.move rfl) ?_
    refine RW.opS rfl rfl rfl rfl (OpX.call (vs := [_]) Try.func7 rfl H.nm7 rfl (CallsH.toX (turn_read (hv4.ext0 hp2) (by simp)))) ?_
    rintro v5 h5 ⟨hv5, he5⟩
    refine RW.opS rfl rfl rfl rfl (OpX.buildOnes (us := [_, _]) Try.underlying22 H.el9 rfl rfl (by decide) (by simp [Value.oneCell'])) ?_
    rintro _ _ ⟨rfl, rfl⟩
    rw [e5] at hv5
    have hp3 := Ext.push (fun _ => False) h5 (.cells [Value.string ⟨#[99, 97, 98]⟩, Value.string ⟨#[100]⟩].toArray 9)
    refine RW.opS rfl rfl rfl rfl (OpX.call (vs := [_, _]) Try.func8 rfl H.nm8 rfl (CallsH.toX (texts_true (hv5.ext0 hp3) (made_read (us := [⟨#[99, 97, 98]⟩, ⟨#[100]⟩]) rfl (by decide)) rfl))) ?_
    rintro _ _ ⟨rfl, rfl⟩
    refine RW.pureS rfl rfl rfl rfl (OpP.pickT rfl rfl) ?_
    refine RW.pureS rfl rfl rfl rfl (OpP.assign rfl) ?_
    refine RW.done rfl ?_
    exact ⟨(), hp2.trans (he5.trans hp3), rfl, rfl, rfl, trivial⟩
  · rintro _ h' he
    refine G.ret Try.func5 rfl rfl ?_
    exact ⟨_, rfl, rfl, he1.trans (he2.trans (he3.trans (he4.trans he)))⟩

end Go.Proofs.Ytdiaedohhnbonaa
