/- limnerlaw27.ScriptAgain. -/
import Derived.Test.YtmbikkapabljfaaDoorScr15
namespace Go.Proofs.YtmbikkapabljfaaDoor
open Go Go.Lw
set_option maxRecDepth 20000

theorem get_two {h : Heap} (hg : Glob h) (s : ByteArray) (hs : s.size ≤ 1000000) :
    CallsH Tryd.prog 12 #[.string s] h (Ret fun r h' => (∃ (v : Value) (m : Nat) (e : Int), r = .tuple #[v, .int .i64 m, .int .i64 e] ∧
      ((e = 10 ∧ v = .slice none 0 0 ∧ getS s.data.toList = .inl m) ∨ (e = 0 ∧ m = 0 ∧ ∃ l, getS s.data.toList = .inr l ∧ SlR eStep h' (fun _ => False) v l))) ∧ Ext0 h h') := by
  refine (get_calls hg s hs).ret ?_
  rintro r h' ⟨ho, he⟩
  cases hgs : getS s.data.toList with
  | inl m => rw [hgs] at ho; exact ⟨⟨_, m, 10, ho, .inl ⟨rfl, rfl, rfl⟩⟩, he⟩
  | inr l => rw [hgs] at ho; obtain ⟨v, hr, hv⟩ := ho; exact ⟨⟨v, 0, 0, hr, .inr ⟨rfl, rfl, l, rfl, hv⟩⟩, he⟩

theorem splitS_count (c : UInt8) (s : Bs) : (splitS c s).length ≤ s.length + 1 := by
  induction s using split_ind (c := c) with
  | h1 s h => rw [splitS_none h]; simp
  | h2 a r h ih => rw [splitS_hit r h]; simp; omega

theorem stepS_text {line : Bs} {x : Stp} (h : stepS line = some x) : x.text.length ≤ line.length := by
  have hp := (step_put h).1
  have hl := congrArg List.length hp
  have hk : x.text.length ≤ x.text.length := Nat.le_refl _
  unfold stepS at h
  split at h
  · cases h; simp
  · split at h
    · rename_i a b hs
      split at h
      · rename_i hc
        cases h
        have hq := unquoteP_ok hc.2
        have hj := joinS_split 32 line
        rw [hs] at hj
        have h1 := congrArg List.length hj
        simp only [joinS, List.length_append, List.length_cons] at h1
        have h2 := congrArg List.length hq
        have h3 : (unquoteP b).1.length ≤ (quoteL (unquoteP b).1).length := by
          have key : ∀ t : Bs, t.length ≤ (t.flatMap esc).length := by
            intro t
            induction t with
            | nil => simp
            | cons c t ih =>
              rw [List.flatMap_cons, List.length_append, List.length_cons]
              have : 1 ≤ (esc c).length := by unfold esc; split <;> simp
              omega
          have := key (unquoteP b).1
          simp only [quoteL, List.length_append, List.length_cons]; omega
        show (unquoteP b).1.length ≤ line.length
        omega
      · cases h
    · split at h
      · cases h; simp
      · cases h
    · cases h

theorem getL_fine : ∀ (w : List Bs) (n : Nat) (l : List Stp) (k : Nat), (∀ x ∈ w, x.length ≤ k) → getL stepS n w = .inr l → l.length ≤ w.length ∧ ∀ x ∈ l, x.Ok ∧ x.text.length ≤ k
  | [], n, l, k, _, h => by cases h; simp
  | [x], n, l, k, _, h => by
    rw [getL] at h
    split at h
    · cases h; simp
    · cases h
  | x :: y :: r, n, l, k, hk, h => by
    rw [getL] at h
    cases hf : stepS x with
    | none => rw [hf] at h; cases h
    | some a =>
      rw [hf] at h
      simp only at h
      cases hg : getL stepS (n + 1) (y :: r) with
      | inl m => rw [hg] at h; cases h
      | inr m =>
        rw [hg] at h
        cases h
        obtain ⟨h1, h2⟩ := getL_fine (y :: r) (n + 1) m k (fun z hz => hk z (by simp [hz])) hg
        refine ⟨by simp at h1 ⊢; omega, fun z hz => ?_⟩
        rcases List.mem_cons.1 hz with rfl | hz
        · exact ⟨(step_put hf).2, Nat.le_trans (stepS_text hf) (hk x (by simp))⟩
        · exact h2 z hz

theorem getS_fine {s : Bs} {l : List Stp} (hs : s.length ≤ 9000) (h : getS s = .inr l) : l.length ≤ 10000 ∧ ∀ x ∈ l, Fine x := by
  obtain ⟨h1, h2⟩ := getL_fine _ 0 l s.length (splitS_mem s) h
  have := splitS_count 10 s
  exact ⟨by omega, fun x hx => ⟨(h2 x hx).1, by have := (h2 x hx).2; omega⟩⟩

theorem again_calls {h : Heap} (hg : Glob h) (s : ByteArray) : CallsH Tryd.prog 5 #[.string s] h (Ret fun r h' => r = .bool true ∧ Ext0 h h') := by
  have hls : s.data.toList.length = s.size := by simp
  refine CallsH.of Tryd.func5 rfl rfl ?_
  refine G.seq rfl ?_
  refine G.reg Tryd.func5 rfl ?_
  refine RW.pureS rfl rfl rfl rfl (OpP.assign rfl) ?_
  refine RW.done rfl ?_
  refine G.sub (ρ' := [(0, _), (2, _)]) ⟨rfl, rfl, trivial⟩ ?_
  refine G.seq rfl ?_
  refine G.seq rfl ?_
  refine G.reg Tryd.func5 rfl ?_
  refine RW.pureS rfl rfl rfl rfl (OpP.move rfl) ?_
  refine RW.pureS rfl rfl rfl rfl (OpP.lenString Tryd.underlying9 rfl) ?_
  refine RW.pureS rfl rfl rfl rfl (OpP.gtr rfl rfl) ?_
  refine RW.done rfl ?_
  refine G.sub (ρ' := [(0, _), (2, _), (8, _)]) ⟨rfl, rfl, rfl, trivial⟩ ?_
  refine G.ite rfl rfl (fun hbig => ?_) (fun hbig => ?_)
  · refine G.seq rfl ?_
    refine G.reg Tryd.func5 rfl ?_
    refine RW.opS rfl rfl rfl rfl (OpX.call (vs := []) Tryd.func11 rfl H.nm11 rfl (CallsH.toX (said_calls hg))) ?_
    rintro _ h1 ⟨rfl, he1⟩
    refine RW.pureS rfl rfl rfl rfl (OpP.assign rfl) ?_
    refine RW.done rfl ?_
    refine G.sub (ρ' := [(0, _), (2, _), (8, _)]) ⟨rfl, rfl, rfl, trivial⟩ ?_
    refine G.ret Tryd.func5 rfl rfl ?_
    exact ⟨_, rfl, rfl, he1⟩
  · have hs3 : s.size ≤ 3000 := by omega
    refine G.skip rfl ?_
    refine G.seq rfl ?_
    refine G.reg Tryd.func5 rfl ?_
    refine RW.pureS rfl rfl rfl rfl (OpP.move rfl) ?_
    refine RW.opS rfl rfl rfl rfl (OpX.call (vs := [_]) Tryd.func12 rfl H.nm12 rfl (CallsH.toX (get_two hg s (by omega)))) ?_
    rintro _ h1 ⟨⟨v, m, e, rfl, hcase⟩, he1⟩
    refine RW.pureS rfl rfl rfl rfl (OpP.move rfl) ?_
    refine RW.pureS rfl rfl rfl rfl (OpP.extract rfl rfl) ?_
    refine RW.pureS rfl rfl rfl rfl (OpP.extract rfl rfl) ?_
    refine RW.pureS rfl rfl rfl rfl (OpP.extract rfl rfl) ?_
    refine RW.pureS rfl rfl rfl rfl (OpP.assign rfl) ?_
    refine RW.pureS rfl rfl rfl rfl (OpP.assign rfl) ?_
    refine RW.pureS rfl rfl rfl rfl (OpP.assign rfl) ?_
    refine RW.done rfl ?_
    refine G.sub (ρ' := [(0, _), (2, _), (3, _), (4, _), (5, _), (8, _)]) ⟨rfl, rfl, rfl, rfl, rfl, rfl, trivial⟩ ?_
    refine G.seq rfl ?_
    refine G.seq rfl ?_
    refine G.reg Tryd.func5 rfl ?_
    refine RW.pureS rfl rfl rfl rfl (OpP.move rfl) ?_
    refine RW.pureS rfl rfl rfl rfl (OpP.neqInt rfl rfl) ?_
    refine RW.done rfl ?_
    refine G.sub (ρ' := [(0, _), (2, _), (3, _), (4, _), (5, _), (8, _), (17, _)]) ⟨rfl, rfl, rfl, rfl, rfl, rfl, rfl, trivial⟩ ?_
    have hg1 := hg.ext0 he1
    refine G.ite rfl rfl (fun hne => ?_) (fun hne => ?_)
    · obtain ⟨rfl, rfl, hgs⟩ : e = 10 ∧ v = .slice none 0 0 ∧ getS s.data.toList = .inl m := by
        rcases hcase with k | ⟨rfl, _⟩
        · exact k
        · exact absurd rfl hne
      have hm := (getL_line _ 0 m hgs).1
      refine G.seq rfl ?_
      refine G.regToX (fun (_u : Unit) (h' : Heap) => Ext0 h1 h') (fun (_u : Unit) => [(2, .bool true)]) [(0, _), (3, _), (4, _), (5, _), (8, _), (17, _)] ⟨rfl, rfl, rfl, rfl, rfl, rfl, trivial⟩ Tryd.func5 rfl ?_ ?_
      · refine RW.pureS rfl rfl rfl rfl (OpP.move rfl) ?_
        refine RW.pureS rfl rfl rfl rfl (OpP.eqlInt rfl rfl) ?_
        refine RW.pureS rfl rfl rfl rfl (OpP.move rfl) ?_
        refine RW.know (d := 20) (b' := true) rfl (decide_eq_true (rfl)) ?_
        refine RW.pureS rfl rfl rfl rfl (OpP.move rfl) ?_
        refine RW.pureS rfl rfl rfl rfl (OpP.gtr rfl rfl) ?_
        refine RW.pureS rfl rfl rfl rfl (OpP.pickT rfl rfl) ?_
        refine RW.pureS rfl rfl rfl rfl (OpP.move rfl) ?_
        refine RW.know (d := 24) (b' := true) rfl (decide_eq_true (by omega)) ?_
        refine RW.pureS rfl rfl rfl rfl (OpP.move rfl) ?_
        refine RW.pureS rfl rfl rfl rfl (OpP.lenSlice Tryd.underlying22 rfl) ?_
        refine RW.pureS rfl rfl rfl rfl (OpP.eqlInt rfl rfl) ?_
        refine RW.pureS rfl rfl rfl rfl (OpP.pickT rfl rfl) ?_
        refine RW.pureS rfl rfl rfl rfl (OpP.move rfl) ?_
        refine RW.know (d := 29) (b' := true) rfl (decide_eq_true (rfl)) ?_
        refine RW.opS rfl rfl rfl rfl (OpX.call (vs := []) Tryd.func11 rfl H.nm11 rfl (CallsH.toX (said_calls hg1))) ?_
        rintro _ h2 ⟨rfl, he2⟩
        refine RW.pureS rfl rfl rfl rfl (OpP.pickT rfl rfl) ?_
        refine RW.pureS rfl rfl rfl rfl (OpP.assign rfl) ?_
        refine RW.done rfl ?_
        exact ⟨(), he2, rfl, rfl, rfl, rfl, rfl, rfl, rfl, trivial⟩
      · rintro _ h2 he2
        refine G.ret Tryd.func5 rfl rfl ?_
        exact ⟨_, rfl, rfl, he1.trans he2⟩
    · obtain ⟨he0, rfl, l, hgs, hv⟩ : e = 0 ∧ m = 0 ∧ ∃ l, getS s.data.toList = .inr l ∧ SlR eStep h1 (fun _ => False) v l := by
        rcases hcase with ⟨rfl, _⟩ | k
        · exact absurd (by decide) hne
        · exact k
      obtain ⟨hl, hf⟩ := getS_fine (by omega) hgs
      have hback := (getL_back _ 0 l hgs).1
      rw [joinS_split] at hback
      refine G.skip rfl ?_
      refine G.seq rfl ?_
      refine G.regToX (fun (_u : Unit) (h' : Heap) => Ext0 h1 h') (fun (_u : Unit) => [(2, .bool true)]) [(0, _), (3, _), (4, _), (5, _), (8, _), (17, _)] ⟨rfl, rfl, rfl, rfl, rfl, rfl, trivial⟩ Tryd.func5 rfl ?_ ?_
      · refine RW.pureS rfl rfl rfl rfl (OpP.move rfl) ?_
        refine RW.opS rfl rfl rfl rfl (OpX.call (vs := [_]) Tryd.func14 rfl H.nm14 rfl (CallsH.toX (put_calls hg1 hv hl hf))) ?_
        rintro _ h2 ⟨rfl, he2⟩
        refine RW.pureS rfl rfl rfl rfl (OpP.move rfl) ?_
        refine RW.pureS rfl rfl rfl rfl (OpP.eqlStr rfl rfl) ?_
        refine RW.pureS rfl rfl rfl rfl (OpP.move rfl) ?_
        refine RW.know (d := 36) (b' := true) rfl (decide_eq_true (by show bs (putL l) = s; rw [hback, bs_of])) ?_
        refine RW.pureS rfl rfl rfl rfl (OpP.move rfl) ?_
        refine RW.pureS rfl rfl rfl rfl (OpP.eqlInt rfl rfl) ?_
        refine RW.pureS rfl rfl rfl rfl (OpP.pickT rfl rfl) ?_
        refine RW.pureS rfl rfl rfl rfl (OpP.move rfl) ?_
        refine RW.know (d := 40) (b' := true) rfl (decide_eq_true (rfl)) ?_
        refine RW.opS rfl rfl rfl rfl (OpX.call (vs := []) Tryd.func11 rfl H.nm11 rfl (CallsH.toX (said_calls (hg1.ext0 he2)))) ?_
        rintro _ h3 ⟨rfl, he3⟩
        refine RW.pureS rfl rfl rfl rfl (OpP.pickT rfl rfl) ?_
        refine RW.pureS rfl rfl rfl rfl (OpP.assign rfl) ?_
        refine RW.done rfl ?_
        exact ⟨(), he2.trans he3, rfl, rfl, rfl, rfl, rfl, rfl, rfl, trivial⟩
      · rintro _ h2 he2
        refine G.ret Tryd.func5 rfl rfl ?_
        exact ⟨_, rfl, rfl, he1.trans he2⟩

end Go.Proofs.YtmbikkapabljfaaDoor
