/- limnerlaw27.ScriptTell. -/
import Derived.Test.YtmbikkapabljfaaDoorScr17
namespace Go.Proofs.YtmbikkapabljfaaDoor
open Go Go.Lw
set_option maxRecDepth 20000

theorem getR_two {h : Heap} (s : ByteArray) (hs : s.size ≤ 1000000) :
    CallsH Tryd.prog 13 #[.string s] h (Ret fun r h' => (∃ (v : Value) (m : Nat) (e : Int), r = .tuple #[v, .int .i64 m, .int .i64 e] ∧
      ((e = 10 ∧ v = .slice none 0 0 ∧ getS s.data.toList = .inl m) ∨ (e = 0 ∧ m = 0 ∧ ∃ l, getS s.data.toList = .inr l ∧ SlR eStep h' (fun _ => False) v l))) ∧ Ext0 h h') := by
  refine (getR_calls s hs).ret ?_
  rintro r h' ⟨ho, he⟩
  cases hgs : getS s.data.toList with
  | inl m => rw [hgs] at ho; exact ⟨⟨_, m, 10, ho, .inl ⟨rfl, rfl, rfl⟩⟩, he⟩
  | inr l => rw [hgs] at ho; obtain ⟨v, hr, hv⟩ := ho; exact ⟨⟨v, 0, 0, hr, .inr ⟨rfl, rfl, l, rfl, hv⟩⟩, he⟩

theorem fieldsR : Tryd.prog.underlying 27 = some (.struct (Tryd.prog.fieldsOf 27)) := by kernel_rfl
theorem stoodR : Tryd.prog.stoodInHeld 27 = false := by kernel_rfl
theorem guardR : Tryd.prog.eqGuardType Tryd.prog.depth 27 = false := by kernel_rfl
theorem eqR (x y : Stp) (w : World) : (Op.eqFields 9999 (encS x).toArray (encS y).toArray (Tryd.prog.fieldsOf 27).toList).run Tryd.prog w = .ok (decide (x = y)) w :=
  stepEq ⟨_, _, _, _, rfl, ⟨by decide, rfl, rfl⟩, ⟨by decide, rfl, rfl⟩, ⟨by decide, rfl, rfl⟩, ⟨by decide, rfl, rfl⟩⟩ (by kernel_rfl) (by kernel_rfl) x y w

/-- What both answer of a text. -/
theorem got_same {g : Nat ⊕ List Stp} {v v' : Value} {m m' : Nat} {e e' : Int} {h1 h2 : Heap}
    (a : (e = 10 ∧ v = .slice none 0 0 ∧ g = .inl m) ∨ (e = 0 ∧ m = 0 ∧ ∃ l, g = .inr l ∧ SlR eStep h1 (fun _ => False) v l))
    (b : (e' = 10 ∧ v' = .slice none 0 0 ∧ g = .inl m') ∨ (e' = 0 ∧ m' = 0 ∧ ∃ l, g = .inr l ∧ SlR eStep h2 (fun _ => False) v' l)) (x : Ext0 h1 h2) :
    m = m' ∧ e = e' ∧ ∃ l, SlR eStep h2 (fun _ => False) v l ∧ SlR eStep h2 (fun _ => False) v' l ∧ (e = 0 ∨ l = []) := by
  rcases a with ⟨rfl, rfl, hg⟩ | ⟨rfl, rfl, l, hg, hv⟩ <;> rcases b with ⟨rfl, rfl, hg'⟩ | ⟨rfl, rfl, l', hg', hv'⟩
  · rw [hg] at hg'; cases hg'; exact ⟨rfl, rfl, [], SlR.nil _ _ _, SlR.nil _ _ _, .inr rfl⟩
  · rw [hg] at hg'; cases hg'
  · rw [hg] at hg'; cases hg'
  · rw [hg] at hg'; cases hg'; exact ⟨rfl, rfl, l, hv.ext0 x, hv', .inl rfl⟩

theorem tell_calls {h : Heap} (hg : Glob h) {v : Value} {l : List Stp} (hv : SlR eStep h (fun _ => False) v l) (hok : ∀ x ∈ l, x.Ok) (s : ByteArray) :
    CallsH Tryd.prog 3 #[v, .string s] h (Ret fun r h' => r = .bool true ∧ Ext0 h h') := by
  have hlm : l.length ≤ maxLen := by obtain ⟨_, n, c, _, hn, hc, hm, _⟩ := hv; omega
  refine CallsH.of Tryd.func3 rfl rfl ?_
  refine G.seq rfl ?_
  refine G.reg Tryd.func3 rfl ?_
  refine RW.pureS rfl rfl rfl rfl (OpP.assign rfl) ?_
  refine RW.done rfl ?_
  refine G.sub (ρ' := [(0, _), (1, _), (4, _)]) ⟨rfl, rfl, rfl, trivial⟩ ?_
  refine G.seq rfl ?_
  refine G.seq rfl ?_
  refine G.regToX (fun (b : Bool) (h' : Heap) => h' = h ∧ (b = false → s.size ≤ 3000 ∧ l.length ≤ 60 ∧ ∀ x ∈ l, x.text.length ≤ 1000)) (fun (b : Bool) => [(20, .bool b)]) [(0, _), (1, _), (4, _)] ⟨rfl, rfl, rfl, trivial⟩ Tryd.func3 rfl ?_ ?_
  · refine RW.pureS rfl rfl rfl rfl (OpP.move rfl) ?_
    refine RW.opS rfl rfl rfl rfl (OpX.call (vs := [_, _]) Tryd.func10 rfl H.nm10 rfl (CallsH.toX (great_calls hv hlm))) ?_
    rintro _ _ ⟨⟨b, rfl, hb⟩, rfl⟩
    refine RW.pureS rfl rfl rfl rfl (OpP.move rfl) ?_
    refine RW.split (d := 16) rfl (fun hgr => ?_) (fun hgr => ?_)
    · refine RW.skipS rfl rfl rfl rfl ?_
      refine RW.skipS rfl rfl rfl rfl ?_
      refine RW.skipS rfl rfl rfl rfl ?_
      refine RW.pureS rfl rfl rfl rfl (OpP.pickT rfl rfl) ?_
      refine RW.done rfl ?_
      exact ⟨true, ⟨rfl, fun k => by cases k⟩, rfl, rfl, rfl, rfl, trivial⟩
    · refine RW.pureS rfl rfl rfl rfl (OpP.move rfl) ?_
      refine RW.pureS rfl rfl rfl rfl (OpP.lenString Tryd.underlying9 rfl) ?_
      refine RW.pureS rfl rfl rfl rfl (OpP.gtr rfl rfl) ?_
      refine RW.pureS rfl rfl rfl rfl (OpP.pickF rfl rfl) ?_
      refine RW.done rfl ?_
      exact ⟨_, ⟨rfl, fun k => ⟨by have := of_decide_eq_false k; omega, by have := (hb hgr).1; omega, (hb hgr).2⟩⟩, rfl, rfl, rfl, rfl, trivial⟩
  · rintro b h ⟨rfl, hb⟩
    refine G.cond rfl rfl (fun hbig => ?_) (fun hbig => ?_)
    · refine G.seq rfl ?_
      refine G.reg Tryd.func3 rfl ?_
      refine RW.opS rfl rfl rfl rfl (OpX.call (vs := []) Tryd.func11 rfl H.nm11 rfl (CallsH.toX (said_calls hg))) ?_
      rintro _ h1 ⟨rfl, he1⟩
      refine RW.pureS rfl rfl rfl rfl (OpP.assign rfl) ?_
      refine RW.done rfl ?_
      refine G.sub (ρ' := [(0, _), (1, _), (4, _), (20, _)]) ⟨rfl, rfl, rfl, rfl, trivial⟩ ?_
      refine G.ret Tryd.func3 rfl rfl ?_
      exact ⟨_, rfl, rfl, he1⟩
    · have hbig : b = false := by simpa using hbig
      obtain ⟨hs3, hl60, htx⟩ := hb hbig
      have hf : ∀ x ∈ l, Fine x := fun x hx => ⟨hok x hx, by have := htx x hx; omega⟩
      obtain ⟨oa, n, c, rfl, hsl⟩ := hv.open
      have hn := hsl.len
      refine G.skip rfl ?_
      refine G.seq rfl ?_
      refine G.reg Tryd.func3 rfl ?_
      refine RW.pureS rfl rfl rfl rfl (OpP.assign rfl) ?_
      refine RW.done rfl ?_
      refine G.sub (ρ' := [(0, _), (1, _), (4, _), (5, _), (20, _)]) ⟨rfl, rfl, rfl, rfl, rfl, trivial⟩ ?_
      refine G.seq rfl ?_
      refine G.seq rfl ?_
      refine G.reg Tryd.func3 rfl ?_
      refine RW.pureS rfl rfl rfl rfl (OpP.assign rfl) ?_
      refine RW.done rfl ?_
      refine G.sub (ρ' := [(0, _), (1, _), (4, _), (5, _), (6, _), (20, _)]) ⟨rfl, rfl, rfl, rfl, rfl, rfl, trivial⟩ ?_
      refine G.block rfl rfl ?_
      refine G.loop (σ := Nat × Value) (fun q => [(0, .slice oa n c), (1, .string s), (5, q.2), (6, .int .i64 q.1)]) (fun q h' => Ext0 h h' ∧ q.1 ≤ n ∧ OwR 4 encS h' h.size 27 q.2 (l.take q.1)) (fun q => n - q.1) ((0, .slice none 0 0)) rfl ⟨rfl, rfl, rfl, rfl, trivial⟩ ⟨Ext.refl _ _, Nat.zero_le _, OwR.nil _ _ _ _ _⟩ ?_
      rintro ⟨i, w⟩ h1 ⟨he1, hi, hw⟩ ih
      try dsimp only
      dsimp only at hi hw
      refine G.seq rfl ?_
      refine G.seq rfl ?_
      refine G.reg Tryd.func3 rfl ?_
      refine RW.pureS rfl rfl rfl rfl (OpP.move rfl) ?_
      refine RW.pureS rfl rfl rfl rfl (OpP.move rfl) ?_
      refine RW.pureS rfl rfl rfl rfl (OpP.lenSlice Tryd.underlying22 rfl) ?_
      refine RW.pureS rfl rfl rfl rfl (OpP.lss rfl rfl) ?_
      refine RW.done rfl ?_
      refine G.sub (ρ' := [(0, _), (1, _), (5, _), (6, _), (25, _)]) ⟨rfl, rfl, rfl, rfl, rfl, trivial⟩ ?_
      refine G.ite rfl rfl (fun hlt => ?_) (fun hlt => ?_)
      · have hlt' : i < n := by omega
        have hsl1 := hsl.mv (Mv.ext0 he1)
        obtain ⟨b, o, x, ha, _, hx, hrow⟩ := hsl1.recd hlt'
        have htake : l.take (i + 1) = l.take i ++ [x] := by rw [List.take_add_one, hx]; rfl
        have hli : (l.take i).length = i := by simp; omega
        refine G.skip rfl ?_
        refine G.seq rfl ?_
        refine G.block rfl rfl ?_
        refine G.reg Tryd.func3 rfl ?_
        refine RW.pureS rfl rfl rfl rfl (OpP.move rfl) ?_
        refine RW.pureS rfl rfl rfl rfl (OpP.move rfl) ?_
        refine RW.pureS rfl rfl rfl rfl (OpP.move rfl) ?_
        refine RW.pureS rfl rfl rfl rfl (OpP.indexSlice Tryd.underlying22 H.sz28 rfl rfl i rfl ha hlt') ?_
        refine RW.pureS rfl rfl rfl rfl (OpP.loadRowN H.ag28 H.sz28 rfl hrow (by first | rfl | simp)) ?_
        refine RW.opS rfl rfl rfl rfl (OpX.buildRec (cs := [_, _, _, _]) Tryd.underlying25 H.el27 rfl rfl (by decide)) ?_
        rintro _ _ ⟨rfl, rfl⟩
        refine RW.opS rfl rfl rfl rfl (OpX.appendNew Tryd.underlying25 H.el27 rfl rfl (hw) rfl rfl (by first | decide | simp [Value.oneCell']) (by omega) (by decide) he1.size) ?_
        rintro w2 h2 ⟨ho2, hx2, -, -⟩
        refine RW.pureS rfl rfl rfl rfl (OpP.assign rfl) ?_
        refine RW.done rfl ?_
        refine G.sub (ρ' := [(0, _), (1, _), (5, _), (6, _), (25, _)]) ⟨rfl, rfl, rfl, rfl, rfl, trivial⟩ ?_
        refine G.blkEnd ?_
        refine G.reg Tryd.func3 rfl ?_
        refine RW.pureS rfl rfl rfl rfl (OpP.move rfl) ?_
        refine RW.pureS rfl rfl rfl rfl (OpP.add64 rfl rfl ⟨by omega, by omega⟩) ?_
        refine RW.pureS rfl rfl rfl rfl (OpP.assign rfl) ?_
        refine RW.done rfl ?_
        refine G.sub (ρ' := [(0, _), (1, _), (5, _), (6, _), (25, _)]) ⟨rfl, rfl, rfl, rfl, rfl, trivial⟩ ?_
        exact ih (i + 1, w2) _ _ ⟨rfl, rfl, rfl, rfl, trivial⟩ ⟨OwR.grown he1 hw (Nat.le_refl _) hx2, by show i + 1 ≤ n; omega, by show OwR _ _ _ _ _ _ (l.take (i + 1)); rw [htake]; exact OwR.of (y := x) ho2 rfl rfl⟩ (by show n - (i + 1) < n - i; omega)
      · have hin : i = n := by omega
        subst hin
        rw [List.take_of_length_le (by omega)] at hw
        have hg1 := hg.ext0 he1
        have hwr : SlR eStep h1 (fun b => b < h.size) w l := OwR.read hw (fun b hb => by omega)
        refine G.exit rfl rfl ?_
        refine G.seq rfl ?_
        refine G.reg Tryd.func3 rfl ?_
        refine RW.pureS rfl rfl rfl rfl (OpP.move rfl) ?_
        refine RW.opS rfl rfl rfl rfl (OpX.call (vs := [_]) Tryd.func12 rfl H.nm12 rfl (CallsH.toX (get_two hg1 s (by omega)))) ?_
        rintro _ h2 ⟨⟨va, ma, ea, rfl, hca⟩, he2⟩
        refine RW.pureS rfl rfl rfl rfl (OpP.move rfl) ?_
        refine RW.pureS rfl rfl rfl rfl (OpP.extract rfl rfl) ?_
        refine RW.pureS rfl rfl rfl rfl (OpP.extract rfl rfl) ?_
        refine RW.pureS rfl rfl rfl rfl (OpP.extract rfl rfl) ?_
        refine RW.pureS rfl rfl rfl rfl (OpP.assign rfl) ?_
        refine RW.pureS rfl rfl rfl rfl (OpP.assign rfl) ?_
        refine RW.pureS rfl rfl rfl rfl (OpP.assign rfl) ?_
        refine RW.done rfl ?_
        refine G.sub (ρ' := [(0, _), (1, _), (5, _), (6, _), (7, _), (8, _), (9, _), (25, _)]) ⟨rfl, rfl, rfl, rfl, rfl, rfl, rfl, rfl, trivial⟩ ?_
        refine G.seq rfl ?_
        refine G.reg Tryd.func3 rfl ?_
        refine RW.pureS rfl rfl rfl rfl (OpP.move rfl) ?_
        have hg2 := hg1.ext0 he2
        refine RW.opS rfl rfl rfl rfl (OpX.call (vs := [_]) Tryd.func13 rfl H.nm13 rfl (CallsH.toX (getR_two s (by omega)))) ?_
        rintro _ h3 ⟨⟨vb, mb, eb, rfl, hcb⟩, he3⟩
        refine RW.pureS rfl rfl rfl rfl (OpP.move rfl) ?_
        refine RW.pureS rfl rfl rfl rfl (OpP.extract rfl rfl) ?_
        refine RW.pureS rfl rfl rfl rfl (OpP.extract rfl rfl) ?_
        refine RW.pureS rfl rfl rfl rfl (OpP.extract rfl rfl) ?_
        refine RW.pureS rfl rfl rfl rfl (OpP.assign rfl) ?_
        refine RW.pureS rfl rfl rfl rfl (OpP.assign rfl) ?_
        refine RW.pureS rfl rfl rfl rfl (OpP.assign rfl) ?_
        refine RW.done rfl ?_
        refine G.sub (ρ' := [(0, _), (1, _), (5, _), (6, _), (7, _), (8, _), (9, _), (10, _), (11, _), (12, _), (25, _)]) ⟨rfl, rfl, rfl, rfl, rfl, rfl, rfl, rfl, rfl, rfl, rfl, trivial⟩ ?_
        refine G.seq rfl ?_
        refine G.seq rfl ?_
        have hg3 := hg2.ext0 he3
        obtain ⟨rfl, rfl, r, hra, hrb, hre⟩ := got_same hca hcb he3
        have he13 := he1.trans (he2.trans he3)
        obtain ⟨oa1, n1, c1, rfl, hsa⟩ := hra.open
        obtain ⟨oa2, n2, c2, rfl, hsb⟩ := hrb.open
        have hn1 := hsa.len
        have hn2 := hsb.len
        have hle1 := hsa.le
        have hcp1 := hsa.cap
        unfold maxLen at hcp1
        refine G.regToX (fun (_u : Unit) (h' : Heap) => Ext0 h3 h') (fun (_u : Unit) => [(68, .bool false)]) [(0, _), (1, _), (5, _), (6, _), (7, _), (8, _), (9, _), (10, _), (11, _), (12, _), (25, _)] ⟨rfl, rfl, rfl, rfl, rfl, rfl, rfl, rfl, rfl, rfl, rfl, trivial⟩ Tryd.func3 rfl ?_ ?_
        · refine RW.pureS rfl rfl rfl rfl (OpP.move rfl) ?_
          refine RW.opS rfl rfl rfl rfl (OpX.call (vs := [_]) Tryd.func14 rfl H.nm14 rfl (CallsH.toX (put_calls hg3 (hv.ext0 he13) (by omega) hf))) ?_
          rintro _ h4 ⟨rfl, he4⟩
          refine RW.pureS rfl rfl rfl rfl (OpP.move rfl) ?_
          refine RW.opS rfl rfl rfl rfl (OpX.call (vs := [_]) Tryd.func15 rfl H.nm15 rfl (CallsH.toX (putR_calls (hwr.ext0 ((he2.trans he3).trans he4)) (by omega) hf))) ?_
          rintro _ _ ⟨rfl, rfl⟩
          refine RW.pureS rfl rfl rfl rfl (OpP.neqStr rfl rfl) ?_
          refine RW.pureS rfl rfl rfl rfl (OpP.move rfl) ?_
          refine RW.know (d := 52) (b' := false) rfl (decide_eq_false (by simp)) ?_
          refine RW.pureS rfl rfl rfl rfl (OpP.move rfl) ?_
          refine RW.pureS rfl rfl rfl rfl (OpP.move rfl) ?_
          refine RW.pureS rfl rfl rfl rfl (OpP.neqInt rfl rfl) ?_
          refine RW.pureS rfl rfl rfl rfl (OpP.pickF rfl rfl) ?_
          refine RW.pureS rfl rfl rfl rfl (OpP.move rfl) ?_
          refine RW.know (d := 57) (b' := false) rfl (decide_eq_false (by simp)) ?_
          refine RW.pureS rfl rfl rfl rfl (OpP.move rfl) ?_
          refine RW.pureS rfl rfl rfl rfl (OpP.move rfl) ?_
          refine RW.pureS rfl rfl rfl rfl (OpP.neqInt rfl rfl) ?_
          refine RW.pureS rfl rfl rfl rfl (OpP.pickF rfl rfl) ?_
          refine RW.pureS rfl rfl rfl rfl (OpP.move rfl) ?_
          refine RW.know (d := 62) (b' := false) rfl (decide_eq_false (by simp)) ?_
          refine RW.pureS rfl rfl rfl rfl (OpP.move rfl) ?_
          refine RW.pureS rfl rfl rfl rfl (OpP.lenSlice Tryd.underlying22 rfl) ?_
          refine RW.pureS rfl rfl rfl rfl (OpP.move rfl) ?_
          refine RW.pureS rfl rfl rfl rfl (OpP.lenSlice Tryd.underlying25 rfl) ?_
          refine RW.pureS rfl rfl rfl rfl (OpP.neqInt rfl rfl) ?_
          refine RW.pureS rfl rfl rfl rfl (OpP.pickF rfl rfl) ?_
          refine RW.done rfl ?_
          exact ⟨(), he4, at_bool rfl (by simp; omega), rfl, rfl, rfl, rfl, rfl, rfl, rfl, rfl, rfl, rfl, rfl, trivial⟩
        · rintro _ h4 he4
          have hsa4 := hsa.mv (Mv.ext0 he4)
          have hsb4 := hsb.mv (Mv.ext0 he4)
          have hg4 := hg3.ext0 he4
          refine G.cond rfl rfl (fun hc => absurd hc (by simp)) (fun _ => ?_)
          refine G.skip rfl ?_
          refine G.seq rfl ?_
          refine G.seq rfl ?_
          refine G.reg Tryd.func3 rfl ?_
          refine RW.pureS rfl rfl rfl rfl (OpP.assign rfl) ?_
          refine RW.done rfl ?_
          refine G.sub (ρ' := [(0, _), (1, _), (5, _), (6, _), (7, _), (8, _), (9, _), (10, _), (11, _), (12, _), (13, _), (25, _), (68, _)]) ⟨rfl, rfl, rfl, rfl, rfl, rfl, rfl, rfl, rfl, rfl, rfl, rfl, rfl, trivial⟩ ?_
          refine G.block rfl rfl ?_
          refine G.loop (σ := Nat) (fun i => [(7, .slice oa1 n1 c1), (9, .int .i64 ea), (10, .slice oa2 n2 c2), (13, .int .i64 i)]) (fun i h' => h' = h4 ∧ i ≤ n1) (fun i => n1 - i) (0) rfl ⟨rfl, rfl, rfl, rfl, trivial⟩ ⟨rfl, Nat.zero_le _⟩ ?_
          rintro i h4 ⟨rfl, hi⟩ ih
          refine G.seq rfl ?_
          refine G.seq rfl ?_
          refine G.reg Tryd.func3 rfl ?_
          refine RW.pureS rfl rfl rfl rfl (OpP.move rfl) ?_
          refine RW.pureS rfl rfl rfl rfl (OpP.move rfl) ?_
          refine RW.pureS rfl rfl rfl rfl (OpP.lenSlice Tryd.underlying22 rfl) ?_
          refine RW.pureS rfl rfl rfl rfl (OpP.lss rfl rfl) ?_
          refine RW.done rfl ?_
          refine G.sub (ρ' := [(7, _), (9, _), (10, _), (13, _), (72, _)]) ⟨rfl, rfl, rfl, rfl, rfl, trivial⟩ ?_
          refine G.ite rfl rfl (fun hlt => ?_) (fun hlt => ?_)
          · have hlt' : i < n1 := by omega
            obtain ⟨b, o, x, ha, _, hx, hrow⟩ := hsa4.recd hlt'
            obtain ⟨b2, o2, y, hb2, _, hy, hrow2⟩ := hsb4.recd (i := i) (by omega)
            have hxy : x = y := by rw [hx] at hy; exact Option.some.inj hy
            refine G.skip rfl ?_
            refine G.seq rfl ?_
            refine G.block rfl rfl ?_
            refine G.seq rfl ?_
            refine G.drawQ Tryd.func3 H.mixed rfl (by kernel_rfl) ?_
            refine RQ.pureS rfl rfl rfl rfl (OpP.move rfl) ?_
            refine RQ.pureS rfl rfl rfl rfl (OpP.move rfl) ?_
            refine RQ.pureS rfl rfl rfl rfl (OpP.indexSlice Tryd.underlying22 H.sz28 rfl rfl i rfl ha hlt') ?_
            refine RQ.pureS rfl rfl rfl rfl (OpP.loadRowN H.ag28 H.sz28 rfl hrow (by first | rfl | simp)) ?_
            refine RQ.pureS rfl rfl rfl rfl (OpP.move rfl) ?_
            refine RQ.pureS rfl rfl rfl rfl (OpP.move rfl) ?_
            refine RQ.pureS rfl rfl rfl rfl (OpP.indexSlice Tryd.underlying25 H.sz27 rfl rfl i rfl hb2 (by omega)) ?_
            refine RQ.pureS rfl rfl rfl rfl (OpP.loadRowN H.ag27 H.sz27 rfl hrow2 (by first | rfl | simp)) ?_
            refine RQ.pureS rfl rfl rfl rfl (OpP.neqAgg fieldsR stoodR guardR rfl rfl (eqR _ _)) ?_
            refine RQ.done rfl ?_
            refine G.sub (ρ' := [(7, _), (9, _), (10, _), (13, _), (72, _), (83, _)]) ⟨rfl, rfl, rfl, rfl, rfl, rfl, trivial⟩ ?_
            refine G.cond rfl rfl (fun hc => absurd hc (by simp [hxy])) (fun _ => ?_)
            refine G.skip rfl ?_
            refine G.blkEnd ?_
            refine G.reg Tryd.func3 rfl ?_
            refine RW.pureS rfl rfl rfl rfl (OpP.move rfl) ?_
            refine RW.pureS rfl rfl rfl rfl (OpP.add64 rfl rfl ⟨by omega, by omega⟩) ?_
            refine RW.pureS rfl rfl rfl rfl (OpP.assign rfl) ?_
            refine RW.done rfl ?_
            refine G.sub (ρ' := [(7, _), (9, _), (10, _), (13, _), (72, _), (83, _)]) ⟨rfl, rfl, rfl, rfl, rfl, rfl, trivial⟩ ?_
            exact ih (i + 1) _ _ ⟨rfl, rfl, rfl, rfl, trivial⟩ ⟨rfl, by omega⟩ (by omega)
          · refine G.exit rfl rfl ?_
            refine G.seq rfl ?_
            refine G.regToX (fun (_u : Unit) (h' : Heap) => Ext0 h4 h') (fun (_u : Unit) => [(4, .bool true)]) [(7, _), (9, _), (10, _), (13, _), (72, _)] ⟨rfl, rfl, rfl, rfl, rfl, trivial⟩ Tryd.func3 rfl ?_ ?_
            · refine RW.pureS rfl rfl rfl rfl (OpP.move rfl) ?_
              refine RW.pureS rfl rfl rfl rfl (OpP.eqlInt rfl rfl) ?_
              refine RW.pureS rfl rfl rfl rfl (OpP.move rfl) ?_
              refine RW.split (d := 86) rfl (fun hz => ?_) (fun hz => ?_)
              · refine RW.skipS rfl rfl rfl rfl ?_
                refine RW.skipS rfl rfl rfl rfl ?_
                refine RW.skipS rfl rfl rfl rfl ?_
                refine RW.pureS rfl rfl rfl rfl (OpP.pickT rfl rfl) ?_
                refine RW.pureS rfl rfl rfl rfl (OpP.move rfl) ?_
                refine RW.know (d := 91) (b' := true) rfl (rfl) ?_
                refine RW.opS rfl rfl rfl rfl (OpX.call (vs := []) Tryd.func11 rfl H.nm11 rfl (CallsH.toX (said_calls hg4))) ?_
                rintro _ h5 ⟨rfl, he5⟩
                refine RW.pureS rfl rfl rfl rfl (OpP.pickT rfl rfl) ?_
                refine RW.pureS rfl rfl rfl rfl (OpP.assign rfl) ?_
                refine RW.done rfl ?_
                exact ⟨(), he5, rfl, rfl, rfl, rfl, rfl, rfl, trivial⟩
              · have hr0 : r = [] := by rcases hre with k | k; exact absurd k (by simpa using hz); exact k
                refine RW.pureS rfl rfl rfl rfl (OpP.move rfl) ?_
                refine RW.pureS rfl rfl rfl rfl (OpP.lenSlice Tryd.underlying22 rfl) ?_
                refine RW.pureS rfl rfl rfl rfl (OpP.eqlInt rfl rfl) ?_
                refine RW.pureS rfl rfl rfl rfl (OpP.pickF rfl rfl) ?_
                refine RW.pureS rfl rfl rfl rfl (OpP.move rfl) ?_
                refine RW.know (d := 91) (b' := true) rfl (decide_eq_true (by rw [← hn1, hr0]; rfl)) ?_
                refine RW.opS rfl rfl rfl rfl (OpX.call (vs := []) Tryd.func11 rfl H.nm11 rfl (CallsH.toX (said_calls hg4))) ?_
                rintro _ h5 ⟨rfl, he5⟩
                refine RW.pureS rfl rfl rfl rfl (OpP.pickT rfl rfl) ?_
                refine RW.pureS rfl rfl rfl rfl (OpP.assign rfl) ?_
                refine RW.done rfl ?_
                exact ⟨(), he5, rfl, rfl, rfl, rfl, rfl, rfl, trivial⟩
            · rintro _ h5 he5
              refine G.ret Tryd.func3 rfl rfl ?_
              exact ⟨_, rfl, rfl, he13.trans (he4.trans he5)⟩

end Go.Proofs.YtmbikkapabljfaaDoor
