/- Plain words, the logic of walks, and walks that the statement's proof leans on (part 19). -/
import Derived.LaidLaws
import Derived.LaidMore
import Derived.OpenShut
import Derived.Stop.Joined
import Derived.ChangeMaps5
import Derived.Lay
import Derived.Test.YtlegopbpofofgaaDoorQa
import Derived.Test.YtlegopbpofofgaaDoorQb
import Derived.Test.YtlegopbpofofgaaDoorQc
import Derived.Test.YtlegopbpofofgaaDoorQd
import Derived.Test.YtlegopbpofofgaaDoorQe
import Derived.Test.YtlegopbpofofgaaDoorQf
import Derived.Test.YtlegopbpofofgaaDoorQg
import Derived.Test.YtlegopbpofofgaaDoorQh
import Derived.Test.YtlegopbpofofgaaDoorQi
import Derived.Test.YtlegopbpofofgaaDoorQj
import Derived.Test.YtlegopbpofofgaaDoorQk
import Derived.Test.YtlegopbpofofgaaDoorQl
import Derived.Test.YtlegopbpofofgaaDoorQm
import Derived.Test.YtlegopbpofofgaaDoorQn
import Derived.Test.YtlegopbpofofgaaDoorQo
import Derived.Test.YtlegopbpofofgaaDoorQp
import Derived.Test.YtlegopbpofofgaaDoorQq
import Derived.Test.YtlegopbpofofgaaDoorQr

/- What the rows of the NFA list, opened. -/
namespace Go.Proofs.YtlegopbpofofgaaDoor
open Go Go.Lw Go.ChangeShapes Go.WideShapes Go.ChangeAt Go.RowKit
set_option maxRecDepth 20000

theorem own : ownKnob Tryd.prog.godebug = none := by kernel_rfl
theorem laidOut : laidOutB Tryd.prog = true := by kernel_rfl

theorem asc_signs (c : UInt8) : ((asc (c.toNat : Int) [((42 : Int), (4 : Int)), (43, 5), (63, 6)]).map (Value.int .i64)).getD (Value.int .i64 0) = Value.int .i64 (signOf c : Nat) := by
  have hc : ∀ n : Nat, n < 256 → (c.toNat = n ↔ c = UInt8.ofNat n) := fun n hn => by
    rw [← UInt8.toNat_inj]; simp; rw [Nat.mod_eq_of_lt hn]
  simp only [asc, signOf]
  by_cases h1 : c = 42
  · subst h1; rfl
  by_cases h2 : c = 43
  · subst h2; rfl
  by_cases h3 : c = 63
  · subst h3; rfl
  have n1 : ¬ (c.toNat : Int) = 42 := fun e => h1 ((hc 42 (by decide)).1 (by omega))
  have n2 : ¬ (c.toNat : Int) = 43 := fun e => h2 ((hc 43 (by decide)).1 (by omega))
  have n3 : ¬ (c.toNat : Int) = 63 := fun e => h3 ((hc 63 (by decide)).1 (by omega))
  simp [h1, h2, h3, n1, n2, n3]

theorem signs_of {W : World} {g t : Nat} {cs : Array Value} {fuel : Nat} {pl : List MemPlace} {sp : Nat → Bool} {held : Bool} {enc : TypeId × Value → Unit} (hg : Tryd.prog.globalNamed "limner/regs.signs" = some g) (ht : (Tryd.prog.globals[g]?).map (·.type) = some t) (hv : W.var? Tryd.prog "limner/regs.signs" = some cs)
    (hd : DataW.trod enc Tryd.prog W 0 sp held fuel t cs.toList = some (Rows.laid_limner_regs_signs, pl)) : Sg W.heap W.heap.size := by
  have gT : Tryd.prog.globalNamed "limner/regs.signs" = some 0 := by kernel_rfl
  have tT : (Tryd.prog.globals[0]?).map (·.type) = some 155 := by kernel_rfl
  obtain rfl := Option.some.inj (gT.symm.trans hg)
  obtain rfl := Option.some.inj (tT.symm.trans ht)
  obtain ⟨b, hcs, l, hm, hp⟩ := laid_map (kk := .u8) (kd := .i64) Tryd.underlying155 Tryd.underlying5 Tryd.underlying3 hd
  have hcell : W.cell? ⟨0, 0, none⟩ = some (.map (some b)) := by
    have := World.var?_cell hg hv 0
    obtain ⟨l1⟩ := cs
    simp only at hcs
    subst hcs
    simpa using this
  have hc2 : cellAt W.heap ⟨0, 0, none⟩ = some (.map (some b)) := (At.refl W).cell _ ▸ hcell
  have hperm : l.Perm [((42 : Int), (4 : Int)), (43, 5), (63, 6)] := by
    have hinj : ∀ p q : Int × Int, ((.int .u8 p.1, .lit (.int .i64 p.2)) : Lit × DataW Unit) = (.int .u8 q.1, .lit (.int .i64 q.2)) → p = q := by
      intro p q h
      simp only [Prod.mk.injEq, Lit.int.injEq, DataW.lit.injEq, true_and] at h
      exact Prod.ext h.1 h.2
    have hp' : (l.map fun p => ((.int .u8 p.1, .lit (.int .i64 p.2)) : Lit × DataW Unit)).Perm ([((42 : Int), (4 : Int)), (43, 5), (63, 6)].map fun p => ((.int .u8 p.1, .lit (.int .i64 p.2)) : Lit × DataW Unit)) := hp
    have hback : ∀ m : List (Int × Int), (m.map fun p => ((.int .u8 p.1, .lit (.int .i64 p.2)) : Lit × DataW Unit)).map (fun y => match y with | (.int _ a, .lit (.int _ b)) => (a, b) | _ => ((0 : Int), (0 : Int))) = m := by
      intro m
      rw [List.map_map]
      have : ((fun y => match y with | (.int _ a, .lit (.int _ b)) => (a, b) | _ => ((0 : Int), (0 : Int))) ∘ fun p => ((.int .u8 p.1, .lit (.int .i64 p.2)) : Lit × DataW Unit)) = id := by funext p; rfl
      rw [this, List.map_id]
    have := hp'.map (fun y => match y with | (.int _ a, .lit (.int _ b)) => (a, b) | _ => ((0 : Int), (0 : Int)))
    rwa [hback, hback] at this
  refine ⟨b, lt_of_cellAt hc2, hm.lt, hc2, l, hm, fun c => ?_⟩
  rw [asc_perm hperm (by decide)]
  exact asc_signs c

theorem bs_back (s : ByteArray) : bs s.data.toList = s := by cases s; simp [bs]
theorem eby_of {h : Heap} {O : Nat → Prop} {v : Value} {l : List ByteArray} (k : SlR .str h O v l) : SlR eBy h O v (l.map fun s => s.data.toList) := by
  obtain ⟨oa, n, c, rfl, hl, hnc, hc, hg⟩ := k
  refine ⟨oa, n, c, rfl, by simpa using hl, hnc, hc, fun i x hx => ?_⟩
  rw [List.getElem?_map] at hx
  cases hs : l[i]? with
  | none => rw [hs] at hx; cases hx
  | some s =>
    rw [hs] at hx
    simp only [Option.map_some, Option.some.injEq] at hx
    subst hx
    obtain ⟨b, o, cs, h1, h2, h3, h4⟩ := hg i s hs
    refine ⟨b, o, cs, h1, h2, h3, ?_⟩
    have h4 : cs = [.string s] := h4
    show cs = [.string (bs s.data.toList)]
    rw [bs_back]; exact h4

end Go.Proofs.YtlegopbpofofgaaDoor

/- NfasMatch: what it answers. -/
namespace Go.Proofs.YtlegopbpofofgaaDoor
open Go Go.Lw
set_option maxRecDepth 20000

theorem runP_snoc {ss : List Ste} {st : Nat} {s : By} {i : Nat} (hi : i < s.length) : runP ss st (s.take (i + 1)) = stepP ss s[i] (runP ss st (s.take i)) := by
  rw [List.take_succ_eq_append_getElem hi, runP_append]; rfl
theorem runP_sub (ss : List Ste) (st : Nat) (w : By) : (runP ss st w).Sublist (List.range ss.length) := by
  have key : ∀ (w : By) (T : List Nat), T.Sublist (List.range ss.length) → (w.foldl (fun T c => stepP ss c T) T).Sublist (List.range ss.length) := by
    intro w
    induction w with
    | nil => intro T h; exact h
    | cons c w ih => intro T _; exact ih _ (stepP_sub ss c T)
  exact key w _ (startP_sub ss st)

theorem nfasMatch_calls {h : Heap} (hg : Sg h h.size) {rv : Value} {rules : List By} {s : By} {a : Int} (hr : SlR eBy h (fun _ => False) rv rules) :
    CallsH Tryd.prog 4 #[rv, .string (bs s), .int .i64 a] h (Ret fun r h' => r = .bool true ∧ Ext0 h h') := by
  have hbs := bs_size s
  refine CallsH.of Tryd.func4 rfl rfl ?_
  refine G.seq rfl ?_
  refine G.reg Tryd.func4 rfl ?_
  refine RW.pureS rfl rfl rfl rfl (OpP.assign rfl) ?_
  refine RW.done rfl ?_
  refine G.sub (ρ' := [(0, _), (1, _), (2, _), (6, _)]) ⟨rfl, rfl, rfl, rfl, trivial⟩ ?_
  refine G.seq rfl ?_
  refine G.seq rfl ?_
  refine G.regToX (fun (_u : Unit) (h' : Heap) => h' = h) (fun (_u : Unit) => [(26, .bool (greatP rules || decide (60 < s.length)))]) [(0, _), (1, _), (2, _), (6, _)] ⟨rfl, rfl, rfl, rfl, trivial⟩ Tryd.func4 rfl ?_ ?_
  · refine RW.pureS rfl rfl rfl rfl (OpP.move rfl) ?_
    refine RW.opS rfl rfl rfl rfl (OpX.call (vs := [_]) Tryd.func18 rfl H.nm18 rfl (CallsH.toX (great_calls hr))) ?_
    rintro _ h0 ⟨rfl, hh0⟩
    refine RW.pureS rfl rfl rfl rfl (OpP.move rfl) ?_
    subst hh0
    refine RW.split (d := 22) rfl (fun hg1 => ?_) (fun hg1 => ?_)
    · refine RW.skipS rfl rfl rfl rfl ?_
      refine RW.skipS rfl rfl rfl rfl ?_
      refine RW.skipS rfl rfl rfl rfl ?_
      refine RW.pureS rfl rfl rfl rfl (OpP.pickT rfl rfl) ?_
      refine RW.done rfl ?_
      exact ⟨(), rfl, at_bool rfl (by rw [hg1, Bool.true_or]), rfl, rfl, rfl, rfl, trivial⟩
    · refine RW.pureS rfl rfl rfl rfl (OpP.move rfl) ?_
      refine RW.pureS rfl rfl rfl rfl (OpP.lenString Tryd.underlying9 rfl) ?_
      refine RW.pureS rfl rfl rfl rfl (OpP.gtr rfl rfl) ?_
      refine RW.pureS rfl rfl rfl rfl (OpP.pickF rfl rfl) ?_
      refine RW.done rfl ?_
      exact ⟨(), rfl, at_bool rfl (by rw [hg1, Bool.false_or]; simp only [decide_eq_decide]; omega), rfl, rfl, rfl, rfl, trivial⟩
  · rintro _ h0 rfl
    refine G.cond rfl rfl (fun hbig => ?_) (fun hbig => ?_)
    · refine G.seq rfl ?_
      refine G.reg Tryd.func4 rfl ?_
      refine RW.opS rfl rfl rfl rfl (OpX.call (vs := []) Tryd.func15 rfl H.nm15 rfl (CallsH.toX (matched_calls hg (Nat.le_refl _)))) ?_
      rintro _ h1 ⟨rfl, e1⟩
      refine RW.pureS rfl rfl rfl rfl (OpP.assign rfl) ?_
      refine RW.done rfl ?_
      refine G.sub (ρ' := [(0, _), (1, _), (2, _), (6, _), (26, _)]) ⟨rfl, rfl, rfl, rfl, rfl, trivial⟩ ?_
      refine G.ret Tryd.func4 rfl rfl ?_
      exact ⟨_, rfl, rfl, e1⟩
    · rw [Bool.or_eq_false_iff] at hbig
      have hnot := great_not hbig.1
      have hs60 : s.length ≤ 60 := by have := of_decide_eq_false hbig.2; omega
      have hall : ∀ x ∈ rules, x.length ≤ 1000000 := fun x hx => by have := hnot.2 x hx; omega
      refine G.skip rfl ?_
      refine G.seq rfl ?_
      refine G.reg Tryd.func4 rfl ?_
      refine RW.pureS rfl rfl rfl rfl (OpP.move rfl) ?_
      refine RW.opS rfl rfl rfl rfl (OpX.call (vs := [_]) Tryd.func16 rfl H.nm16 rfl (CallsH.toX (make_made hg (Nat.le_refl _) hr hall))) ?_
      rintro _ h1 ⟨⟨p, rfl, hp⟩, e1⟩
      refine RW.pureS rfl rfl rfl rfl (OpP.move rfl) ?_
      refine RW.pureS rfl rfl rfl rfl (OpP.extract rfl rfl) ?_
      refine RW.pureS rfl rfl rfl rfl (OpP.extract rfl rfl) ?_
      refine RW.pureS rfl rfl rfl rfl (OpP.assign rfl) ?_
      refine RW.pureS rfl rfl rfl rfl (OpP.assign rfl) ?_
      refine RW.done rfl ?_
      refine G.sub (ρ' := [(0, _), (1, _), (2, _), (6, _), (7, _), (8, _), (26, _)]) ⟨rfl, rfl, rfl, rfl, rfl, rfl, rfl, trivial⟩ ?_
      refine G.seq rfl ?_
      refine G.reg Tryd.func4 rfl ?_
      refine RW.pureS rfl rfl rfl rfl (OpP.move rfl) ?_
      refine RW.opS rfl rfl rfl rfl (OpX.call (vs := [_]) Tryd.func17 rfl H.nm17 rfl (CallsH.toX (rules_calls (hr.ext0 e1) hall))) ?_
      rintro _ h2 ⟨⟨v9, rfl, hv9⟩, e2⟩
      rw [makeE_rules]
      have e02 := e1.trans e2
      refine RW.pureS rfl rfl rfl rfl (OpP.move rfl) ?_
      refine RW.pureS rfl rfl rfl rfl (OpP.extract rfl rfl) ?_
      refine RW.pureS rfl rfl rfl rfl (OpP.extract rfl rfl) ?_
      refine RW.pureS rfl rfl rfl rfl (OpP.assign rfl) ?_
      refine RW.pureS rfl rfl rfl rfl (OpP.assign rfl) ?_
      refine RW.done rfl ?_
      refine G.sub (ρ' := [(0, _), (1, _), (2, _), (6, _), (7, _), (8, _), (9, _), (10, _), (26, _)]) ⟨rfl, rfl, rfl, rfl, rfl, rfl, rfl, rfl, rfl, trivial⟩ ?_
      refine G.seq rfl ?_
      refine G.seq rfl ?_
      refine G.regTo1 [(44, .bool (decide (rulesP rules ≠ 0)))] [(0, _), (1, _), (2, _), (6, _), (7, _), (8, _), (9, _), (10, _), (26, _)] ⟨rfl, rfl, rfl, rfl, rfl, rfl, rfl, rfl, rfl, trivial⟩ Tryd.func4 rfl ?_ ?_
      · refine RW.pureS rfl rfl rfl rfl (OpP.move rfl) ?_
        refine RW.pureS rfl rfl rfl rfl (OpP.move rfl) ?_
        refine RW.pureS rfl rfl rfl rfl (OpP.neqInt rfl rfl) ?_
        refine RW.pureS rfl rfl rfl rfl (OpP.move rfl) ?_
        refine RW.know (d := 41) (b' := false) rfl ((by simp)) ?_
        refine RW.pureS rfl rfl rfl rfl (OpP.move rfl) ?_
        refine RW.pureS rfl rfl rfl rfl (OpP.neqInt rfl rfl) ?_
        refine RW.pureS rfl rfl rfl rfl (OpP.pickF rfl rfl) ?_
        refine RW.done rfl ?_
        exact ⟨rfl, at_bool rfl (by simp), rfl, rfl, rfl, rfl, rfl, rfl, rfl, rfl, rfl, trivial⟩
      · refine G.ite rfl rfl (fun herr => ?_) (fun herr => ?_)
        · refine G.seq rfl ?_
          refine G.regToX (fun (_u : Unit) (h' : Heap) => Ext0 h0 h') (fun (_u : Unit) => [(6, .bool true)]) [(0, _), (1, _), (2, _), (7, _), (8, _), (9, _), (10, _), (26, _), (44, _)] ⟨rfl, rfl, rfl, rfl, rfl, rfl, rfl, rfl, rfl, trivial⟩ Tryd.func4 rfl ?_ ?_
          · refine RW.pureS rfl rfl rfl rfl (OpP.move rfl) ?_
            refine RW.pureS rfl rfl rfl rfl (OpP.move rfl) ?_
            refine RW.pureS rfl rfl rfl rfl (OpP.eqlInt rfl rfl) ?_
            refine RW.pureS rfl rfl rfl rfl (OpP.move rfl) ?_
            refine RW.know (d := 48) (b' := true) rfl ((by simp)) ?_
            refine RW.opS rfl rfl rfl rfl (OpX.call (vs := []) Tryd.func15 rfl H.nm15 rfl (CallsH.toX (matched_calls (hg.ext e02 (fun _ k => k.elim)) e02.size))) ?_
            rintro _ h3 ⟨rfl, e3⟩
            refine RW.pureS rfl rfl rfl rfl (OpP.pickT rfl rfl) ?_
            refine RW.pureS rfl rfl rfl rfl (OpP.assign rfl) ?_
            refine RW.done rfl ?_
            exact ⟨(), e02.trans e3, at_bool rfl (rfl), rfl, rfl, rfl, rfl, rfl, rfl, rfl, rfl, rfl, trivial⟩
          · rintro _ h4 e4
            refine G.ret Tryd.func4 rfl rfl ?_
            exact ⟨_, rfl, rfl, e4⟩
        · have h00 : rulesP rules = 0 := by simpa using herr
          have hrs := hv9 h00
          have hok := rules_ok h00
          have hrl : (rulesR rules).length ≤ 1000000 := by simp [rulesR]; omega
          have hp : MadeAt h1 p rules := by
            rcases hp with ⟨e, he, _⟩ | hp
            · rcases make_rules rules with ⟨q, hq, _⟩ | ⟨_, hne⟩
              · rw [hq] at he; cases he
              · exact absurd h00 hne
            · exact hp
          have hp2 := hp.ext0 e2
          refine G.skip rfl ?_
          refine G.seq rfl ?_
          refine G.seq rfl ?_
          refine G.reg Tryd.func4 rfl ?_
          refine RW.pureS rfl rfl rfl rfl (OpP.assign rfl) ?_
          refine RW.done rfl ?_
          refine G.sub (ρ' := [(0, _), (1, _), (2, _), (6, _), (7, _), (8, _), (9, _), (10, _), (11, _), (26, _), (44, _)]) ⟨rfl, rfl, rfl, rfl, rfl, rfl, rfl, rfl, rfl, rfl, rfl, trivial⟩ ?_
          refine G.block rfl rfl ?_
          refine G.loop (σ := Int) (fun k => [(1, .string (bs s)), (2, .int .i64 a), (7, p), (9, v9), (11, .int .i64 k)]) (fun k h' => Ext0 h2 h' ∧ -1 ≤ k ∧ k ≤ s.length + 3) (fun k => (s.length + 3 - k).toNat) ((-1)) rfl ⟨rfl, rfl, rfl, rfl, rfl, trivial⟩ ⟨Ext.refl _ _, by decide, by omega⟩ ?_
          rintro k g ⟨eg, hk1, hk2⟩ ih
          refine G.seq rfl ?_
          refine G.seq rfl ?_
          refine G.reg Tryd.func4 rfl ?_
          refine RW.pureS rfl rfl rfl rfl (OpP.move rfl) ?_
          refine RW.pureS rfl rfl rfl rfl (OpP.move rfl) ?_
          refine RW.pureS rfl rfl rfl rfl (OpP.lenString Tryd.underlying9 rfl) ?_
          refine RW.pureS rfl rfl rfl rfl (OpP.add64 rfl rfl ⟨by omega, by omega⟩) ?_
          refine RW.pureS rfl rfl rfl rfl (OpP.leq rfl rfl) ?_
          refine RW.done rfl ?_
          refine G.sub (ρ' := [(1, _), (2, _), (7, _), (9, _), (11, _), (55, _)]) ⟨rfl, rfl, rfl, rfl, rfl, rfl, trivial⟩ ?_
          refine G.ite rfl rfl (fun hlt => ?_) (fun hlt => ?_)
          · refine G.skip rfl ?_
            refine G.seq rfl ?_
            refine G.block rfl rfl ?_
            refine G.seq rfl ?_
            refine G.reg Tryd.func4 rfl ?_
            refine RW.pureS rfl rfl rfl rfl (OpP.move rfl) ?_
            refine RW.pureS rfl rfl rfl rfl (OpP.assign rfl) ?_
            refine RW.done rfl ?_
            refine G.sub (ρ' := [(1, _), (2, _), (7, _), (9, _), (11, _), (12, _), (55, _)]) ⟨rfl, rfl, rfl, rfl, rfl, rfl, rfl, trivial⟩ ?_
            refine G.seq rfl ?_
            refine G.seq rfl ?_
            refine G.reg Tryd.func4 rfl ?_
            refine RW.pureS rfl rfl rfl rfl (OpP.move rfl) ?_
            refine RW.pureS rfl rfl rfl rfl (OpP.move rfl) ?_
            refine RW.pureS rfl rfl rfl rfl (OpP.lenString Tryd.underlying9 rfl) ?_
            refine RW.pureS rfl rfl rfl rfl (OpP.add64 rfl rfl ⟨by omega, by omega⟩) ?_
            refine RW.pureS rfl rfl rfl rfl (OpP.eqlInt rfl rfl) ?_
            refine RW.done rfl ?_
            refine G.sub (ρ' := [(1, _), (2, _), (7, _), (9, _), (11, _), (12, _), (55, _), (63, _)]) ⟨rfl, rfl, rfl, rfl, rfl, rfl, rfl, rfl, trivial⟩ ?_
            have fin : ∀ (i : Int) (h' : Heap) (ρ' : Env), Sub [(1, .string (bs s)), (2, .int .i64 a), (7, p), (9, v9), (11, .int .i64 k), (12, .int .i64 i)] ρ' → h' = g → G Tryd.prog 4 Tryd.f4 [.code [1, 1, 0, 0, 1, 0, 0, 1, 0, 1, 1, 1, 1, 1], .blk 1, .code [1, 1, 0, 0, 1, 0, 1, 1, 1, 1, 1], .loop [0, 0, 1, 0, 1, 1, 1, 1, 1], .blk 0, .code [1, 1, 1, 1, 1, 1]] ρ' h' (Ret fun r h' => r = .bool true ∧ Ext0 h0 h') := by
              rintro i g1 ρ' hsub rfl
              refine G.sub (ρ' := [(1, .string (bs s)), (2, .int .i64 a), (7, p), (9, v9), (11, .int .i64 k), (12, .int .i64 i)]) hsub ?_
              refine G.seq rfl ?_
              refine G.reg Tryd.func4 rfl ?_
              refine RW.pureS rfl rfl rfl rfl (OpP.move rfl) ?_
              refine RW.pureS rfl rfl rfl rfl (OpP.move rfl) ?_
              refine RW.pureS rfl rfl rfl rfl (OpP.move rfl) ?_
              refine RW.opS rfl rfl rfl rfl (OpX.call (vs := [_, _, _]) Tryd.func19 rfl H.nm19 rfl (CallsH.toX (match_made (hp2.ext0 eg) (by omega)))) ?_
              rintro _ g2 ⟨rfl, e2'⟩
              rw [matchM_ref h00]
              refine RW.pureS rfl rfl rfl rfl (OpP.move rfl) ?_
              refine RW.pureS rfl rfl rfl rfl (OpP.extract rfl rfl) ?_
              refine RW.pureS rfl rfl rfl rfl (OpP.extract rfl rfl) ?_
              refine RW.pureS rfl rfl rfl rfl (OpP.assign rfl) ?_
              refine RW.pureS rfl rfl rfl rfl (OpP.assign rfl) ?_
              refine RW.done rfl ?_
              refine G.sub (ρ' := [(1, _), (2, _), (7, _), (9, _), (11, _), (12, _), (13, _), (14, _)]) ⟨rfl, rfl, rfl, rfl, rfl, rfl, rfl, rfl, trivial⟩ ?_
              refine G.seq rfl ?_
              refine G.reg Tryd.func4 rfl ?_
              refine RW.pureS rfl rfl rfl rfl (OpP.move rfl) ?_
              refine RW.pureS rfl rfl rfl rfl (OpP.move rfl) ?_
              refine RW.pureS rfl rfl rfl rfl (OpP.move rfl) ?_
              refine RW.opS rfl rfl rfl rfl (OpX.call (vs := [_, _, _]) Tryd.func20 rfl H.nm20 rfl (CallsH.toX (matchR_calls (hrs.mv (Mv.ext0 (eg.trans e2'))) hok hrl (by omega)))) ?_
              rintro _ g3 ⟨rfl, e3'⟩
              refine RW.pureS rfl rfl rfl rfl (OpP.move rfl) ?_
              refine RW.pureS rfl rfl rfl rfl (OpP.extract rfl rfl) ?_
              refine RW.pureS rfl rfl rfl rfl (OpP.extract rfl rfl) ?_
              refine RW.pureS rfl rfl rfl rfl (OpP.extract rfl rfl) ?_
              refine RW.pureS rfl rfl rfl rfl (OpP.assign rfl) ?_
              refine RW.pureS rfl rfl rfl rfl (OpP.assign rfl) ?_
              refine RW.pureS rfl rfl rfl rfl (OpP.assign rfl) ?_
              refine RW.done rfl ?_
              refine G.sub (ρ' := [(1, _), (2, _), (7, _), (9, _), (11, _), (12, _), (13, _), (14, _), (15, _), (16, _)]) ⟨rfl, rfl, rfl, rfl, rfl, rfl, rfl, rfl, rfl, rfl, trivial⟩ ?_
              refine G.seq rfl ?_
              refine G.regTo1 [(87, .bool false)] [(1, _), (2, _), (7, _), (9, _), (11, _), (12, _), (13, _), (14, _), (15, _), (16, _)] ⟨rfl, rfl, rfl, rfl, rfl, rfl, rfl, rfl, rfl, rfl, trivial⟩ Tryd.func4 rfl ?_ ?_
              · refine RW.pureS rfl rfl rfl rfl (OpP.move rfl) ?_
                refine RW.pureS rfl rfl rfl rfl (OpP.move rfl) ?_
                refine RW.pureS rfl rfl rfl rfl (OpP.neqInt rfl rfl) ?_
                refine RW.pureS rfl rfl rfl rfl (OpP.move rfl) ?_
                refine RW.know (d := 83) (b' := false) rfl ((by simp)) ?_
                refine RW.pureS rfl rfl rfl rfl (OpP.move rfl) ?_
                refine RW.pureS rfl rfl rfl rfl (OpP.move rfl) ?_
                refine RW.pureS rfl rfl rfl rfl (OpP.neqInt rfl rfl) ?_
                refine RW.pureS rfl rfl rfl rfl (OpP.pickF rfl rfl) ?_
                refine RW.done rfl ?_
                exact ⟨rfl, at_bool rfl (by simp), rfl, rfl, rfl, rfl, rfl, rfl, rfl, rfl, rfl, rfl, trivial⟩
              · refine G.cond rfl rfl (fun hc => absurd hc (by decide)) (fun _ => ?_)
                refine G.skip rfl ?_
                refine G.blkEnd ?_
                refine G.reg Tryd.func4 rfl ?_
                refine RW.pureS rfl rfl rfl rfl (OpP.move rfl) ?_
                refine RW.pureS rfl rfl rfl rfl (OpP.add64 rfl rfl ⟨by omega, by omega⟩) ?_
                refine RW.pureS rfl rfl rfl rfl (OpP.assign rfl) ?_
                refine RW.done rfl ?_
                refine G.sub (ρ' := [(1, _), (2, _), (7, _), (9, _), (11, _), (12, _), (13, _), (14, _), (15, _), (16, _), (87, _)]) ⟨rfl, rfl, rfl, rfl, rfl, rfl, rfl, rfl, rfl, rfl, rfl, trivial⟩ ?_
                exact ih (k + 1) _ _ ⟨rfl, rfl, rfl, rfl, rfl, trivial⟩ ⟨(eg.trans e2').trans e3', by omega, by omega⟩ (by omega)
            refine G.ite rfl rfl (fun hke => ?_) (fun hke => ?_)
            · refine G.reg Tryd.func4 rfl ?_
              refine RW.pureS rfl rfl rfl rfl (OpP.move rfl) ?_
              refine RW.pureS rfl rfl rfl rfl (OpP.assign rfl) ?_
              refine RW.done rfl ?_
              refine G.sub (ρ' := [(1, _), (2, _), (7, _), (9, _), (11, _), (12, _), (55, _), (63, _)]) ⟨rfl, rfl, rfl, rfl, rfl, rfl, rfl, rfl, trivial⟩ ?_
              exact fin a _ _ ⟨rfl, rfl, rfl, rfl, rfl, rfl, trivial⟩ rfl
            · refine G.skip rfl ?_
              exact fin k _ _ ⟨rfl, rfl, rfl, rfl, rfl, rfl, trivial⟩ rfl
          · obtain ⟨O, nb, v, ss, st, rfl, hn, hm⟩ := hp2.ext0 eg
            have hmade := makeP_made hm
            have hb := made_bounds hmade
            refine G.exit rfl rfl ?_
            refine G.seq rfl ?_
            refine G.reg Tryd.func4 rfl ?_
            refine RW.pureS rfl rfl rfl rfl (OpP.move rfl) ?_
            refine RW.opS rfl rfl rfl rfl (OpX.call (vs := [_]) Tryd.func21 rfl H.nm21 rfl (CallsH.toX (start_calls hn hmade.good hb.1 (.inr hmade.stl) hb.2.1))) ?_
            rintro w4 g4 ⟨ho4, e4⟩
            refine RW.pureS rfl rfl rfl rfl (OpP.assign rfl) ?_
            refine RW.done rfl ?_
            refine G.sub (ρ' := [(1, _), (2, _), (7, _), (9, _), (11, _), (18, _), (55, _)]) ⟨rfl, rfl, rfl, rfl, rfl, rfl, rfl, trivial⟩ ?_
            refine G.seq rfl ?_
            refine G.seq rfl ?_
            refine G.reg Tryd.func4 rfl ?_
            refine RW.pureS rfl rfl rfl rfl (OpP.assign rfl) ?_
            refine RW.done rfl ?_
            refine G.sub (ρ' := [(1, _), (2, _), (7, _), (9, _), (11, _), (18, _), (19, _), (55, _)]) ⟨rfl, rfl, rfl, rfl, rfl, rfl, rfl, rfl, trivial⟩ ?_
            refine G.block rfl rfl ?_
            refine G.loop (σ := Nat × Value) (fun q => [(1, .string (bs s)), (7, .pointer (some ⟨nb, 0, none⟩)), (9, v9), (18, q.2), (19, .int .i64 (q.1 : Nat))]) (fun q h' => Ext0 g h' ∧ q.1 ≤ s.length + 1 ∧ (q.1 ≤ s.length → OwE encN h' g.size 3 q.2 (runP ss st (s.take q.1)))) (fun q => s.length + 1 - q.1) ((0, w4)) rfl ⟨rfl, rfl, rfl, rfl, rfl, trivial⟩ ⟨e4, by omega, fun _ => ho4⟩ ?_
            rintro ⟨i, nv⟩ g5 ⟨eg5, hi, hnv⟩ ih2
            try dsimp only
            dsimp only at hi hnv
            have hn5 : NfaAt g5 O nb v ss st := hn.ext0 eg5 (fun _ _ k => k)
            have hzg5 := eg5.size
            refine G.seq rfl ?_
            refine G.seq rfl ?_
            refine G.reg Tryd.func4 rfl ?_
            refine RW.pureS rfl rfl rfl rfl (OpP.move rfl) ?_
            refine RW.pureS rfl rfl rfl rfl (OpP.move rfl) ?_
            refine RW.pureS rfl rfl rfl rfl (OpP.lenString Tryd.underlying9 rfl) ?_
            refine RW.pureS rfl rfl rfl rfl (OpP.leq rfl rfl) ?_
            refine RW.done rfl ?_
            refine G.sub (ρ' := [(1, _), (7, _), (9, _), (18, _), (19, _), (93, _)]) ⟨rfl, rfl, rfl, rfl, rfl, rfl, trivial⟩ ?_
            refine G.ite rfl rfl (fun hlt2 => ?_) (fun hlt2 => ?_)
            · have hil : i ≤ s.length := by omega
              have hnv := hnv hil
              have hsb := runP_sub ss st (s.take i)
              have hrd : SlR eNat g5 (fun _ => False) nv (runP ss st (s.take i)) := OwE.read hnv (fun _ _ k => k)
              have hnl : (runP ss st (s.take i)).length ≤ ss.length := by have := hsb.length_le; simpa using this
              have hnm : ∀ j ∈ runP ss st (s.take i), j < ss.length := fun j hj => List.mem_range.1 (hsb.subset hj)
              have hss := hb.1
              have hcut : (bs s).extract 0 i = bs (s.take i) := by rw [bs_part s 0 i (Nat.zero_le _)]; rfl
              have hrs5 := hrs.mv (Mv.ext0 (eg.trans eg5))
              have htl : (s.take i).length ≤ 1000000 := by rw [List.length_take]; omega
              have hleast : CallsH Tryd.prog 23 #[v9, .string ((bs s).extract 0 i)] g5 (Ret fun r h' => r = .int .i64 (refLeast 0 (rulesR rules) (s.take i)) ∧ Ext0 g5 h') := by rw [hcut]; exact leastR_calls hrs5 hok hrl htl
              refine G.skip rfl ?_
              refine G.seq rfl ?_
              refine G.block rfl rfl ?_
              refine G.seq rfl ?_
              refine G.seq rfl ?_
              refine G.draw (fun b => Array.size g5 ≤ b) (fun i => Nat.blt i 9) (sz := 9) (listed := #[false, false, false, false, false, false, false, false, false]) Tryd.func4 H.mixed rfl rfl rfl ?_
              refine RD.takeS 0 (listed' := #[true, false, false, false, false, false, false, false, false]) rfl (by kernel_rfl) (by kernel_rfl) (by kernel_rfl) rfl rfl rfl (fun h' e => OpP.move rfl) rfl ?_
              refine RD.takeS 1 (listed' := #[true, true, false, false, false, false, false, false, false]) rfl (by kernel_rfl) (by kernel_rfl) (by kernel_rfl) rfl rfl rfl (fun h' e => OpP.move rfl) rfl ?_
              refine RD.takeS 3 (listed' := #[true, true, false, true, false, false, false, false, false]) rfl (by kernel_rfl) (by kernel_rfl) (by kernel_rfl) rfl rfl rfl (fun h' e => OpP.move rfl) rfl ?_
              refine RD.takeS 4 (listed' := #[true, true, false, true, true, false, false, false, false]) rfl (by kernel_rfl) (by kernel_rfl) (by kernel_rfl) rfl rfl rfl (fun h' e => OpP.move rfl) rfl ?_
              refine RD.takeS 5 (listed' := #[true, true, false, true, true, true, false, false, false]) rfl (by kernel_rfl) (by kernel_rfl) (by kernel_rfl) rfl rfl rfl (fun h' e => OpP.move rfl) rfl ?_
              refine RD.takeS 6 (listed' := #[true, true, false, true, true, true, true, false, false]) rfl (by kernel_rfl) (by kernel_rfl) (by kernel_rfl) rfl rfl rfl (fun h' e => OpP.sliceStrHi Tryd.underlying9 rfl rfl i rfl (by omega)) rfl ?_
              refine RD.oneS 2 (listed' := #[true, true, true, true, true, true, true, false, false]) rfl (by kernel_rfl) rfl rfl rfl (OpX.call (vs := [_, _]) Tryd.func22 rfl H.nm22 rfl (CallsH.toX (accepts_calls hn5 hb.1 hrd hnm (by omega)))) rfl ?_
              rintro _ g6 ⟨rfl, hg6⟩
              refine ⟨fun _ => by subst hg6; exact Ext.refl _ _, ?_⟩
              subst hg6
              refine RD.oneS 7 (listed' := #[true, true, true, true, true, true, true, true, false]) rfl (by kernel_rfl) rfl rfl rfl (OpX.call (vs := [_, _]) Tryd.func23 rfl H.nm23 rfl (CallsH.toX (hleast))) rfl ?_
              rintro _ g7 ⟨rfl, e7⟩
              refine ⟨fun _ => e7.mono (fun _ _ k => k.elim), ?_⟩
              refine RD.takeS 8 (listed' := #[true, true, true, true, true, true, true, true, true]) rfl (by kernel_rfl) (by kernel_rfl) (by kernel_rfl) rfl rfl rfl (fun h' e => OpP.neqInt rfl rfl) rfl ?_
              refine RD.done (by kernel_rfl) ?_
              refine G.sub (ρ' := [(1, _), (7, _), (9, _), (18, _), (19, _), (93, _), (104, _)]) ⟨rfl, rfl, rfl, rfl, rfl, rfl, rfl, trivial⟩ ?_
              refine G.cond rfl rfl (fun hc => absurd hc (by rw [least_ref hm]; simp)) (fun _ => ?_)
              have hn7 : NfaAt g7 O nb v ss st := hn5.ext0 e7 (fun _ _ k => k)
              have z7 := e7.size
              refine G.skip rfl ?_
              refine G.seq rfl ?_
              refine G.reg Tryd.func4 rfl ?_
              refine RW.pureS rfl rfl rfl rfl (OpP.move rfl) ?_
              refine RW.pureS rfl rfl rfl rfl (OpP.move rfl) ?_
              refine RW.pureS rfl rfl rfl rfl (OpP.lenString Tryd.underlying9 rfl) ?_
              refine RW.pureS rfl rfl rfl rfl (OpP.lss rfl rfl) ?_
              refine RW.done rfl ?_
              refine G.sub (ρ' := [(1, _), (7, _), (9, _), (18, _), (19, _), (93, _), (104, _), (108, _)]) ⟨rfl, rfl, rfl, rfl, rfl, rfl, rfl, rfl, trivial⟩ ?_
              refine G.ite rfl rfl (fun hstep => ?_) (fun hstep => ?_)
              · have hil2 : i < s.length := by omega
                refine G.reg Tryd.func4 rfl ?_
                refine RW.pureS rfl rfl rfl rfl (OpP.move rfl) ?_
                refine RW.pureS rfl rfl rfl rfl (OpP.move rfl) ?_
                refine RW.pureS rfl rfl rfl rfl (OpP.move rfl) ?_
                refine RW.pureS rfl rfl rfl rfl (OpP.move rfl) ?_
                refine RW.pureS rfl rfl rfl rfl (OpP.indexStr Tryd.underlying9 rfl rfl i rfl (bs_at (List.getElem?_eq_getElem hil2))) ?_
                refine RW.opS rfl rfl rfl rfl (OpX.call (vs := [_, _, _]) Tryd.func24 rfl H.nm24 rfl (CallsH.toX (step_calls s[i] hn7 hmade.good hb.1 (SlR.mv hrd (Mv.ext0 e7)) hnm (by omega) (hb.2.2 _ _ hsb)))) ?_
                rintro w8 g8 ⟨ho8, e8⟩
                refine RW.pureS rfl rfl rfl rfl (OpP.assign rfl) ?_
                refine RW.done rfl ?_
                refine G.sub (ρ' := [(1, _), (7, _), (9, _), (18, _), (19, _), (93, _), (104, _), (108, _)]) ⟨rfl, rfl, rfl, rfl, rfl, rfl, rfl, rfl, trivial⟩ ?_
                refine G.blkEnd ?_
                refine G.reg Tryd.func4 rfl ?_
                refine RW.pureS rfl rfl rfl rfl (OpP.move rfl) ?_
                refine RW.pureS rfl rfl rfl rfl (OpP.add64 rfl rfl ⟨by omega, by omega⟩) ?_
                refine RW.pureS rfl rfl rfl rfl (OpP.assign rfl) ?_
                refine RW.done rfl ?_
                refine G.sub (ρ' := [(1, _), (7, _), (9, _), (18, _), (19, _), (93, _), (104, _), (108, _)]) ⟨rfl, rfl, rfl, rfl, rfl, rfl, rfl, rfl, trivial⟩ ?_
                exact ih2 (i + 1, w8) _ _ ⟨rfl, rfl, rfl, rfl, rfl, trivial⟩ ⟨(eg5.trans e7).trans e8, by show i + 1 ≤ s.length + 1; omega, fun _ => by show OwE encN g8 g.size 3 w8 (runP ss st (s.take (i + 1))); rw [runP_snoc hil2]; exact OwnH.lower ho8 (by omega)⟩ (by show s.length + 1 - (i + 1) < s.length + 1 - i; omega)
              · refine G.skip rfl ?_
                refine G.blkEnd ?_
                refine G.reg Tryd.func4 rfl ?_
                refine RW.pureS rfl rfl rfl rfl (OpP.move rfl) ?_
                refine RW.pureS rfl rfl rfl rfl (OpP.add64 rfl rfl ⟨by omega, by omega⟩) ?_
                refine RW.pureS rfl rfl rfl rfl (OpP.assign rfl) ?_
                refine RW.done rfl ?_
                refine G.sub (ρ' := [(1, _), (7, _), (9, _), (18, _), (19, _), (93, _), (104, _), (108, _)]) ⟨rfl, rfl, rfl, rfl, rfl, rfl, rfl, rfl, trivial⟩ ?_
                exact ih2 (i + 1, nv) _ _ ⟨rfl, rfl, rfl, rfl, rfl, trivial⟩ ⟨eg5.trans e7, by show i + 1 ≤ s.length + 1; omega, fun k => by exfalso; have k : i + 1 ≤ s.length := k; omega⟩ (by show s.length + 1 - (i + 1) < s.length + 1 - i; omega)
            · have e05 := (e02.trans eg).trans eg5
              refine G.exit rfl rfl ?_
              refine G.seq rfl ?_
              refine G.reg Tryd.func4 rfl ?_
              refine RW.opS rfl rfl rfl rfl (OpX.call (vs := []) Tryd.func15 rfl H.nm15 rfl (CallsH.toX (matched_calls (hg.ext e05 (fun _ k => k.elim)) e05.size))) ?_
              rintro _ h9 ⟨rfl, e9⟩
              refine RW.pureS rfl rfl rfl rfl (OpP.assign rfl) ?_
              refine RW.done rfl ?_
              refine G.sub (ρ' := [(1, _), (6, _), (7, _), (9, _), (18, _), (19, _), (93, _)]) ⟨rfl, rfl, rfl, rfl, rfl, rfl, rfl, trivial⟩ ?_
              refine G.ret Tryd.func4 rfl rfl ?_
              exact ⟨_, rfl, rfl, e05.trans e9⟩

end Go.Proofs.YtlegopbpofofgaaDoor
