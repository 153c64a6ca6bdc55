/- Plain words, the logic of walks, and walks that the statement's proof leans on (part 19). -/
import Derived.LaidLaws
import Derived.LaidMore
import Derived.OpenShut
import Derived.Stop.Joined
import Derived.ChangeMaps5
import Derived.Lay
import Derived.Test.YtlegopbpofofgaaDoorQa
import Derived.Test.YtlegopbpofofgaaDoorQb
import Derived.Test.YtlegopbpofofgaaDoorQc
import Derived.Test.YtlegopbpofofgaaDoorQd
import Derived.Test.YtlegopbpofofgaaDoorQe
import Derived.Test.YtlegopbpofofgaaDoorQf
import Derived.Test.YtlegopbpofofgaaDoorQg
import Derived.Test.YtlegopbpofofgaaDoorQh
import Derived.Test.YtlegopbpofofgaaDoorQi
import Derived.Test.YtlegopbpofofgaaDoorQj
import Derived.Test.YtlegopbpofofgaaDoorQk
import Derived.Test.YtlegopbpofofgaaDoorQl
import Derived.Test.YtlegopbpofofgaaDoorQm
import Derived.Test.YtlegopbpofofgaaDoorQn
import Derived.Test.YtlegopbpofofgaaDoorQo
import Derived.Test.YtlegopbpofofgaaDoorQp
import Derived.Test.YtlegopbpofofgaaDoorQq
import Derived.Test.YtlegopbpofofgaaDoorQr

/- What the rows of the NFA list, opened. -/
namespace Go.Proofs.YtlegopbpofofgaaDoor
open Go Go.Lw Go.ChangeShapes Go.WideShapes Go.ChangeAt Go.RowKit
set_option maxRecDepth 20000

theorem own : ownKnob Tryd.prog.godebug = none := by kernel_rfl
theorem laidOut : laidOutB Tryd.prog = true := by kernel_rfl

theorem asc_signs (c : UInt8) : ((asc (c.toNat : Int) [((42 : Int), (4 : Int)), (43, 5), (63, 6)]).map (Value.int .i64)).getD (Value.int .i64 0) = Value.int .i64 (signOf c : Nat) := by
  have hc : ∀ n : Nat, n < 256 → (c.toNat = n ↔ c = UInt8.ofNat n) := fun n hn => by
    rw [← UInt8.toNat_inj]; simp; rw [Nat.mod_eq_of_lt hn]
  simp only [asc, signOf]
  by_cases h1 : c = 42
  · subst h1; rfl
  by_cases h2 : c = 43
  · subst h2; rfl
  by_cases h3 : c = 63
  · subst h3; rfl
  have n1 : ¬ (c.toNat : Int) = 42 := fun e => h1 ((hc 42 (by decide)).1 (by omega))
  have n2 : ¬ (c.toNat : Int) = 43 := fun e => h2 ((hc 43 (by decide)).1 (by omega))
  have n3 : ¬ (c.toNat : Int) = 63 := fun e => h3 ((hc 63 (by decide)).1 (by omega))
  simp [h1, h2, h3, n1, n2, n3]

theorem signs_of {W : World} {g t : Nat} {cs : Array Value} {fuel : Nat} {pl : List MemPlace} {sp : Nat → Bool} {held : Bool} {enc : TypeId × Value → Unit} (hg : Tryd.prog.globalNamed "limner/regs.signs" = some g) (ht : (Tryd.prog.globals[g]?).map (·.type) = some t) (hv : W.var? Tryd.prog "limner/regs.signs" = some cs)
    (hd : DataW.trod enc Tryd.prog W 0 sp held fuel t cs.toList = some (Rows.laid_limner_regs_signs, pl)) : Sg W.heap W.heap.size := by
  have gT : Tryd.prog.globalNamed "limner/regs.signs" = some 0 := by kernel_rfl
  have tT : (Tryd.prog.globals[0]?).map (·.type) = some 155 := by kernel_rfl
  obtain rfl := Option.some.inj (gT.symm.trans hg)
  obtain rfl := Option.some.inj (tT.symm.trans ht)
  obtain ⟨b, hcs, l, hm, hp⟩ := laid_map (kk := .u8) (kd := .i64) Tryd.underlying155 Tryd.underlying5 Tryd.underlying3 hd
  have hcell : W.cell? ⟨0, 0, none⟩ = some (.map (some b)) := by
    have := World.var?_cell hg hv 0
    obtain ⟨l1⟩ := cs
    simp only at hcs
    subst hcs
    simpa using this
  have hc2 : cellAt W.heap ⟨0, 0, none⟩ = some (.map (some b)) := (At.refl W).cell _ ▸ hcell
  have hperm : l.Perm [((42 : Int), (4 : Int)), (43, 5), (63, 6)] := by
    have hinj : ∀ p q : Int × Int, ((.int .u8 p.1, .lit (.int .i64 p.2)) : Lit × DataW Unit) = (.int .u8 q.1, .lit (.int .i64 q.2)) → p = q := by
      intro p q h
      simp only [Prod.mk.injEq, Lit.int.injEq, DataW.lit.injEq, true_and] at h
      exact Prod.ext h.1 h.2
    have hp' : (l.map fun p => ((.int .u8 p.1, .lit (.int .i64 p.2)) : Lit × DataW Unit)).Perm ([((42 : Int), (4 : Int)), (43, 5), (63, 6)].map fun p => ((.int .u8 p.1, .lit (.int .i64 p.2)) : Lit × DataW Unit)) := hp
    have hback : ∀ m : List (Int × Int), (m.map fun p => ((.int .u8 p.1, .lit (.int .i64 p.2)) : Lit × DataW Unit)).map (fun y => match y with | (.int _ a, .lit (.int _ b)) => (a, b) | _ => ((0 : Int), (0 : Int))) = m := by
      intro m
      rw [List.map_map]
      have : ((fun y => match y with | (.int _ a, .lit (.int _ b)) => (a, b) | _ => ((0 : Int), (0 : Int))) ∘ fun p => ((.int .u8 p.1, .lit (.int .i64 p.2)) : Lit × DataW Unit)) = id := by funext p; rfl
      rw [this, List.map_id]
    have := hp'.map (fun y => match y with | (.int _ a, .lit (.int _ b)) => (a, b) | _ => ((0 : Int), (0 : Int)))
    rwa [hback, hback] at this
  refine ⟨b, lt_of_cellAt hc2, hm.lt, hc2, l, hm, fun c => ?_⟩
  rw [asc_perm hperm (by decide)]
  exact asc_signs c

theorem bs_back (s : ByteArray) : bs s.data.toList = s := by cases s; simp [bs]
theorem eby_of {h : Heap} {O : Nat → Prop} {v : Value} {l : List ByteArray} (k : SlR .str h O v l) : SlR eBy h O v (l.map fun s => s.data.toList) := by
  obtain ⟨oa, n, c, rfl, hl, hnc, hc, hg⟩ := k
  refine ⟨oa, n, c, rfl, by simpa using hl, hnc, hc, fun i x hx => ?_⟩
  rw [List.getElem?_map] at hx
  cases hs : l[i]? with
  | none => rw [hs] at hx; cases hx
  | some s =>
    rw [hs] at hx
    simp only [Option.map_some, Option.some.injEq] at hx
    subst hx
    obtain ⟨b, o, cs, h1, h2, h3, h4⟩ := hg i s hs
    refine ⟨b, o, cs, h1, h2, h3, ?_⟩
    have h4 : cs = [.string s] := h4
    show cs = [.string (bs s.data.toList)]
    rw [bs_back]; exact h4

end Go.Proofs.YtlegopbpofofgaaDoor

/- NfasMatch: what it answers. -/
namespace Go.Proofs.YtlegopbpofofgaaDoor
open Go Go.Lw
set_option maxRecDepth 20000

theorem runP_snoc {ss : List Ste} {st : Nat} {s : By} {i : Nat} (hi : i < s.length) : runP ss st (s.take (i + 1)) = stepP ss s[i] (runP ss st (s.take i)) := by
  rw [List.take_succ_eq_append_getElem hi, runP_append]; rfl
theorem runP_sub (ss : List Ste) (st : Nat) (w : By) : (runP ss st w).Sublist (List.range ss.length) := by
  have key : ∀ (w : By) (T : List Nat), T.Sublist (List.range ss.length) → (w.foldl (fun T c => stepP ss c T) T).Sublist (List.range ss.length) := by
    intro w
    induction w with
    | nil => intro T h; exact h
    | cons c w ih => intro T _; exact ih _ (stepP_sub ss c T)
  exact key w _ (startP_sub ss st)

theorem nfasMatch_calls {h : Heap} (hg : Sg h h.size) {rv : Value} {rules : List By} {s : By} {a : Int} (hr : SlR eBy h (fun _ => False) rv rules) :
    CallsH Tryd.prog 4 #[rv, .string (bs s), .int .i64 a] h (Ret fun r h' => r = .bool true ∧ Ext0 h h') := by
  have hbs := bs_size s
  refine CallsH.of Tryd.func4 rfl rfl ?_
  refine G.seq rfl ?_
  refine G.reg Tryd.func4 rfl ?_
  refine RW.pureS rfl rfl rfl rfl (OpP.assign rfl) ?_
  refine RW.done rfl ?_
  refine G.sub (ρ' := [(0, _), (1, _), (2, _), (6, _)]) ⟨rfl, rfl, rfl, rfl, trivial⟩ ?_
  refine G.seq rfl ?_
  refine G.seq rfl ?_
  refine G.regToX (fun (_u : Unit) (h' : Heap) => h' = h) (fun (_u : Unit) => [(26, .bool (greatP rules || decide (60 < s.length)))]) [(0, _), (1, _), (2, _), (6, _)] ⟨rfl, rfl, rfl, rfl, trivial⟩ Tryd.func4 rfl ?_ ?_
  · refine RW.pureS rfl rfl rfl rfl (OpP.move rfl) ?_
    refine RW.opS rfl rfl rfl rfl (OpX.call (vs := [_]) Tryd.func18 rfl H.nm18 rfl (CallsH.toX (great_calls hr))) ?_
    rintro _ h0 ⟨rfl, hh0⟩
    refine RW.pureS rfl rfl rfl rfl (OpP.move rfl) ?_
    subst hh0
    refine RW.split (d := 22) rfl (fun hg1 => ?_) (fun hg1 => ?_)
    · refine RW.skipS rfl rfl rfl rfl ?_
      refine RW.skipS rfl rfl rfl rfl ?_
      refine RW.skipS rfl rfl rfl rfl ?_
      refine RW.pureS rfl rfl rfl rfl (OpP.pickT rfl rfl) ?_
      refine RW.done rfl ?_
      exact ⟨(), rfl, at_bool rfl (by rw [hg1, Bool.true_or]), rfl, rfl, rfl, rfl, trivial⟩
    · refine RW.pureS rfl rfl rfl rfl (OpP.move rfl) ?_
      refine RW.pureS rfl rfl rfl rfl (OpP.lenString Tryd.underlying9 rfl) ?_
      refine RW.pureS rfl rfl rfl rfl (OpP.gtr rfl rfl) ?_
      refine RW.pureS rfl rfl rfl rfl (OpP.pickF rfl rfl) ?_
      refine RW.done rfl ?_
      exact ⟨(), rfl, at_bool rfl (by rw [hg1, Bool.false_or]; simp only [decide_eq_decide]; omega), rfl, rfl, rfl, rfl, trivial⟩
  · rintro _ h0 rfl
    refine G.cond rfl rfl (fun hbig => ?_) (fun hbig => ?_)
    · refine G.seq rfl ?_
      refine G.reg Tryd.func4 rfl ?_
      refine RW.opS rfl rfl rfl rfl (OpX.call (vs := []) Tryd.func15 rfl H.nm15 rfl (CallsH.toX (matched_calls hg (Nat.le_refl _)))) ?_
      rintro _ h1 ⟨rfl, e1⟩
      refine RW.pureS rfl rfl rfl rfl (OpP.assign rfl) ?_
      refine RW.done rfl ?_
      refine G.sub (ρ' := [(0, _), (1, _), (2, _), (6, _), (26, _)]) ⟨rfl, rfl, rfl, rfl, rfl, trivial⟩ ?_
      refine G.ret Tryd.func4 rfl rfl ?_
      exact ⟨_, rfl, rfl, e1⟩
    · rw [Bool.or_eq_false_iff] at hbig
      have hnot := great_not hbig.1
      have hs60 : s.length ≤ 60 := by have := of_decide_eq_false hbig.2; omega
      have hall : ∀ x ∈ rules, x.length ≤ 1000000 := fun x hx => by have := hnot.2 x hx; omega
      refine G.skip rfl ?_
      refine G.seq rfl ?_
      refine G.reg Tryd.func4 rfl ?_
      refine RW.pureS rfl rfl rfl rfl (OpP.move rfl) ?_
      refine RW.opS rfl rfl rfl rfl (OpX.call (vs := [_]) Tryd.func16 rfl H.nm16 rfl (CallsH.toX (make_made hg (Nat.le_refl _) hr hall))) ?_
      rintro _ h1 ⟨⟨p, rfl, hp⟩, e1⟩
      refine RW.pureS rfl rfl rfl rfl (OpP.move rfl) ?_
      refine RW.pureS rfl rfl rfl rfl (OpP.extract rfl rfl) ?_
      refine RW.pureS rfl rfl rfl rfl (OpP.extract rfl rfl) ?_
      refine RW.pureS rfl rfl rfl rfl (OpP.assign rfl) ?_
      refine RW.pureS rfl rfl rfl rfl (OpP.assign rfl) ?_
      refine RW.done rfl ?_
      refine G.sub (ρ' := [(0, _), (1, _), (2, _), (6, _), (7, _), (8, _), (26, _)]) ⟨rfl, rfl, rfl, rfl, rfl, rfl, rfl, trivial⟩ ?_
      refine G.seq rfl ?_
      refine G.reg Tryd.func4 rfl ?_
      refine RW.pureS rfl rfl rfl rfl (OpP.move rfl) ?_
      refine RW.opS rfl rfl rfl rfl (OpX.call (vs := [_]) Tryd.func17 rfl H.nm17 rfl (CallsH.toX (rules_calls (hr.ext0 e1) hall))) ?_
      rintro _ h2 ⟨⟨v9, rfl, hv9⟩, e2⟩
      rw [makeE_rules]
      have e02 := e1.trans e2
      refine RW.pureS rfl rfl rfl rfl (OpP.move rfl) ?_
      refine RW.pureS rfl rfl rfl rfl (OpP.extract rfl rfl) ?_
      refine RW.pureS rfl rfl rfl rfl (OpP.extract rfl rfl) ?_
      refine RW.pureS rfl rfl rfl rfl (OpP.assign rfl) ?_
      refine RW.pureS rfl rfl rfl rfl (OpP.assign rfl) ?_
      refine RW.done rfl ?_
      refine G.sub (ρ' := [(0, _), (1, _), (2, _), (6, _), (7, _), (8, _), (9, _), (10, _), (26, _)]) ⟨rfl, rfl, rfl, rfl, rfl, rfl, rfl, rfl, rfl, trivial⟩ ?_
      refine G.seq rfl ?_
      refine G.seq rfl ?_
      refine G.regTo1 [(44, .bool (decide (rulesP rules ≠ 0)))] [(0, _), (1, _), (2, _), (6, _), (7, _), (8, _), (9, _), (10, _), (26, _)] ⟨rfl, rfl, rfl, rfl, rfl, rfl, rfl, rfl, rfl, trivial⟩ Tryd.func4 rfl ?_ ?_
      · refine RW.pureS rfl rfl rfl rfl (OpP.move rfl) ?_
        refine RW.pureS rfl rfl rfl rfl (OpP.move rfl) ?_
        refine RW.pureS rfl rfl rfl rfl (OpP.neqInt rfl rfl) ?_
        refine RW.pureS rfl rfl rfl rfl (OpP.move rfl) ?_
        refine RW.know (d := 41) (b' := false) rfl ((by simp)) ?_
        refine RW.pureS rfl rfl rfl rfl (OpP.move rfl) ?_
        refine RW.pureS rfl rfl rfl rfl (OpP.neqInt rfl rfl) ?_
        refine RW.pureS rfl rfl rfl rfl (OpP.pickF rfl rfl) ?_
        refine RW.done rfl ?_
        exact ⟨rfl, at_bool rfl (by simp), rfl, rfl, rfl, rfl, rfl, rfl, rfl, rfl, rfl, trivial⟩
      · refine G.ite rfl rfl (fun herr => ?_) (fun herr => ?_)
        · refine G.seq rfl ?_
          refine G.regToX (fun (_u : Unit) (h' : Heap) => Ext0 h0 h') (fun (_u : Unit) => [(6, .bool true)]) [(0, _), (1, _), (2, _), (7, _), (8, _), (9, _), (10, _), (26, _), (44, _)] ⟨rfl, rfl, rfl, rfl, rfl, rfl, rfl, rfl, rfl, trivial⟩ Tryd.func4 rfl ?_ ?_
          · refine RW.pureS rfl rfl rfl rfl (OpP.move rfl) ?_
            refine RW.pureS rfl rfl rfl rfl (OpP.move rfl) ?_
            refine RW.pureS rfl rfl rfl rfl (OpP.eqlInt rfl rfl) ?_
            refine RW.pureS rfl rfl rfl rfl (OpP.move rfl) ?_
            refine RW.know (d := 48) (b' := true) rfl ((by simp)) ?_
            refine RW.opS rfl rfl rfl rfl (OpX.call (vs := []) Tryd.func15 rfl H.nm15 rfl (CallsH.toX (matched_calls (hg.ext e02 (fun _ k => k.elim)) e02.size))) ?_
            rintro _ h3 ⟨rfl, e3⟩
            refine RW.pureS rfl rfl rfl rfl (OpP.pickT rfl rfl) ?_
            refine RW.pureS rfl rfl rfl rfl (OpP.assign rfl) ?_
            refine RW.done rfl ?_
            exact ⟨(), e02.trans e3, at_bool rfl (rfl), rfl, rfl, rfl, rfl, rfl, rfl, rfl, rfl, rfl, trivial⟩
          · rintro _ h4 e4
            refine G.ret Tryd.func4 rfl rfl ?_
            exact ⟨_, rfl, rfl, e4⟩
        · have h00 : rulesP rules = 0 := by simpa using herr
          have hrs := hv9 h00
          have hok := rules_ok h00
          have hrl : (rulesR rules).length ≤ 1000000 := by simp [rulesR]; omega
          have hp : MadeAt h1 p rules := by
            rcases hp with ⟨e, he, _⟩ | hp
            · rcases make_rules rules with ⟨q, hq, _⟩ | ⟨_, hne⟩
              · rw [hq] at he; cases he
              · exact absurd h00 hne
            · exact hp
          have hp2 := hp.ext0 e2
          refine G.skip rfl ?_
          refine G.seq rfl ?_
          refine G.seq rfl ?_
          refine G.reg Tryd.func4 rfl ?_
          refine RW.pureS rfl rfl rfl rfl (OpP.assign rfl) ?_
          refine RW.done rfl ?_
          refine G.sub (ρ' := [(0, _), (1, _), (2, _), (6, _), (7, _), (8, _), (9, _), (10, _), (11, _), (26, _), (44, _)]) ⟨rfl, rfl, rfl, rfl, rfl, rfl, rfl, rfl, rfl, rfl, rfl, trivial⟩ ?_
          refine G.block rfl rfl ?_
          refine G.loop (σ := Int) (fun k => [(1, .string (bs s)), (2, .int .i64 a), (7, p), (9, v9), (11, .int .i64 k)]) (fun k h' => Ext0 h2 h' ∧ -1 ≤ k ∧ k ≤ s.length + 3) (fun k => (s.length + 3 - k).toNat) ((-1)) rfl ⟨rfl, rfl, rfl, rfl, rfl, trivial⟩ ⟨Ext.refl _ _, by decide, by omega⟩ ?_
          rintro k g ⟨eg, hk1, hk2⟩ ih
          refine G.seq rfl ?_
          refine G.seq rfl ?_
          refine G.reg Tryd.func4 rfl ?_
          refine RW.pureS rfl rfl rfl rfl (OpP.move rfl) ?_
          refine RW.pureS rfl rfl rfl rfl (OpP.move rfl) ?_
          refine RW.pureS rfl rfl rfl rfl (OpP.lenString Tryd.underlying9 rfl) ?_
          refine RW.pureS rfl rfl rfl rfl (OpP.add64 rfl rfl ⟨by omega, by omega⟩) ?_
          refine RW.pureS rfl rfl rfl rfl (OpP.leq rfl rfl) ?_
          refine RW.done rfl ?_
          refine G.sub (ρ' := [(1, _), (2, _), (7, _), (9, _), (11, _), (55, _)]) ⟨rfl, rfl, rfl, rfl, rfl, rfl, trivial⟩ ?_
          refine G.ite rfl rfl (fun hlt => ?_) (fun hlt => ?_)
          · refine G.skip rfl ?_
            refine G.seq rfl ?_
            refine G.block rfl rfl ?_
            refine G.seq rfl ?_
            refine G.reg Tryd.func4 rfl ?_
            refine RW.pureS rfl rfl rfl rfl (OpP.move rfl) ?_
            refine RW.pureS rfl rfl rfl rfl (OpP.assign rfl) ?_
            refine RW.done rfl ?_
            refine G.sub (ρ' := [(1, _), (2, _), (7, _), (9, _), (11, _), (12, _), (55, _)]) ⟨rfl, rfl, rfl, rfl, rfl, rfl, rfl, trivial⟩ ?_
            refine G.seq rfl ?_
            refine G.seq rfl ?_
            refine G.reg Tryd.func4 rfl ?_
            refine RW.pureS rfl rfl rfl rfl (OpP.move rfl) ?_
            refine RW.pureS rfl rfl rfl rfl (OpP.move rfl) ?_
            refine RW.pureS rfl rfl rfl rfl (OpP.lenString Tryd.underlying9 rfl) ?_
            refine RW.pureS rfl rfl rfl rfl (OpP.add64 rfl rfl ⟨by omega, by omega⟩) ?_
            refine RW.pureS rfl rfl rfl rfl (OpP.eqlInt rfl rfl) ?_
            refine RW.done rfl ?_
            refine G.sub (ρ' := [(1, _), (2, _), (7, _), (9, _), (11, _), (12, _), (55, _), (63, _)]) ⟨rfl, rfl, rfl, rfl, rfl, rfl, rfl, rfl, trivial⟩ ?_
            have fin : ∀ (i : Int) (h' : Heap) (ρ' : Env), Sub [(1, .string (bs s)), (2, .int .i64 a), (7, p), (9, v9), (11, .int .i64 k), (12, .int .i64 i)] ρ' → h' = g → G Tryd.prog 4 Tryd.f4 [.code [1, 1, 0, 0, 1, 0, 0, 1, 0, 1, 1, 1, 1, 1], .blk 1, .code [1, 1, 0, 0, 1, 0, 1, 1, 1, 1, 1], .loop [0, 0, 1, 0, 1, 1, 1, 1, 1], .blk 0, .code [1, 1, 1, 1, 1, 1]] ρ' h' (Ret fun r h' => r = .bool true ∧ Ext0 h0 h') := by
              rintro i g1 ρ' hsub rfl
              refine G.sub (ρ' := [(1, .string (bs s)), (2, .int .i64 a), (7, p), (9, v9), (11, .int .i64 k), (12, .int .i64 i)]) hsub ?_
              refine G.seq rfl ?_
              refine G.reg Tryd.func4 rfl ?_
              refine RW.pureS rfl rfl rfl rfl (OpP.move rfl) ?_
              refine RW.pureS rfl rfl rfl rfl (OpP.move rfl) ?_
              refine RW.pureS rfl rfl rfl rfl (OpP.move rfl) ?_
              refine RW.opS rfl rfl rfl rfl (OpX.call (vs := [_, _, _]) Tryd.func19 rfl H.nm19 rfl (CallsH.toX (match_made (hp2.ext0 eg) (by omega)))) ?_
              rintro _ g2 ⟨rfl, e2'⟩
              rw [matchM_ref h00]
              refine RW.pureS rfl rfl rfl rfl (OpP.move rfl) ?_
              refine RW.pureS rfl rfl rfl rfl (OpP.extract rfl rfl) ?_
              refine RW.pureS rfl rfl rfl rfl (OpP.extract rfl rfl) ?_
              refine RW.pureS rfl rfl rfl rfl (OpP.assign rfl) ?_
              refine RW.pureS rfl rfl rfl rfl (OpP.assign rfl) ?_
              refine RW.done rfl ?_
              refine G.sub (ρ' := [(1, _), (2, _), (7, _), (9, _), (11, _), (12, _), (13, _), (14, _)]) ⟨rfl, rfl, rfl, rfl, rfl, rfl, rfl, rfl, trivial⟩ ?_
              refine G.seq rfl ?_
              refine G.reg Tryd.func4 rfl ?_
              refine RW.pureS rfl rfl rfl rfl (OpP.move rfl) ?_
              refine RW.pureS rfl rfl rfl rfl (OpP.move rfl) ?_
              refine RW.pureS rfl rfl rfl rfl (OpP.move rfl) ?_
              refine RW.opS rfl rfl rfl rfl (OpX.call (vs := [_, _, _]) Tryd.func20 rfl H.nm20 rfl (CallsH.toX (matchR_calls (hrs.mv (Mv.ext0 (eg.trans e2'))) hok hrl (by omega)))) ?_
              rintro _ g3 ⟨rfl, e3'⟩
              refine RW.pureS rfl rfl rfl rfl (OpP.move rfl) ?_
              refine RW.pureS rfl rfl rfl rfl (OpP.extract rfl rfl) ?_
              refine RW.pureS rfl rfl rfl rfl (OpP.extract rfl rfl) ?_
              refine RW.pureS rfl rfl rfl rfl (OpP.extract rfl rfl) ?_
              refine RW.pureS rfl rfl rfl rfl (OpP.assign rfl) ?_
              refine RW.pureS rfl rfl rfl rfl (OpP.assign rfl) ?_
              refine RW.pureS rfl rfl rfl rfl (OpP.assign rfl) ?_
              refine RW.done rfl ?_
              refine G.sub (ρ' := [(1, _), (2, _), (7, _), (9, _), (11, _), (12, _), (13, _), (14, _), (15, _), (16, _)]) ⟨rfl, rfl, rfl, rfl, rfl, rfl, rfl, rfl, rfl, rfl, trivial⟩ ?_
              refine G.seq rfl ?_
              refine G.regTo1 [(87, .bool false)] [(1, _), (2, _), (7, _), (9, _), (11, _), (12, _), (13, _), (14, _), (15, _), (16, _)] ⟨rfl, rfl, rfl, rfl, rfl, rfl, rfl, rfl, rfl, rfl, trivial⟩ Tryd.func4 rfl ?_ ?_
              · refine RW.pureS rfl rfl rfl rfl (OpP.move rfl) ?_
                refine RW.pureS rfl rfl rfl rfl (OpP.move rfl) ?_
                refine RW.pureS rfl rfl rfl rfl (OpP.neqInt rfl rfl) ?_
                refine RW.pureS rfl rfl rfl rfl (OpP.move rfl) ?_
                refine RW.know (d := 83) (b' := false) rfl ((by simp)) ?_
                refine RW.pureS rfl rfl rfl rfl (OpP.move rfl) ?_
                refine RW.pureS rfl rfl rfl rfl (OpP.move rfl) ?_
                refine RW.pureS rfl rfl rfl rfl (OpP.neqInt rfl rfl) ?_
                refine RW.pureS rfl rfl rfl rfl (OpP.pickF rfl rfl) ?_
                refine RW.done rfl ?_
                exact ⟨rfl, at_bool rfl (by simp), rfl, rfl, rfl, rfl, rfl, rfl, rfl, rfl, rfl, rfl, trivial⟩
              · refine G.cond rfl rfl (fun hc => absurd hc (by decide)) (fun _ => ?_)
                refine G.skip rfl ?_
                refine G.blkEnd ?_
                refine G.reg Tryd.func4 rfl ?_
                refine RW.pureS rfl rfl rfl rfl (OpP.move rfl) ?_
                refine RW.pureS rfl rfl rfl rfl (OpP.add64 rfl rfl ⟨by omega, by omega⟩) ?_
                refine RW.pureS rfl rfl rfl rfl (OpP.assign rfl) ?_
                refine RW.done rfl ?_
                refine G.sub (ρ' := [(1, _), (2, _), (7, _), (9, _), (11, _), (12, _), (13, _), (14, _), (15, _), (16, _), (87, _)]) ⟨rfl, rfl, rfl, rfl, rfl, rfl, rfl, rfl, rfl, rfl, rfl, trivial⟩ ?_
                exact ih (k + 1) _ _ ⟨rfl, rfl, rfl, rfl, rfl, trivial⟩ ⟨(eg.trans e2').trans e3', by omega, by omega⟩ (by omega)
            refine G.ite rfl rfl (fun hke => ?_) (fun hke => ?_)
            · refine G.reg Tryd.func4 rfl ?_
              refine RW.pureS rfl rfl rfl rfl (OpP.move rfl) ?_
              refine RW.pureS rfl rfl rfl rfl (OpP.assign rfl) ?_
              refine RW.done rfl ?_
              refine G.sub (ρ' := [(1, _), (2, _), (7, _), (9, _), (11, _), (12, _), (55, _), (63, _)]) ⟨rfl, rfl, rfl, rfl, rfl, rfl, rfl, rfl, trivial⟩ ?_
              exact fin a _ _ ⟨rfl, rfl, rfl, rfl, rfl, rfl, trivial⟩ rfl
            · refine G.skip rfl ?_
              exact fin k _ _ ⟨rfl, rfl, rfl, rfl, rfl, rfl, trivial⟩ rfl
          · obtain ⟨O, nb, v, ss, st, rfl, hn, hm⟩ := hp2.ext0 eg
            have hmade := makeP_made hm
            have hb := made_bounds hmade
            refine G.exit rfl rfl ?_
            refine G.seq rfl ?_
            refine G.reg Tryd.func4 rfl ?_
            refine RW.pureS rfl rfl rfl rfl (OpP.move rfl) ?_
            refine RW.opS rfl rfl rfl rfl (OpX.call (vs := [_]) Tryd.func21 rfl H.nm21 rfl (CallsH.toX (start_calls hn hmade.good hb.1 (.inr hmade.stl) hb.2.1))) ?_
            rintro w4 g4 ⟨ho4, e4⟩
            refine RW.pureS rfl rfl rfl rfl (OpP.assign rfl) ?_
            refine RW.done rfl ?_
            refine G.sub (ρ' := [(1, _), (2, _), (7, _), (9, _), (11, _), (18, _), (55, _)]) ⟨rfl, rfl, rfl, rfl, rfl, rfl, rfl, trivial⟩ ?_
            refine G.seq rfl ?_
            refine G.seq rfl ?_
            refine G.reg Tryd.func4 rfl ?_
            refine RW.pureS rfl rfl rfl rfl (OpP.assign rfl) ?_
            refine RW.done rfl ?_
            refine G.sub (ρ' := [(1, _), (2, _), (7, _), (9, _), (11, _), (18, _), (19, _), (55, _)]) ⟨rfl, rfl, rfl, rfl, rfl, rfl, rfl, rfl, trivial⟩ ?_
            refine G.block rfl rfl ?_
            refine G.loop (σ := Nat × Value) (fun q => [(1, .string (bs s)), (7, .pointer (some ⟨nb, 0, none⟩)), (9, v9), (18, q.2), (19, .int .i64 (q.1 : Nat))]) (fun q h' => Ext0 g h' ∧ q.1 ≤ s.length + 1 ∧ (q.1 ≤ s.length → OwE encN h' g.size 3 q.2 (runP ss st (s.take q.1)))) (fun q => s.length + 1 - q.1) ((0, w4)) rfl ⟨rfl, rfl, rfl, rfl, rfl, trivial⟩ ⟨e4, by omega, fun _ => ho4⟩ ?_
            rintro ⟨i, nv⟩ g5 ⟨eg5, hi, hnv⟩ ih2
            try dsimp only
            dsimp only at hi hnv
            have hn5 : NfaAt g5 O nb v ss st := hn.ext0 eg5 (fun _ _ k => k)
            have hzg5 := eg5.size
            refine G.seq rfl ?_
            refine G.seq rfl ?_
            refine G.reg Tryd.func4 rfl ?_
            refine RW.pureS rfl rfl rfl rfl (OpP.move rfl) ?_
            refine RW.pureS rfl rfl rfl rfl (OpP.move rfl) ?_
            refine RW.pureS rfl rfl rfl rfl (OpP.lenString Tryd.underlying9 rfl) ?_
            refine RW.pureS rfl rfl rfl rfl (OpP.leq rfl rfl) ?_
            refine RW.done rfl ?_
            refine G.sub (ρ' := [(1, _), (7, _), (9, _), (18, _), (19, _), (93, _)]) ⟨rfl, rfl, rfl, rfl, rfl, rfl, trivial⟩ ?_
            refine G.ite rfl rfl (fun hlt2 => ?_) (fun hlt2 => ?_)
            · have hil : i ≤ s.length := by omega
              have hnv := hnv hil
              have hsb := runP_sub ss st (s.take i)
              have hrd : SlR eNat g5 (fun _ => False) nv (runP ss st (s.take i)) := OwE.read hnv (fun _ _ k => k)
              have hnl : (runP ss st (s.take i)).length ≤ ss.length := by have := hsb.length_le; simpa using this
              have hnm : ∀ j ∈ runP ss st (s.take i), j < ss.length := fun j hj => List.mem_range.1 (hsb.subset hj)
              have hss := hb.1
              have hcut : (bs s).extract 0 i = bs (s.take i) := by rw [bs_part s 0 i (Nat.zero_le _)]; rfl
              have hrs5 := hrs.mv (Mv.ext0 (eg.trans eg5))
              have htl : (s.take i).length ≤ 1000000 := by rw [List.length_take]; omega
              have hleast : CallsH Tryd.prog 23 #[v9, .string ((bs s).extract 0 i)] g5 (Ret fun r h' => r = .int .i64 (refLeast 0 (rulesR rules) (s.take i)) ∧ Ext0 g5 h') := by rw [hcut]; exact leastR_calls hrs5 hok hrl htl
              refine G.skip rfl ?_
              refine G.seq rfl ?_
              refine G.block rfl rfl ?_
              refine G.seq rfl ?_
              refine G.seq rfl ?_
              refine G.draw (fun b => Array.size g5 ≤ b) (fun i => Nat.blt i 9) (sz := 9) (listed := #[false, false, false, false, false, false, false, false, false]) Tryd.func4 H.mixed rfl rfl rfl ?_
              refine RD.takeS 0 (listed' := #[true, false, false, false, false, false, false, false, false]) rfl (by kernel_rfl) (by kernel_rfl) (by kernel_rfl) rfl rfl rfl (fun h' e => OpP.move rfl) rfl ?_
              refine RD.takeS 1 (listed' := #[true, true, false, false, false, false, false, false, false]) rfl (by kernel_rfl) (by kernel_rfl) (by kernel_rfl) rfl rfl rfl (fun h' e => OpP.move rfl) rfl ?_
              refine RD.takeS 3 (listed' := #[true, true, false, true, false, false, false, false, false]) rfl (by kernel_rfl) (by kernel_rfl) (by kernel_rfl) rfl rfl rfl (fun h' e => OpP.move rfl) rfl ?_
              refine RD.takeS 4 (listed' := #[true, true, false, true, true, false, false, false, false]) rfl (by kernel_rfl) (by kernel_rfl) (by kernel_rfl) rfl rfl rfl (fun h' e => OpP.move rfl) rfl ?_
              refine RD.takeS 5 (listed' := #[true, true, false, true, true, true, false, false, false]) rfl (by kernel_rfl) (by kernel_rfl) (by kernel_rfl) rfl rfl rfl (fun h' e => OpP.move rfl) rfl ?_
              refine RD.takeS 6 (listed' := #[true, true, false, true, true, true, true, false, false]) rfl (by kernel_rfl) (by kernel_rfl) (by kernel_rfl) rfl rfl rfl (fun h' e => OpP.sliceStrHi Tryd.underlying9 rfl rfl i rfl (by omega)) rfl ?_
              refine RD.oneS 2 (listed' := #[true, true, true, true, true, true, true, false, false]) rfl (by kernel_rfl) rfl rfl rfl (OpX.call (vs := [_, _]) Tryd.func22 rfl H.nm22 rfl (CallsH.toX (accepts_calls hn5 hb.1 hrd hnm (by omega)))) rfl ?_
              rintro _ g6 ⟨rfl, hg6⟩
              refine ⟨fun _ => by subst hg6; exact Ext.refl _ _, ?_⟩
              subst hg6
              refine RD.oneS 7 (listed' := #[true, true, true, true, true, true, true, true, false]) rfl (by kernel_rfl) rfl rfl rfl (OpX.call (vs := [_, _]) Tryd.func23 rfl H.nm23 rfl (CallsH.toX (hleast))) rfl ?_
              rintro _ g7 ⟨rfl, e7⟩
              refine ⟨fun _ => e7.mono (fun _ _ k => k.elim), ?_⟩
              refine RD.takeS 8 (listed' := #[true, true, true, true, true, true, true, true, true]) rfl (by kernel_rfl) (by kernel_rfl) (by kernel_rfl) rfl rfl rfl (fun h' e => OpP.neqInt rfl rfl) rfl ?_
              refine RD.done (by kernel_rfl) ?_
              refine G.sub (ρ' := [(1, _), (7, _), (9, _), (18, _), (19, _), (93, _), (104, _)]) ⟨rfl, rfl, rfl, rfl, rfl, rfl, rfl, trivial⟩ ?_
              refine G.cond rfl rfl (fun hc => absurd hc (by rw [least_ref hm]; simp)) (fun _ => ?_)
              have hn7 : NfaAt g7 O nb v ss st := hn5.ext0 e7 (fun _ _ k => k)
              have z7 := e7.size
              refine G.skip rfl ?_
              refine G.seq rfl ?_
              refine G.reg Tryd.func4 rfl ?_
              refine RW.pureS rfl rfl rfl rfl (OpP.move rfl) ?_
              refine RW.pureS rfl rfl rfl rfl (OpP.move rfl) ?_
              refine RW.pureS rfl rfl rfl rfl (OpP.lenString Tryd.underlying9 rfl) ?_
              refine RW.pureS rfl rfl rfl rfl (OpP.lss rfl rfl) ?_
              refine RW.done rfl ?_
              refine G.sub (ρ' := [(1, _), (7, _), (9, _), (18, _), (19, _), (93, _), (104, _), (108, _)]) ⟨rfl, rfl, rfl, rfl, rfl, rfl, rfl, rfl, trivial⟩ ?_
              refine G.ite rfl rfl (fun hstep => ?_) (fun hstep => ?_)
              · have hil2 : i < s.length := by omega
                refine G.reg Tryd.func4 rfl ?_
                refine RW.pureS rfl rfl rfl rfl (OpP.move rfl) ?_
                refine RW.pureS rfl rfl rfl rfl (OpP.move rfl) ?_
                refine RW.pureS rfl rfl rfl rfl (OpP.move rfl) ?_
                refine RW.pureS rfl rfl rfl rfl (OpP.move rfl) ?_
                refine RW.pureS rfl rfl rfl rfl (OpP.indexStr Tryd.underlying9 rfl rfl i rfl (bs_at (List.getElem?_eq_getElem hil2))) ?_
                refine RW.opS rfl rfl rfl rfl (OpX.call (vs := [_, _, _]) Tryd.func24 rfl H.nm24 rfl (CallsH.toX (step_calls s[i] hn7 hmade.good hb.1 (SlR.mv hrd (Mv.ext0 e7)) hnm (by omega) (hb.2.2 _ _ hsb)))) ?_
                rintro w8 g8 ⟨ho8, e8⟩
                refine RW.pureS rfl rfl rfl rfl (OpP.assign rfl) ?_
                refine RW.done rfl ?_
                refine G.sub (ρ' := [(1, _), (7, _), (9, _), (18, _), (19, _), (93, _), (104, _), (108, _)]) ⟨rfl, rfl, rfl, rfl, rfl, rfl, rfl, rfl, trivial⟩ ?_
                refine G.blkEnd ?_
                refine G.reg Tryd.func4 rfl ?_
                refine RW.pureS rfl rfl rfl rfl (OpP.move rfl) ?_
                refine RW.pureS rfl rfl rfl rfl (OpP.add64 rfl rfl ⟨by omega, by omega⟩) ?_
                refine RW.pureS rfl rfl rfl rfl (OpP.assign rfl) ?_
                refine RW.done rfl ?_
                refine G.sub (ρ' := [(1, _), (7, _), (9, _), (18, _), (19, _), (93, _), (104, _), (108, _)]) ⟨rfl, rfl, rfl, rfl, rfl, rfl, rfl, rfl, trivial⟩ ?_
                exact ih2 (i + 1, w8) _ _ ⟨rfl, rfl, rfl, rfl, rfl, trivial⟩ ⟨(eg5.trans e7).trans e8, by show i + 1 ≤ s.length + 1; omega, fun _ => by show OwE encN g8 g.size 3 w8 (runP ss st (s.take (i + 1))); rw [runP_snoc hil2]; exact OwnH.lower ho8 (by omega)⟩ (by show s.length + 1 - (i + 1) < s.length + 1 - i; omega)
              · refine G.skip rfl ?_
                refine G.blkEnd ?_
                refine G.reg Tryd.func4 rfl ?_
                refine RW.pureS rfl rfl rfl rfl (OpP.move rfl) ?_
                refine RW.pureS rfl rfl rfl rfl (OpP.add64 rfl rfl ⟨by omega, by omega⟩) ?_
                refine RW.pureS rfl rfl rfl rfl (OpP.assign rfl) ?_
                refine RW.done rfl ?_
                refine G.sub (ρ' := [(1, _), (7, _), (9, _), (18, _), (19, _), (93, _), (104, _), (108, _)]) ⟨rfl, rfl, rfl, rfl, rfl, rfl, rfl, rfl, trivial⟩ ?_
                exact ih2 (i + 1, nv) _ _ ⟨rfl, rfl, rfl, rfl, rfl, trivial⟩ ⟨eg5.trans e7, by show i + 1 ≤ s.length + 1; omega, fun k => by exfalso; have k : i + 1 ≤ s.length := k; omega⟩ (by show s.length + 1 - (i + 1) < s.length + 1 - i; omega)
            · have e05 := (e02.trans eg).trans eg5
              refine G.exit rfl rfl ?_
              refine G.seq rfl ?_
              refine G.reg Tryd.func4 rfl ?_
              refine RW.opS rfl rfl rfl rfl (OpX.call (vs := []) Tryd.func15 rfl H.nm15 rfl (CallsH.toX (matched_calls (hg.ext e05 (fun _ k => k.elim)) e05.size))) ?_
              rintro _ h9 ⟨rfl, e9⟩
              refine RW.pureS rfl rfl rfl rfl (OpP.assign rfl) ?_
              refine RW.done rfl ?_
              refine G.sub (ρ' := [(1, _), (6, _), (7, _), (9, _), (18, _), (19, _), (93, _)]) ⟨rfl, rfl, rfl, rfl, rfl, rfl, rfl, trivial⟩ ?_
              refine G.ret Tryd.func4 rfl rfl ?_
              exact ⟨_, rfl, rfl, e05.trans e9⟩

end Go.Proofs.YtlegopbpofofgaaDoor

/- More rules; rules of letters alone: the plain law. -/
namespace Go.Proofs.YtlegopbpofofgaaDoor

theorem more_ok {P Q : Nat → Nat → Prop} {n L : Nat} {a b : Int × Int} (ha : IsMatch P n a) (hb : IsMatch Q n b) (h1 : ∀ k r, P k r → Q k r) (h2 : ∀ k r, Q k r → r < L → P k r) (h3 : ∀ k r, P k r → r < L) :
    ¬ ((0 ≤ a.2 ∧ (b.1 < a.1 ∨ (b.1 = a.1 ∧ b.2 ≠ a.2))) ∨ (0 ≤ b.2 ∧ b.2 < L ∧ (b.2 ≠ a.2 ∨ b.1 ≠ a.1))) := by
  rcases ha with ⟨rfl, a1⟩ | ⟨k, r, rfl, hk, hp, a1, a2⟩
  · rcases hb with ⟨rfl, b1⟩ | ⟨k', r', rfl, hk', hq, b1, b2⟩
    · rintro (⟨h, _⟩ | ⟨h, _⟩) <;> exact absurd h (by decide)
    · rintro (⟨h, _⟩ | ⟨_, h, _⟩)
      · exact absurd h (by decide)
      · simp only at h; exact a1 k' r' hk' (h2 _ _ hq (by omega))
  · have hrL := h3 _ _ hp
    rcases hb with ⟨rfl, b1⟩ | ⟨k', r', rfl, hk', hq, b1, b2⟩
    · exact absurd (h1 _ _ hp) (b1 k r hk)
    · have hkk := b1 _ _ hk (h1 _ _ hp)
      simp only
      rintro (⟨_, h | ⟨h, h'⟩⟩ | ⟨_, h, h'⟩)
      · omega
      · have e : k' = k := by omega
        subst e
        have h4 := b2 _ (h1 _ _ hp)
        have h5 := a2 _ (h2 _ _ hq (by omega))
        exact h' (by omega)
      · have hp' := h2 _ _ hq (by omega)
        have h4 := a1 _ _ hk' hp'
        have e : k' = k := by omega
        subst e
        have h5 := b2 _ (h1 _ _ hp)
        have h6 := a2 _ hp'
        rcases h' with h' | h' <;> exact h' (by omega)

def Letter (c : UInt8) : Prop := 97 ≤ c.toNat ∧ c.toNat ≤ 122
set_option maxRecDepth 100000 in
theorem letter_fin : ∀ n : Fin 256, 97 ≤ n.val → n.val ≤ 122 → signOf (UInt8.ofNat n.val) = 0 ∧ rowEnd [UInt8.ofNat n.val] = false ∧ (UInt8.ofNat n.val ≠ 40) ∧ (UInt8.ofNat n.val ≠ 91) ∧ (UInt8.ofNat n.val ≠ 46) ∧ (UInt8.ofNat n.val ≠ 92) ∧ ¬ UInt8.ofNat n.val ∈ [(41 : UInt8), 93, 124, 42, 43, 63] := by decide +kernel
theorem letter_facts {c : UInt8} (h : Letter c) : signOf c = 0 ∧ rowEnd [c] = false ∧ c ≠ 40 ∧ c ≠ 91 ∧ c ≠ 46 ∧ c ≠ 92 ∧ ¬ c ∈ [(41 : UInt8), 93, 124, 42, 43, 63] := by
  have k := letter_fin ⟨c.toNat, c.toNat_lt⟩ h.1 h.2
  simpa using k
theorem piece_letter {rows : By → Option (Nd × By)} {c : UInt8} {r : By} (hc : Letter c) (hr : ∀ d ∈ r, Letter d) : pieceP rows (c :: r) = some (byteNd c, r) := by
  obtain ⟨_, _, h40, h91, h46, h92, hm⟩ := letter_facts hc
  unfold pieceP atomP
  simp only
  rw [if_neg h40, if_neg h91, if_neg h46, if_neg h92, if_neg hm]
  simp only [Option.map_some, Option.some.injEq]
  cases r with
  | nil => simp [signsP]
  | cons d r => rw [signsP, if_pos (letter_facts (hr d (by simp))).1]
theorem rowsG_letters {rows : By → Option (Nd × By)} : ∀ (s : By) (n : Nat) (row : List Nd), s.length < n → (∀ c ∈ s, Letter c) → rowsG rows n [] row s = some (joinNd 2 (row ++ s.map byteNd), [])
  | [], n + 1, row, _, _ => by
    have he : rowEnd [] = true := rfl
    rw [rowsG, if_pos he, if_neg (by simp)]
    simp [joinNd]
  | c :: r, n + 1, row, hn, hl => by
    have hc := hl c (by simp)
    have hr : ∀ d ∈ r, Letter d := fun d hd => hl d (by simp [hd])
    have he : rowEnd (c :: r) = false := (letter_facts hc).2.1
    rw [rowsG, if_neg (by rw [he]; decide), piece_letter hc hr]
    simp only
    rw [rowsG_letters r n (row ++ [byteNd c]) (by simpa using hn) hr]
    simp
  | _, 0, _, h, _ => by omega
theorem parse_letters {s : By} (h : ∀ c ∈ s, Letter c) : parseP s = some (joinNd 2 (s.map byteNd)) := by
  unfold parseP
  rw [rowsP, rowsG_letters s _ [] (by omega) h]
  simp
theorem lng_byte (c : UInt8) (w : By) : Lng (byteNd c) w ↔ w = [c] := by
  unfold byteNd Lng
  rw [if_pos rfl]
  have hs : ∀ d : UInt8, (spanB 0 c c).testBit d.toNat = true ↔ d = c := fun d => by
    unfold spanB
    rw [show c.toNat + 1 - c.toNat = 1 by omega]
    simp only [spanN, Nat.zero_or, Nat.one_shiftLeft, Nat.testBit_two_pow, decide_eq_true_eq]
    exact ⟨fun e => UInt8.toNat_inj.1 e.symm, fun e => by rw [e]⟩
  constructor
  · rintro ⟨d, rfl, hd⟩; rw [(hs d).1 hd]
  · rintro rfl; exact ⟨c, rfl, (hs c).2 rfl⟩
theorem lngCat_letters : ∀ (s w : By), LngCat (s.map byteNd) w ↔ w = s
  | [], w => by simp [LngCat]
  | c :: s, w => by
    simp only [List.map_cons]
    unfold LngCat
    constructor
    · rintro ⟨u, v, rfl, hu, hv⟩
      rw [(lng_byte c u).1 hu, (lngCat_letters s v).1 hv]; rfl
    · rintro rfl
      exact ⟨[c], s, rfl, (lng_byte c _).2 rfl, (lngCat_letters s s).2 rfl⟩
theorem lng_letters (s w : By) : Lng (joinNd 2 (s.map byteNd)) w ↔ w = s := by
  match s with
  | [] =>
    show Lng emptyNd w ↔ _
    unfold emptyNd Lng
    simp
  | [c] => exact lng_byte c w
  | c :: d :: s =>
    show Lng (.mk 2 0 ((c :: d :: s).map byteNd)) w ↔ _
    unfold Lng
    simp only [show ¬ (2 = 1) by decide, if_false, if_true]
    exact lngCat_letters _ _

theorem make_letters {t : By} (hl : t.length ≤ 60) (h : ∀ c ∈ t, Letter c) : ∃ ss st, makeP [t] = .inr (ss, st) ∧ ∀ l : By, matchP ss st l = if l.take t.length = t then ((t.length : Int), 0) else (0, -1) := by
  have hpe : parseE t = (joinNd 2 (t.map byteNd), 0) := by
    unfold parseE
    rw [if_neg (by omega), parse_letters h]
  have hm : ∃ q, makeP [t] = .inr q := by
    unfold makeP
    rw [if_neg (by simp), makeG, if_neg (by rw [hpe]; simp), makeG]
    simp only
    rw [if_neg (by simp [totL]; omega)]
    exact ⟨_, rfl⟩
  obtain ⟨⟨ss, st⟩, hm⟩ := hm
  refine ⟨ss, st, hm, fun l => ?_⟩
  have hs := matchP_spec (makeP_made hm) l
  have hL : ∀ n r, (∃ s, [t][r]? = some s ∧ Lng (parseE s).1 (l.take n)) ↔ r = 0 ∧ l.take n = t := fun n r => by
    constructor
    · rintro ⟨s, hs, hl⟩
      cases r with
      | zero => simp at hs; subst hs; rw [hpe] at hl; exact ⟨rfl, (lng_letters _ _).1 hl⟩
      | succ r => simp at hs
    · rintro ⟨rfl, hl⟩
      exact ⟨t, rfl, by rw [hpe]; exact (lng_letters _ _).2 hl⟩
  split
  · rename_i ht
    have htl : t.length ≤ l.length := by
      have := congrArg List.length ht
      rw [List.length_take] at this; omega
    rcases hs with ⟨he, h0⟩ | ⟨k, r, he, hk, hp, h1, h2⟩
    · exact absurd ((hL _ _).2 ⟨rfl, ht⟩) (h0 t.length 0 htl)
    · obtain ⟨rfl, hkt⟩ := (hL _ _).1 hp
      have : k = t.length := by rw [← hkt, List.length_take]; omega
      rw [he, this]; rfl
  · rename_i ht
    rcases hs with ⟨he, h0⟩ | ⟨k, r, he, hk, hp, h1, h2⟩
    · exact he
    · obtain ⟨rfl, hkt⟩ := (hL _ _).1 hp
      have : k = t.length := by rw [← hkt, List.length_take]; omega
      subst this
      exact absurd hkt ht

end Go.Proofs.YtlegopbpofofgaaDoor

/- NfasMore: what it answers. -/
namespace Go.Proofs.YtlegopbpofofgaaDoor
open Go Go.Lw
set_option maxRecDepth 20000

theorem more_law {rules : List By} {more s : By} (h1 : rulesP rules = 0) (h2 : rulesP (rules ++ [more]) = 0) (i : Nat) (hi : i ≤ s.length) :
    ¬ ((0 ≤ (matchM rules s i).2 ∧ ((matchM (rules ++ [more]) s i).1 < (matchM rules s i).1 ∨ ((matchM (rules ++ [more]) s i).1 = (matchM rules s i).1 ∧ (matchM (rules ++ [more]) s i).2 ≠ (matchM rules s i).2))) ∨
      (0 ≤ (matchM (rules ++ [more]) s i).2 ∧ (matchM (rules ++ [more]) s i).2 < rules.length ∧ ((matchM (rules ++ [more]) s i).2 ≠ (matchM rules s i).2 ∨ (matchM (rules ++ [more]) s i).1 ≠ (matchM rules s i).1))) := by
  have key : ∀ l : List By, rulesP l = 0 → IsMatch (fun n r => ∃ x, l[r]? = some x ∧ Lng (parseE x).1 ((s.drop i).take n)) (s.drop i).length (matchM l s i) := by
    intro l hl
    rcases make_rules l with ⟨⟨ss, st⟩, hm, _⟩ | ⟨_, hne⟩
    · have hmade := makeP_made hm
      have hst := hmade.stl
      have : matchM l s i = matchP ss st (s.drop i) := by
        unfold matchM matchA
        rw [hm]
        simp only
        rw [if_neg (by omega)]; rfl
      rw [this]
      exact matchP_spec hmade _
    · exact absurd hl hne
  refine more_ok (L := rules.length) (key _ h1) (key _ h2) (fun k r ⟨x, hx, hl⟩ => ⟨x, ?_, hl⟩) (fun k r ⟨x, hx, hl⟩ hr => ⟨x, ?_, hl⟩) (fun k r ⟨x, hx, _⟩ => (List.getElem?_eq_some_iff.1 hx).1)
  · rw [List.getElem?_append_left (List.getElem?_eq_some_iff.1 hx).1]; exact hx
  · rw [List.getElem?_append_left hr] at hx; exact hx

theorem nfasMore_calls {h : Heap} (hg : Sg h h.size) {rv : Value} {rules : List By} {more s : By} (hr : SlR eBy h (fun _ => False) rv rules) :
    CallsH Tryd.prog 6 #[rv, .string (bs more), .string (bs s)] h (Ret fun r h' => r = .bool true ∧ Ext0 h h') := by
  have hbs := bs_size s
  have hbm := bs_size more
  obtain ⟨oa, kn, kc, rfl, hsl⟩ := id hr.open
  have hkn := hsl.len
  refine CallsH.of Tryd.func6 rfl rfl ?_
  refine G.seq rfl ?_
  refine G.reg Tryd.func6 rfl ?_
  refine RW.pureS rfl rfl rfl rfl (OpP.assign rfl) ?_
  refine RW.done rfl ?_
  refine G.sub (ρ' := [(0, _), (1, _), (2, _), (6, _)]) ⟨rfl, rfl, rfl, rfl, trivial⟩ ?_
  refine G.seq rfl ?_
  refine G.seq rfl ?_
  refine G.regToX (fun (_u : Unit) (h' : Heap) => h' = h) (fun (_u : Unit) => [(27, .bool (greatP rules || decide (60 < more.length ∨ 60 < s.length)))]) [(0, _), (1, _), (2, _), (6, _)] ⟨rfl, rfl, rfl, rfl, trivial⟩ Tryd.func6 rfl ?_ ?_
  · refine RW.pureS rfl rfl rfl rfl (OpP.move rfl) ?_
    refine RW.opS rfl rfl rfl rfl (OpX.call (vs := [_]) Tryd.func18 rfl H.nm18 rfl (CallsH.toX (great_calls hr))) ?_
    rintro _ h0 ⟨rfl, hh0⟩
    refine RW.pureS rfl rfl rfl rfl (OpP.move rfl) ?_
    subst hh0
    refine RW.split (d := 18) rfl (fun hg1 => ?_) (fun hg1 => ?_)
    · refine RW.skipS rfl rfl rfl rfl ?_
      refine RW.skipS rfl rfl rfl rfl ?_
      refine RW.skipS rfl rfl rfl rfl ?_
      refine RW.pureS rfl rfl rfl rfl (OpP.pickT rfl rfl) ?_
      refine RW.pureS rfl rfl rfl rfl (OpP.move rfl) ?_
      refine RW.skipS rfl rfl rfl rfl ?_
      refine RW.skipS rfl rfl rfl rfl ?_
      refine RW.skipS rfl rfl rfl rfl ?_
      refine RW.pureS rfl rfl rfl rfl (OpP.pickT rfl rfl) ?_
      refine RW.done rfl ?_
      exact ⟨(), rfl, at_bool rfl (by rw [hg1, Bool.true_or]), rfl, rfl, rfl, rfl, trivial⟩
    · refine RW.pureS rfl rfl rfl rfl (OpP.move rfl) ?_
      refine RW.pureS rfl rfl rfl rfl (OpP.lenString Tryd.underlying9 rfl) ?_
      refine RW.pureS rfl rfl rfl rfl (OpP.gtr rfl rfl) ?_
      refine RW.pureS rfl rfl rfl rfl (OpP.pickF rfl rfl) ?_
      refine RW.pureS rfl rfl rfl rfl (OpP.move rfl) ?_
      refine RW.split (d := 23) rfl (fun hg2 => ?_) (fun hg2 => ?_)
      · have hg2' := of_decide_eq_true hg2
        refine RW.skipS rfl rfl rfl rfl ?_
        refine RW.skipS rfl rfl rfl rfl ?_
        refine RW.skipS rfl rfl rfl rfl ?_
        refine RW.pureS rfl rfl rfl rfl (OpP.pickT rfl rfl) ?_
        refine RW.done rfl ?_
        exact ⟨(), rfl, at_bool rfl (by rw [hg1, Bool.false_or]; simp; omega), rfl, rfl, rfl, rfl, trivial⟩
      · have hg2' := of_decide_eq_false hg2
        refine RW.pureS rfl rfl rfl rfl (OpP.move rfl) ?_
        refine RW.pureS rfl rfl rfl rfl (OpP.lenString Tryd.underlying9 rfl) ?_
        refine RW.pureS rfl rfl rfl rfl (OpP.gtr rfl rfl) ?_
        refine RW.pureS rfl rfl rfl rfl (OpP.pickF rfl rfl) ?_
        refine RW.done rfl ?_
        exact ⟨(), rfl, at_bool rfl (by rw [hg1, Bool.false_or]; simp only [decide_eq_decide]; omega), rfl, rfl, rfl, rfl, trivial⟩
  · rintro _ h0 rfl
    refine G.cond rfl rfl (fun hbig => ?_) (fun hbig => ?_)
    · refine G.seq rfl ?_
      refine G.reg Tryd.func6 rfl ?_
      refine RW.opS rfl rfl rfl rfl (OpX.call (vs := []) Tryd.func15 rfl H.nm15 rfl (CallsH.toX (matched_calls hg (Nat.le_refl _)))) ?_
      rintro _ h1 ⟨rfl, e1⟩
      refine RW.pureS rfl rfl rfl rfl (OpP.assign rfl) ?_
      refine RW.done rfl ?_
      refine G.sub (ρ' := [(0, _), (1, _), (2, _), (6, _), (27, _)]) ⟨rfl, rfl, rfl, rfl, rfl, trivial⟩ ?_
      refine G.ret Tryd.func6 rfl rfl ?_
      exact ⟨_, rfl, rfl, e1⟩
    · rw [Bool.or_eq_false_iff] at hbig
      have hnot := great_not hbig.1
      have hbig2 := of_decide_eq_false hbig.2
      have hall : ∀ x ∈ rules, x.length ≤ 1000000 := fun x hx => by have := hnot.2 x hx; omega
      have hall2 : ∀ x ∈ rules ++ [more], x.length ≤ 1000000 := fun x hx => by
        rcases List.mem_append.1 hx with k | k
        · exact hall x k
        · have : x = more := by simpa using k
          subst this; omega
      refine G.skip rfl ?_
      refine G.seq rfl ?_
      refine G.reg Tryd.func6 rfl ?_
      refine RW.pureS rfl rfl rfl rfl (OpP.move rfl) ?_
      refine RW.opS rfl rfl rfl rfl (OpX.call (vs := [_]) Tryd.func16 rfl H.nm16 rfl (CallsH.toX (make_made hg (Nat.le_refl _) hr hall))) ?_
      rintro _ h1 ⟨⟨p, rfl, hp⟩, e1⟩
      have hz1 := e1.size
      obtain ⟨hll, hlrow, hlm⟩ := SlR.row (h1 := fun _ => rfl) (hr.ext0 e1)
      have hone : ∀ u ∈ rules.map (fun s => Value.string (bs s)), u.oneCell' = true := fun u hu => by obtain ⟨_, _, rfl⟩ := List.mem_map.1 hu; rfl
      have hkn8 : kn ≤ 8 := by omega
      refine RW.pureS rfl rfl rfl rfl (OpP.move rfl) ?_
      refine RW.pureS rfl rfl rfl rfl (OpP.extract rfl rfl) ?_
      refine RW.pureS rfl rfl rfl rfl (OpP.extract rfl rfl) ?_
      refine RW.pureS rfl rfl rfl rfl (OpP.assign rfl) ?_
      refine RW.pureS rfl rfl rfl rfl (OpP.assign rfl) ?_
      refine RW.done rfl ?_
      refine G.sub (ρ' := [(0, _), (1, _), (2, _), (6, _), (7, _), (8, _), (27, _)]) ⟨rfl, rfl, rfl, rfl, rfl, rfl, rfl, trivial⟩ ?_
      refine G.seq rfl ?_
      refine G.reg Tryd.func6 rfl ?_
      refine RW.pureS rfl rfl rfl rfl (OpP.move rfl) ?_
      refine RW.opS rfl rfl rfl rfl (OpX.append Tryd.underlying22 H.el9 rfl rfl (OwnH.nil h1 h1.size 9 1) (by simp [hll]) hlrow hone (by simp only [maxLen]; omega) (by omega) (by omega)) ?_
      rintro w5 g5 ⟨ho5, hx5, -, hv5⟩
      have ho5' : OwnH g5 h1.size 9 1 w5 kn (rules.map fun s => Value.string (bs s)) := by simpa using ho5
      have e15 : Ext0 h1 g5 := ext_but_none hx5
      obtain ⟨w5a, w5c, rfl, _⟩ := ho5'.open
      have hz5 := e15.size
      refine RW.pureS rfl rfl rfl rfl (OpP.move rfl) ?_
      refine RW.opS rfl rfl rfl rfl (OpX.buildOnes (us := [_]) Tryd.underlying22 H.el9 rfl rfl (by decide) (by simp [Value.oneCell'])) ?_
      rintro _ _ ⟨rfl, rfl⟩
      refine RW.opS rfl rfl rfl rfl (OpX.appendNew Tryd.underlying22 H.el9 rfl rfl (ho5') rfl rfl (by first | decide | simp [Value.oneCell']) (by omega) (by decide) (by omega)) ?_
      rintro w6 g6 ⟨ho6, hx6, hx6', hv6⟩
      have how5 : OwE (fun s => Value.string (bs s)) g5 h1.size 9 (.slice w5a kn w5c) rules := by unfold OwE; rw [hkn]; exact ho5'
      have e16 : Ext0 h1 g6 := OwE.grown e15 how5 (Nat.le_refl _) hx6
      have ho6' : OwE (fun s => Value.string (bs s)) g6 h1.size 9 w6 (rules ++ [more]) := OwE.of (ys := [more]) ho6 hkn.symm rfl rfl
      have hr6 : SlR eBy g6 (fun _ => False) w6 (rules ++ [more]) := OwE.read (h1 := fun _ => rfl) ho6' (fun _ _ k => k)
      have e06 := e1.trans e16
      refine RW.opS rfl rfl rfl rfl (OpX.call (vs := [_]) Tryd.func16 rfl H.nm16 rfl (CallsH.toX (make_made (hg.ext e06 (fun _ k => k.elim)) e06.size hr6 hall2))) ?_
      rintro _ h2 ⟨⟨p2, rfl, hp2⟩, e2⟩
      have e02 := e06.trans e2
      refine RW.pureS rfl rfl rfl rfl (OpP.move rfl) ?_
      refine RW.pureS rfl rfl rfl rfl (OpP.extract rfl rfl) ?_
      refine RW.pureS rfl rfl rfl rfl (OpP.extract rfl rfl) ?_
      refine RW.pureS rfl rfl rfl rfl (OpP.assign rfl) ?_
      refine RW.pureS rfl rfl rfl rfl (OpP.assign rfl) ?_
      refine RW.done rfl ?_
      refine G.sub (ρ' := [(0, _), (1, _), (2, _), (6, _), (7, _), (8, _), (9, _), (10, _), (27, _)]) ⟨rfl, rfl, rfl, rfl, rfl, rfl, rfl, rfl, rfl, trivial⟩ ?_
      refine G.seq rfl ?_
      refine G.seq rfl ?_
      refine G.regTo1 [(48, .bool (decide (rulesP rules ≠ 0 ∨ rulesP (rules ++ [more]) ≠ 0)))] [(0, _), (1, _), (2, _), (6, _), (7, _), (8, _), (9, _), (10, _), (27, _)] ⟨rfl, rfl, rfl, rfl, rfl, rfl, rfl, rfl, rfl, trivial⟩ Tryd.func6 rfl ?_ ?_
      · refine RW.pureS rfl rfl rfl rfl (OpP.move rfl) ?_
        refine RW.pureS rfl rfl rfl rfl (OpP.neqInt rfl rfl) ?_
        refine RW.pureS rfl rfl rfl rfl (OpP.move rfl) ?_
        refine RW.split (d := 45) rfl (fun hg3 => ?_) (fun hg3 => ?_)
        · rw [makeE_rules] at hg3
          have hg3' : rulesP rules ≠ 0 := by simpa using hg3
          refine RW.skipS rfl rfl rfl rfl ?_
          refine RW.skipS rfl rfl rfl rfl ?_
          refine RW.pureS rfl rfl rfl rfl (OpP.pickT rfl rfl) ?_
          refine RW.done rfl ?_
          exact ⟨rfl, at_bool rfl (by simp [hg3']), rfl, rfl, rfl, rfl, rfl, rfl, rfl, rfl, rfl, trivial⟩
        · rw [makeE_rules] at hg3
          have hg3' : rulesP rules = 0 := by simpa using hg3
          refine RW.pureS rfl rfl rfl rfl (OpP.move rfl) ?_
          refine RW.pureS rfl rfl rfl rfl (OpP.neqInt rfl rfl) ?_
          refine RW.pureS rfl rfl rfl rfl (OpP.pickF rfl rfl) ?_
          refine RW.done rfl ?_
          exact ⟨rfl, at_bool rfl (by rw [makeE_rules]; simp [hg3']), rfl, rfl, rfl, rfl, rfl, rfl, rfl, rfl, rfl, trivial⟩
      · refine G.ite rfl rfl (fun herr => ?_) (fun herr => ?_)
        · refine G.seq rfl ?_
          refine G.reg Tryd.func6 rfl ?_
          refine RW.opS rfl rfl rfl rfl (OpX.call (vs := []) Tryd.func15 rfl H.nm15 rfl (CallsH.toX (matched_calls (hg.ext e02 (fun _ k => k.elim)) e02.size))) ?_
          rintro _ h9 ⟨rfl, e9⟩
          refine RW.pureS rfl rfl rfl rfl (OpP.assign rfl) ?_
          refine RW.done rfl ?_
          refine G.sub (ρ' := [(0, _), (1, _), (2, _), (6, _), (7, _), (8, _), (9, _), (10, _), (27, _), (48, _)]) ⟨rfl, rfl, rfl, rfl, rfl, rfl, rfl, rfl, rfl, rfl, trivial⟩ ?_
          refine G.ret Tryd.func6 rfl rfl ?_
          exact ⟨_, rfl, rfl, e02.trans e9⟩
        · have h01 : rulesP rules = 0 := Classical.byContradiction fun k => herr (.inl k)
          have h02 : rulesP (rules ++ [more]) = 0 := Classical.byContradiction fun k => herr (.inr k)
          have made_of : ∀ {l : List By} {hh : Heap} {p : Value}, rulesP l = 0 → ((∃ e, makeP l = .inl e ∧ p = .pointer none) ∨ MadeAt hh p l) → MadeAt hh p l := by
            intro l hh p hl hp
            rcases hp with ⟨e, he, _⟩ | hp
            · rcases make_rules l with ⟨q, hq, _⟩ | ⟨_, hne⟩
              · rw [hq] at he; cases he
              · exact absurd hl hne
            · exact hp
          have hp := (made_of h01 hp).ext0 (e16.trans e2)
          have hp2 := made_of h02 hp2
          refine G.skip rfl ?_
          refine G.seq rfl ?_
          refine G.seq rfl ?_
          refine G.reg Tryd.func6 rfl ?_
          refine RW.pureS rfl rfl rfl rfl (OpP.assign rfl) ?_
          refine RW.done rfl ?_
          refine G.sub (ρ' := [(0, _), (1, _), (2, _), (6, _), (7, _), (8, _), (9, _), (10, _), (11, _), (27, _), (48, _)]) ⟨rfl, rfl, rfl, rfl, rfl, rfl, rfl, rfl, rfl, rfl, rfl, trivial⟩ ?_
          refine G.block rfl rfl ?_
          refine G.loop (σ := Nat) (fun i => [(0, .slice oa kn kc), (2, .string (bs s)), (7, p), (9, p2), (11, .int .i64 (i : Nat))]) (fun i h' => Ext0 h2 h' ∧ i ≤ s.length + 1) (fun i => s.length + 1 - i) (0) rfl ⟨rfl, rfl, rfl, rfl, rfl, trivial⟩ ⟨Ext.refl _ _, by omega⟩ ?_
          rintro i g ⟨eg, hi⟩ ih
          refine G.seq rfl ?_
          refine G.seq rfl ?_
          refine G.reg Tryd.func6 rfl ?_
          refine RW.pureS rfl rfl rfl rfl (OpP.move rfl) ?_
          refine RW.pureS rfl rfl rfl rfl (OpP.move rfl) ?_
          refine RW.pureS rfl rfl rfl rfl (OpP.lenString Tryd.underlying9 rfl) ?_
          refine RW.pureS rfl rfl rfl rfl (OpP.leq rfl rfl) ?_
          refine RW.done rfl ?_
          refine G.sub (ρ' := [(0, _), (2, _), (7, _), (9, _), (11, _), (53, _)]) ⟨rfl, rfl, rfl, rfl, rfl, rfl, trivial⟩ ?_
          refine G.ite rfl rfl (fun hlt => ?_) (fun hlt => ?_)
          · refine G.skip rfl ?_
            refine G.seq rfl ?_
            refine G.block rfl rfl ?_
            refine G.seq rfl ?_
            refine G.reg Tryd.func6 rfl ?_
            refine RW.pureS rfl rfl rfl rfl (OpP.move rfl) ?_
            refine RW.pureS rfl rfl rfl rfl (OpP.move rfl) ?_
            refine RW.pureS rfl rfl rfl rfl (OpP.move rfl) ?_
            refine RW.opS rfl rfl rfl rfl (OpX.call (vs := [_, _, _]) Tryd.func19 rfl H.nm19 rfl (CallsH.toX (match_made (hp.ext0 eg) (by omega)))) ?_
            rintro _ g2 ⟨rfl, e2'⟩
            refine RW.pureS rfl rfl rfl rfl (OpP.move rfl) ?_
            refine RW.pureS rfl rfl rfl rfl (OpP.extract rfl rfl) ?_
            refine RW.pureS rfl rfl rfl rfl (OpP.extract rfl rfl) ?_
            refine RW.pureS rfl rfl rfl rfl (OpP.assign rfl) ?_
            refine RW.pureS rfl rfl rfl rfl (OpP.assign rfl) ?_
            refine RW.done rfl ?_
            refine G.sub (ρ' := [(0, _), (2, _), (7, _), (9, _), (11, _), (12, _), (13, _), (53, _)]) ⟨rfl, rfl, rfl, rfl, rfl, rfl, rfl, rfl, trivial⟩ ?_
            refine G.seq rfl ?_
            refine G.reg Tryd.func6 rfl ?_
            refine RW.pureS rfl rfl rfl rfl (OpP.move rfl) ?_
            refine RW.pureS rfl rfl rfl rfl (OpP.move rfl) ?_
            refine RW.pureS rfl rfl rfl rfl (OpP.move rfl) ?_
            refine RW.opS rfl rfl rfl rfl (OpX.call (vs := [_, _, _]) Tryd.func19 rfl H.nm19 rfl (CallsH.toX (match_made ((hp2.ext0 eg).ext0 e2') (by omega)))) ?_
            rintro _ g3 ⟨rfl, e3'⟩
            have hno := more_law (s := s) h01 h02 i (by omega)
            rw [hkn] at hno
            generalize matchM rules s i = x at *
            generalize matchM (rules ++ [more]) s i = y at *
            obtain ⟨m, r⟩ := x
            obtain ⟨n, q⟩ := y
            simp only at hno
            refine RW.pureS rfl rfl rfl rfl (OpP.move rfl) ?_
            refine RW.pureS rfl rfl rfl rfl (OpP.extract rfl rfl) ?_
            refine RW.pureS rfl rfl rfl rfl (OpP.extract rfl rfl) ?_
            refine RW.pureS rfl rfl rfl rfl (OpP.assign rfl) ?_
            refine RW.pureS rfl rfl rfl rfl (OpP.assign rfl) ?_
            refine RW.done rfl ?_
            refine G.sub (ρ' := [(0, _), (2, _), (7, _), (9, _), (11, _), (12, _), (13, _), (14, _), (15, _), (53, _)]) ⟨rfl, rfl, rfl, rfl, rfl, rfl, rfl, rfl, rfl, rfl, trivial⟩ ?_
            refine G.seq rfl ?_
            refine G.regTo1 [(106, .bool false)] [(0, _), (2, _), (7, _), (9, _), (11, _), (12, _), (13, _), (14, _), (15, _), (53, _)] ⟨rfl, rfl, rfl, rfl, rfl, rfl, rfl, rfl, rfl, rfl, trivial⟩ Tryd.func6 rfl ?_ ?_
            · refine RW.pureS rfl rfl rfl rfl (OpP.move rfl) ?_
              refine RW.pureS rfl rfl rfl rfl (OpP.geq rfl rfl) ?_
              refine RW.pureS rfl rfl rfl rfl (OpP.move rfl) ?_
              refine RW.split (d := 72) rfl (fun g1 => ?_) (fun g1 => ?_)
              · have g1' := of_decide_eq_true g1
                refine RW.pureS rfl rfl rfl rfl (OpP.move rfl) ?_
                refine RW.pureS rfl rfl rfl rfl (OpP.move rfl) ?_
                refine RW.pureS rfl rfl rfl rfl (OpP.lss rfl rfl) ?_
                refine RW.pureS rfl rfl rfl rfl (OpP.move rfl) ?_
                refine RW.split (d := 76) rfl (fun g2 => ?_) (fun g2 => ?_)
                · have g2' := of_decide_eq_true g2
                  exact (hno (.inl ⟨g1', .inl g2'⟩)).elim
                · have g2' := of_decide_eq_false g2
                  refine RW.pureS rfl rfl rfl rfl (OpP.move rfl) ?_
                  refine RW.pureS rfl rfl rfl rfl (OpP.move rfl) ?_
                  refine RW.pureS rfl rfl rfl rfl (OpP.eqlInt rfl rfl) ?_
                  refine RW.pureS rfl rfl rfl rfl (OpP.move rfl) ?_
                  refine RW.split (d := 80) rfl (fun g3 => ?_) (fun g3 => ?_)
                  · have g3' := of_decide_eq_true g3
                    refine RW.pureS rfl rfl rfl rfl (OpP.move rfl) ?_
                    refine RW.pureS rfl rfl rfl rfl (OpP.move rfl) ?_
                    refine RW.pureS rfl rfl rfl rfl (OpP.neqInt rfl rfl) ?_
                    refine RW.pureS rfl rfl rfl rfl (OpP.pickT rfl rfl) ?_
                    refine RW.pureS rfl rfl rfl rfl (OpP.pickF rfl rfl) ?_
                    refine RW.pureS rfl rfl rfl rfl (OpP.pickT rfl rfl) ?_
                    refine RW.pureS rfl rfl rfl rfl (OpP.move rfl) ?_
                    refine RW.know (d := 87) (b' := false) rfl ((by simp; omega)) ?_
                    refine RW.pureS rfl rfl rfl rfl (OpP.move rfl) ?_
                    refine RW.pureS rfl rfl rfl rfl (OpP.geq rfl rfl) ?_
                    refine RW.pureS rfl rfl rfl rfl (OpP.move rfl) ?_
                    refine RW.split (d := 90) rfl (fun g4 => ?_) (fun g4 => ?_)
                    · have g4' := of_decide_eq_true g4
                      refine RW.pureS rfl rfl rfl rfl (OpP.move rfl) ?_
                      refine RW.pureS rfl rfl rfl rfl (OpP.move rfl) ?_
                      refine RW.pureS rfl rfl rfl rfl (OpP.lenSlice Tryd.underlying22 rfl) ?_
                      refine RW.pureS rfl rfl rfl rfl (OpP.lss rfl rfl) ?_
                      refine RW.pureS rfl rfl rfl rfl (OpP.pickT rfl rfl) ?_
                      refine RW.pureS rfl rfl rfl rfl (OpP.move rfl) ?_
                      refine RW.split (d := 96) rfl (fun g5 => ?_) (fun g5 => ?_)
                      · have g5' := of_decide_eq_true g5
                        refine RW.pureS rfl rfl rfl rfl (OpP.move rfl) ?_
                        refine RW.pureS rfl rfl rfl rfl (OpP.move rfl) ?_
                        refine RW.pureS rfl rfl rfl rfl (OpP.neqInt rfl rfl) ?_
                        refine RW.pureS rfl rfl rfl rfl (OpP.move rfl) ?_
                        refine RW.know (d := 100) (b' := false) rfl ((by simp; omega)) ?_
                        refine RW.pureS rfl rfl rfl rfl (OpP.move rfl) ?_
                        refine RW.pureS rfl rfl rfl rfl (OpP.move rfl) ?_
                        refine RW.pureS rfl rfl rfl rfl (OpP.neqInt rfl rfl) ?_
                        refine RW.pureS rfl rfl rfl rfl (OpP.pickF rfl rfl) ?_
                        refine RW.pureS rfl rfl rfl rfl (OpP.pickT rfl rfl) ?_
                        refine RW.pureS rfl rfl rfl rfl (OpP.pickF rfl rfl) ?_
                        refine RW.done rfl ?_
                        exact ⟨rfl, at_bool rfl (by simp; omega), rfl, rfl, rfl, rfl, rfl, rfl, rfl, rfl, rfl, rfl, trivial⟩
                      · refine RW.skipS rfl rfl rfl rfl ?_
                        refine RW.skipS rfl rfl rfl rfl ?_
                        refine RW.skipS rfl rfl rfl rfl ?_
                        refine RW.skipS rfl rfl rfl rfl ?_
                        refine RW.skipS rfl rfl rfl rfl ?_
                        refine RW.skipS rfl rfl rfl rfl ?_
                        refine RW.skipS rfl rfl rfl rfl ?_
                        refine RW.skipS rfl rfl rfl rfl ?_
                        refine RW.pureS rfl rfl rfl rfl (OpP.pickF rfl rfl) ?_
                        refine RW.pureS rfl rfl rfl rfl (OpP.pickF rfl rfl) ?_
                        refine RW.done rfl ?_
                        exact ⟨rfl, at_bool rfl (rfl), rfl, rfl, rfl, rfl, rfl, rfl, rfl, rfl, rfl, rfl, trivial⟩
                    · refine RW.skipS rfl rfl rfl rfl ?_
                      refine RW.skipS rfl rfl rfl rfl ?_
                      refine RW.skipS rfl rfl rfl rfl ?_
                      refine RW.skipS rfl rfl rfl rfl ?_
                      refine RW.pureS rfl rfl rfl rfl (OpP.pickF rfl rfl) ?_
                      refine RW.pureS rfl rfl rfl rfl (OpP.move rfl) ?_
                      refine RW.skipS rfl rfl rfl rfl ?_
                      refine RW.skipS rfl rfl rfl rfl ?_
                      refine RW.skipS rfl rfl rfl rfl ?_
                      refine RW.skipS rfl rfl rfl rfl ?_
                      refine RW.skipS rfl rfl rfl rfl ?_
                      refine RW.skipS rfl rfl rfl rfl ?_
                      refine RW.skipS rfl rfl rfl rfl ?_
                      refine RW.skipS rfl rfl rfl rfl ?_
                      refine RW.pureS rfl rfl rfl rfl (OpP.pickF rfl rfl) ?_
                      refine RW.pureS rfl rfl rfl rfl (OpP.pickF rfl rfl) ?_
                      refine RW.done rfl ?_
                      exact ⟨rfl, at_bool rfl (rfl), rfl, rfl, rfl, rfl, rfl, rfl, rfl, rfl, rfl, rfl, trivial⟩
                  · have g3' := of_decide_eq_false g3
                    refine RW.skipS rfl rfl rfl rfl ?_
                    refine RW.skipS rfl rfl rfl rfl ?_
                    refine RW.skipS rfl rfl rfl rfl ?_
                    refine RW.pureS rfl rfl rfl rfl (OpP.pickF rfl rfl) ?_
                    refine RW.pureS rfl rfl rfl rfl (OpP.pickF rfl rfl) ?_
                    refine RW.pureS rfl rfl rfl rfl (OpP.pickT rfl rfl) ?_
                    refine RW.pureS rfl rfl rfl rfl (OpP.move rfl) ?_
                    refine RW.pureS rfl rfl rfl rfl (OpP.move rfl) ?_
                    refine RW.pureS rfl rfl rfl rfl (OpP.geq rfl rfl) ?_
                    refine RW.pureS rfl rfl rfl rfl (OpP.move rfl) ?_
                    refine RW.split (d := 90) rfl (fun g4 => ?_) (fun g4 => ?_)
                    · have g4' := of_decide_eq_true g4
                      refine RW.pureS rfl rfl rfl rfl (OpP.move rfl) ?_
                      refine RW.pureS rfl rfl rfl rfl (OpP.move rfl) ?_
                      refine RW.pureS rfl rfl rfl rfl (OpP.lenSlice Tryd.underlying22 rfl) ?_
                      refine RW.pureS rfl rfl rfl rfl (OpP.lss rfl rfl) ?_
                      refine RW.pureS rfl rfl rfl rfl (OpP.pickT rfl rfl) ?_
                      refine RW.pureS rfl rfl rfl rfl (OpP.move rfl) ?_
                      refine RW.split (d := 96) rfl (fun g5 => ?_) (fun g5 => ?_)
                      · have g5' := of_decide_eq_true g5
                        refine RW.pureS rfl rfl rfl rfl (OpP.move rfl) ?_
                        refine RW.pureS rfl rfl rfl rfl (OpP.move rfl) ?_
                        refine RW.pureS rfl rfl rfl rfl (OpP.neqInt rfl rfl) ?_
                        refine RW.pureS rfl rfl rfl rfl (OpP.move rfl) ?_
                        refine RW.know (d := 100) (b' := false) rfl ((by simp; omega)) ?_
                        refine RW.pureS rfl rfl rfl rfl (OpP.move rfl) ?_
                        refine RW.pureS rfl rfl rfl rfl (OpP.move rfl) ?_
                        refine RW.pureS rfl rfl rfl rfl (OpP.neqInt rfl rfl) ?_
                        refine RW.pureS rfl rfl rfl rfl (OpP.pickF rfl rfl) ?_
                        refine RW.pureS rfl rfl rfl rfl (OpP.pickT rfl rfl) ?_
                        refine RW.pureS rfl rfl rfl rfl (OpP.pickF rfl rfl) ?_
                        refine RW.done rfl ?_
                        exact ⟨rfl, at_bool rfl (by simp; omega), rfl, rfl, rfl, rfl, rfl, rfl, rfl, rfl, rfl, rfl, trivial⟩
                      · refine RW.skipS rfl rfl rfl rfl ?_
                        refine RW.skipS rfl rfl rfl rfl ?_
                        refine RW.skipS rfl rfl rfl rfl ?_
                        refine RW.skipS rfl rfl rfl rfl ?_
                        refine RW.skipS rfl rfl rfl rfl ?_
                        refine RW.skipS rfl rfl rfl rfl ?_
                        refine RW.skipS rfl rfl rfl rfl ?_
                        refine RW.skipS rfl rfl rfl rfl ?_
                        refine RW.pureS rfl rfl rfl rfl (OpP.pickF rfl rfl) ?_
                        refine RW.pureS rfl rfl rfl rfl (OpP.pickF rfl rfl) ?_
                        refine RW.done rfl ?_
                        exact ⟨rfl, at_bool rfl (rfl), rfl, rfl, rfl, rfl, rfl, rfl, rfl, rfl, rfl, rfl, trivial⟩
                    · refine RW.skipS rfl rfl rfl rfl ?_
                      refine RW.skipS rfl rfl rfl rfl ?_
                      refine RW.skipS rfl rfl rfl rfl ?_
                      refine RW.skipS rfl rfl rfl rfl ?_
                      refine RW.pureS rfl rfl rfl rfl (OpP.pickF rfl rfl) ?_
                      refine RW.pureS rfl rfl rfl rfl (OpP.move rfl) ?_
                      refine RW.skipS rfl rfl rfl rfl ?_
                      refine RW.skipS rfl rfl rfl rfl ?_
                      refine RW.skipS rfl rfl rfl rfl ?_
                      refine RW.skipS rfl rfl rfl rfl ?_
                      refine RW.skipS rfl rfl rfl rfl ?_
                      refine RW.skipS rfl rfl rfl rfl ?_
                      refine RW.skipS rfl rfl rfl rfl ?_
                      refine RW.skipS rfl rfl rfl rfl ?_
                      refine RW.pureS rfl rfl rfl rfl (OpP.pickF rfl rfl) ?_
                      refine RW.pureS rfl rfl rfl rfl (OpP.pickF rfl rfl) ?_
                      refine RW.done rfl ?_
                      exact ⟨rfl, at_bool rfl (rfl), rfl, rfl, rfl, rfl, rfl, rfl, rfl, rfl, rfl, rfl, trivial⟩
              · have g1' := of_decide_eq_false g1
                refine RW.skipS rfl rfl rfl rfl ?_
                refine RW.skipS rfl rfl rfl rfl ?_
                refine RW.skipS rfl rfl rfl rfl ?_
                refine RW.skipS rfl rfl rfl rfl ?_
                refine RW.skipS rfl rfl rfl rfl ?_
                refine RW.skipS rfl rfl rfl rfl ?_
                refine RW.skipS rfl rfl rfl rfl ?_
                refine RW.skipS rfl rfl rfl rfl ?_
                refine RW.skipS rfl rfl rfl rfl ?_
                refine RW.skipS rfl rfl rfl rfl ?_
                refine RW.skipS rfl rfl rfl rfl ?_
                refine RW.skipS rfl rfl rfl rfl ?_
                refine RW.skipS rfl rfl rfl rfl ?_
                refine RW.pureS rfl rfl rfl rfl (OpP.pickF rfl rfl) ?_
                refine RW.pureS rfl rfl rfl rfl (OpP.move rfl) ?_
                refine RW.pureS rfl rfl rfl rfl (OpP.move rfl) ?_
                refine RW.pureS rfl rfl rfl rfl (OpP.geq rfl rfl) ?_
                refine RW.pureS rfl rfl rfl rfl (OpP.move rfl) ?_
                refine RW.split (d := 90) rfl (fun g4 => ?_) (fun g4 => ?_)
                · have g4' := of_decide_eq_true g4
                  refine RW.pureS rfl rfl rfl rfl (OpP.move rfl) ?_
                  refine RW.pureS rfl rfl rfl rfl (OpP.move rfl) ?_
                  refine RW.pureS rfl rfl rfl rfl (OpP.lenSlice Tryd.underlying22 rfl) ?_
                  refine RW.pureS rfl rfl rfl rfl (OpP.lss rfl rfl) ?_
                  refine RW.pureS rfl rfl rfl rfl (OpP.pickT rfl rfl) ?_
                  refine RW.pureS rfl rfl rfl rfl (OpP.move rfl) ?_
                  refine RW.split (d := 96) rfl (fun g5 => ?_) (fun g5 => ?_)
                  · have g5' := of_decide_eq_true g5
                    refine RW.pureS rfl rfl rfl rfl (OpP.move rfl) ?_
                    refine RW.pureS rfl rfl rfl rfl (OpP.move rfl) ?_
                    refine RW.pureS rfl rfl rfl rfl (OpP.neqInt rfl rfl) ?_
                    refine RW.pureS rfl rfl rfl rfl (OpP.move rfl) ?_
                    refine RW.know (d := 100) (b' := false) rfl ((by simp; omega)) ?_
                    refine RW.pureS rfl rfl rfl rfl (OpP.move rfl) ?_
                    refine RW.pureS rfl rfl rfl rfl (OpP.move rfl) ?_
                    refine RW.pureS rfl rfl rfl rfl (OpP.neqInt rfl rfl) ?_
                    refine RW.pureS rfl rfl rfl rfl (OpP.pickF rfl rfl) ?_
                    refine RW.pureS rfl rfl rfl rfl (OpP.pickT rfl rfl) ?_
                    refine RW.pureS rfl rfl rfl rfl (OpP.pickF rfl rfl) ?_
                    refine RW.done rfl ?_
                    exact ⟨rfl, at_bool rfl (by simp; omega), rfl, rfl, rfl, rfl, rfl, rfl, rfl, rfl, rfl, rfl, trivial⟩
                  · refine RW.skipS rfl rfl rfl rfl ?_
                    refine RW.skipS rfl rfl rfl rfl ?_
                    refine RW.skipS rfl rfl rfl rfl ?_
                    refine RW.skipS rfl rfl rfl rfl ?_
                    refine RW.skipS rfl rfl rfl rfl ?_
                    refine RW.skipS rfl rfl rfl rfl ?_
                    refine RW.skipS rfl rfl rfl rfl ?_
                    refine RW.skipS rfl rfl rfl rfl ?_
                    refine RW.pureS rfl rfl rfl rfl (OpP.pickF rfl rfl) ?_
                    refine RW.pureS rfl rfl rfl rfl (OpP.pickF rfl rfl) ?_
                    refine RW.done rfl ?_
                    exact ⟨rfl, at_bool rfl (rfl), rfl, rfl, rfl, rfl, rfl, rfl, rfl, rfl, rfl, rfl, trivial⟩
                · refine RW.skipS rfl rfl rfl rfl ?_
                  refine RW.skipS rfl rfl rfl rfl ?_
                  refine RW.skipS rfl rfl rfl rfl ?_
                  refine RW.skipS rfl rfl rfl rfl ?_
                  refine RW.pureS rfl rfl rfl rfl (OpP.pickF rfl rfl) ?_
                  refine RW.pureS rfl rfl rfl rfl (OpP.move rfl) ?_
                  refine RW.skipS rfl rfl rfl rfl ?_
                  refine RW.skipS rfl rfl rfl rfl ?_
                  refine RW.skipS rfl rfl rfl rfl ?_
                  refine RW.skipS rfl rfl rfl rfl ?_
                  refine RW.skipS rfl rfl rfl rfl ?_
                  refine RW.skipS rfl rfl rfl rfl ?_
                  refine RW.skipS rfl rfl rfl rfl ?_
                  refine RW.skipS rfl rfl rfl rfl ?_
                  refine RW.pureS rfl rfl rfl rfl (OpP.pickF rfl rfl) ?_
                  refine RW.pureS rfl rfl rfl rfl (OpP.pickF rfl rfl) ?_
                  refine RW.done rfl ?_
                  exact ⟨rfl, at_bool rfl (rfl), rfl, rfl, rfl, rfl, rfl, rfl, rfl, rfl, rfl, rfl, trivial⟩
            · refine G.cond rfl rfl (fun hc => absurd hc (by decide)) (fun _ => ?_)
              refine G.skip rfl ?_
              refine G.blkEnd ?_
              refine G.reg Tryd.func6 rfl ?_
              refine RW.pureS rfl rfl rfl rfl (OpP.move rfl) ?_
              refine RW.pureS rfl rfl rfl rfl (OpP.add64 rfl rfl ⟨by omega, by omega⟩) ?_
              refine RW.pureS rfl rfl rfl rfl (OpP.assign rfl) ?_
              refine RW.done rfl ?_
              refine G.sub (ρ' := [(0, _), (2, _), (7, _), (9, _), (11, _), (12, _), (13, _), (14, _), (15, _), (53, _), (106, _)]) ⟨rfl, rfl, rfl, rfl, rfl, rfl, rfl, rfl, rfl, rfl, rfl, trivial⟩ ?_
              exact ih (i + 1) _ _ ⟨rfl, rfl, rfl, rfl, rfl, trivial⟩ ⟨(eg.trans e2').trans e3', by omega⟩ (by omega)
          · have e9' := e02.trans eg
            refine G.exit rfl rfl ?_
            refine G.seq rfl ?_
            refine G.reg Tryd.func6 rfl ?_
            refine RW.opS rfl rfl rfl rfl (OpX.call (vs := []) Tryd.func15 rfl H.nm15 rfl (CallsH.toX (matched_calls (hg.ext e9' (fun _ k => k.elim)) e9'.size))) ?_
            rintro _ h9 ⟨rfl, e9⟩
            refine RW.pureS rfl rfl rfl rfl (OpP.assign rfl) ?_
            refine RW.done rfl ?_
            refine G.sub (ρ' := [(0, _), (2, _), (6, _), (7, _), (9, _), (11, _), (53, _)]) ⟨rfl, rfl, rfl, rfl, rfl, rfl, rfl, trivial⟩ ?_
            refine G.ret Tryd.func6 rfl rfl ?_
            exact ⟨_, rfl, rfl, e9'.trans e9⟩

end Go.Proofs.YtlegopbpofofgaaDoor

/- NfasText: what it answers. -/
namespace Go.Proofs.YtlegopbpofofgaaDoor
open Go Go.Lw
set_option maxRecDepth 20000

def letOf (c : UInt8) : UInt8 := UInt8.ofNat (97 + c.toNat % 26)
theorem letOf_nat (c : UInt8) : (letOf c).toNat = 97 + c.toNat % 26 := by
  unfold letOf
  have : c.toNat % 26 < 26 := Nat.mod_lt _ (by decide)
  simp; omega
theorem letOf_letter (c : UInt8) : Letter (letOf c) := by
  have := letOf_nat c
  have h : c.toNat % 26 < 26 := Nat.mod_lt _ (by decide)
  exact ⟨by omega, by omega⟩
theorem letOf_val (c : UInt8) : IntKind.u8.wrap (97 + ((c.toNat : Nat) : Int).tmod 26) = ((letOf c).toNat : Nat) := by
  have h : c.toNat % 26 < 26 := Nat.mod_lt _ (by decide)
  rw [letOf_nat, Int.tmod_eq_emod_of_nonneg (by omega), wrap_u8 ⟨by omega, by omega⟩]
  omega

theorem nfasText_calls {h : Heap} (hg : Sg h h.size) {rv : Value} {letters s : By} (hr : SlR .byte h (fun _ => False) rv letters) :
    CallsH Tryd.prog 7 #[rv, .string (bs s)] h (Ret fun r h' => r = .bool true ∧ Ext0 h h') := by
  have hbs := bs_size s
  obtain ⟨oa, kn, kc, rfl, hsl⟩ := id hr.open
  have hkn := hsl.len
  refine CallsH.of Tryd.func7 rfl rfl ?_
  refine G.seq rfl ?_
  refine G.reg Tryd.func7 rfl ?_
  refine RW.pureS rfl rfl rfl rfl (OpP.assign rfl) ?_
  refine RW.done rfl ?_
  refine G.sub (ρ' := [(0, _), (1, _), (4, _)]) ⟨rfl, rfl, rfl, trivial⟩ ?_
  refine G.seq rfl ?_
  refine G.seq rfl ?_
  refine G.regTo1 [(19, .bool (decide (60 < kn ∨ 100 < s.length)))] [(0, _), (1, _), (4, _)] ⟨rfl, rfl, rfl, trivial⟩ Tryd.func7 rfl ?_ ?_
  · refine RW.pureS rfl rfl rfl rfl (OpP.move rfl) ?_
    refine RW.pureS rfl rfl rfl rfl (OpP.lenSlice Tryd.underlying47 rfl) ?_
    refine RW.pureS rfl rfl rfl rfl (OpP.gtr rfl rfl) ?_
    refine RW.pureS rfl rfl rfl rfl (OpP.move rfl) ?_
    refine RW.split (d := 15) rfl (fun hg1 => ?_) (fun hg1 => ?_)
    · have hg1' := of_decide_eq_true hg1
      refine RW.skipS rfl rfl rfl rfl ?_
      refine RW.skipS rfl rfl rfl rfl ?_
      refine RW.skipS rfl rfl rfl rfl ?_
      refine RW.pureS rfl rfl rfl rfl (OpP.pickT rfl rfl) ?_
      refine RW.done rfl ?_
      exact ⟨rfl, at_bool rfl (by simp; omega), rfl, rfl, rfl, trivial⟩
    · have hg1' := of_decide_eq_false hg1
      refine RW.pureS rfl rfl rfl rfl (OpP.move rfl) ?_
      refine RW.pureS rfl rfl rfl rfl (OpP.lenString Tryd.underlying9 rfl) ?_
      refine RW.pureS rfl rfl rfl rfl (OpP.gtr rfl rfl) ?_
      refine RW.pureS rfl rfl rfl rfl (OpP.pickF rfl rfl) ?_
      refine RW.done rfl ?_
      exact ⟨rfl, at_bool rfl (by simp only [decide_eq_decide]; omega), rfl, rfl, rfl, trivial⟩
  · refine G.ite rfl rfl (fun hbig => ?_) (fun hbig => ?_)
    · refine G.seq rfl ?_
      refine G.reg Tryd.func7 rfl ?_
      refine RW.opS rfl rfl rfl rfl (OpX.call (vs := []) Tryd.func15 rfl H.nm15 rfl (CallsH.toX (matched_calls hg (Nat.le_refl _)))) ?_
      rintro _ h1 ⟨rfl, e1⟩
      refine RW.pureS rfl rfl rfl rfl (OpP.assign rfl) ?_
      refine RW.done rfl ?_
      refine G.sub (ρ' := [(0, _), (1, _), (4, _), (19, _)]) ⟨rfl, rfl, rfl, rfl, trivial⟩ ?_
      refine G.ret Tryd.func7 rfl rfl ?_
      exact ⟨_, rfl, rfl, e1⟩
    · refine G.skip rfl ?_
      refine G.seq rfl ?_
      refine G.reg Tryd.func7 rfl ?_
      refine RW.pureS rfl rfl rfl rfl (OpP.assign rfl) ?_
      refine RW.done rfl ?_
      refine G.sub (ρ' := [(0, _), (1, _), (4, _), (5, _), (19, _)]) ⟨rfl, rfl, rfl, rfl, rfl, trivial⟩ ?_
      refine G.seq rfl ?_
      refine G.seq rfl ?_
      refine G.reg Tryd.func7 rfl ?_
      refine RW.pureS rfl rfl rfl rfl (OpP.assign rfl) ?_
      refine RW.done rfl ?_
      refine G.sub (ρ' := [(0, _), (1, _), (4, _), (5, _), (6, _), (19, _)]) ⟨rfl, rfl, rfl, rfl, rfl, rfl, trivial⟩ ?_
      refine G.block rfl rfl ?_
      refine G.loop (σ := Nat) (fun i => [(0, .slice oa kn kc), (1, .string (bs s)), (5, .string (bs ((letters.take i).map letOf))), (6, .int .i64 (i : Nat))]) (fun i h' => i ≤ kn ∧ Ext0 h h') (fun i => kn - i) (0) rfl ⟨rfl, rfl, rfl, rfl, trivial⟩ ⟨Nat.zero_le _, Ext.refl _ _⟩ ?_
      rintro i g ⟨hi, eg⟩ ih
      refine G.seq rfl ?_
      refine G.seq rfl ?_
      refine G.reg Tryd.func7 rfl ?_
      refine RW.pureS rfl rfl rfl rfl (OpP.move rfl) ?_
      refine RW.pureS rfl rfl rfl rfl (OpP.move rfl) ?_
      refine RW.pureS rfl rfl rfl rfl (OpP.lenSlice Tryd.underlying47 rfl) ?_
      refine RW.pureS rfl rfl rfl rfl (OpP.lss rfl rfl) ?_
      refine RW.done rfl ?_
      refine G.sub (ρ' := [(0, _), (1, _), (5, _), (6, _), (24, _)]) ⟨rfl, rfl, rfl, rfl, rfl, trivial⟩ ?_
      refine G.ite rfl rfl (fun hlt => ?_) (fun hlt => ?_)
      · obtain ⟨b1, o1, c, hoa, _, hc, hcc⟩ := (hsl.mv (Mv.ext0 eg)).at (show i < kn by omega)
        have htk : bs ((letters.take i).map letOf) ++ bs [letOf c] = bs ((letters.take (i + 1)).map letOf) := by
          rw [bs_append, List.take_add_one, hc, List.map_append]; rfl
        have hpush := letOf_val c
        have hlen := bs_size ((letters.take i).map letOf)
        rw [List.length_map, List.length_take] at hlen
        refine G.skip rfl ?_
        refine G.seq rfl ?_
        refine G.block rfl rfl ?_
        refine G.reg Tryd.func7 rfl ?_
        refine RW.pureS rfl rfl rfl rfl (OpP.move rfl) ?_
        refine RW.pureS rfl rfl rfl rfl (OpP.move rfl) ?_
        refine RW.pureS rfl rfl rfl rfl (OpP.move rfl) ?_
        refine RW.pureS rfl rfl rfl rfl (OpP.indexSlice Tryd.underlying47 H.sz5 rfl rfl i rfl hoa (by omega)) ?_
        refine RW.pureS rfl rfl rfl rfl (OpP.load H.ag5 rfl hcc) ?_
        refine RW.pureS rfl rfl rfl rfl (OpP.rem rfl rfl (by decide)) ?_
        refine RW.pureS rfl rfl rfl rfl (OpP.add rfl rfl) ?_
        refine RW.opS rfl rfl rfl rfl (OpX.buildOnes (us := [_]) Tryd.underlying47 H.el5 rfl rfl (by decide) (by simp [Value.oneCell'])) ?_
        rintro _ _ ⟨rfl, rfl⟩
        refine RW.pureS rfl rfl rfl rfl (OpP.convBytes Tryd.underlying47 Tryd.underlying5 Tryd.underlying9 rfl (OwE.read (O := fun _ => False) (h1 := fun _ => rfl) (OwE.made encB g 5 [letOf c] 1 rfl (by decide) g.size (Nat.le_refl _) (by rw [hpush]; rfl)) (fun _ _ k => k))) ?_
        refine RW.pureS rfl rfl rfl rfl (OpP.addStr rfl rfl (by rw [hlen]; show _ + 1 ≤ _; omega)) ?_
        refine RW.pureS rfl rfl rfl rfl (OpP.assign rfl) ?_
        refine RW.done rfl ?_
        refine G.sub (ρ' := [(0, _), (1, _), (5, _), (6, _), (24, _)]) ⟨rfl, rfl, rfl, rfl, rfl, trivial⟩ ?_
        refine G.blkEnd ?_
        refine G.reg Tryd.func7 rfl ?_
        refine RW.pureS rfl rfl rfl rfl (OpP.move rfl) ?_
        refine RW.pureS rfl rfl rfl rfl (OpP.add64 rfl rfl ⟨by omega, by omega⟩) ?_
        refine RW.pureS rfl rfl rfl rfl (OpP.assign rfl) ?_
        refine RW.done rfl ?_
        refine G.sub (ρ' := [(0, _), (1, _), (5, _), (6, _), (24, _)]) ⟨rfl, rfl, rfl, rfl, rfl, trivial⟩ ?_
        exact ih (i + 1) _ _ ⟨rfl, rfl, by rw [← htk]; rfl, rfl, trivial⟩ ⟨by omega, eg.trans (Ext.push _ _ _)⟩ (by omega)
      · have hie : letters.take i = letters := List.take_of_length_le (by omega)
        rw [hie]
        have htl : (letters.map letOf).length ≤ 60 := by rw [List.length_map]; omega
        have hlet : ∀ x ∈ letters.map letOf, Letter x := fun x hx => by obtain ⟨c, _, rfl⟩ := List.mem_map.1 hx; exact letOf_letter c
        generalize letters.map letOf = t at *
        obtain ⟨ss, st, hmk, hmatch⟩ := make_letters htl hlet
        have hmade := makeP_made hmk
        have hst := hmade.stl
        have hM : ∀ x : By, matchM [t] x 0 = if x.take t.length = t then ((t.length : Int), 0) else (0, -1) := fun x => by
          unfold matchM matchA
          rw [hmk]
          simp only
          rw [if_neg (by omega)]
          exact hmatch x
        have hE : makeE [t] = 0 := by unfold makeE; rw [hmk]
        have hbt := bs_size t
        refine G.exit rfl rfl ?_
        refine G.seq rfl ?_
        refine G.reg Tryd.func7 rfl ?_
        refine RW.pureS rfl rfl rfl rfl (OpP.move rfl) ?_
        refine RW.opS rfl rfl rfl rfl (OpX.buildOnes (us := [_]) Tryd.underlying22 H.el9 rfl rfl (by decide) (by simp [Value.oneCell'])) ?_
        rintro _ _ ⟨rfl, rfl⟩
        refine RW.opS rfl rfl rfl rfl (OpX.call (vs := [_]) Tryd.func16 rfl H.nm16 rfl (CallsH.toX (make_made (hg.ext (eg.trans (Ext.push (fun _ => False) g _)) (fun _ k => k.elim)) (by have := eg.size; simp; omega) (lits [t] 1 rfl (by decide)) (by intro x hx; simp at hx; subst hx; omega)))) ?_
        rintro _ h1 ⟨⟨p, rfl, hp⟩, e1⟩
        have e1 : Ext0 g h1 := (Ext.push (fun _ => False) g _).trans e1
        have e01 := eg.trans e1
        have hp : MadeAt h1 p [t] := by
          rcases hp with ⟨e, he, _⟩ | hp
          · rw [hmk] at he; cases he
          · exact hp
        rw [hE]
        refine RW.pureS rfl rfl rfl rfl (OpP.move rfl) ?_
        refine RW.pureS rfl rfl rfl rfl (OpP.extract rfl rfl) ?_
        refine RW.pureS rfl rfl rfl rfl (OpP.extract rfl rfl) ?_
        refine RW.pureS rfl rfl rfl rfl (OpP.assign rfl) ?_
        refine RW.pureS rfl rfl rfl rfl (OpP.assign rfl) ?_
        refine RW.done rfl ?_
        refine G.sub (ρ' := [(0, _), (1, _), (5, _), (6, _), (7, _), (8, _), (24, _)]) ⟨rfl, rfl, rfl, rfl, rfl, rfl, rfl, trivial⟩ ?_
        refine G.seq rfl ?_
        refine G.seq rfl ?_
        refine G.reg Tryd.func7 rfl ?_
        refine RW.pureS rfl rfl rfl rfl (OpP.move rfl) ?_
        refine RW.pureS rfl rfl rfl rfl (OpP.neqInt rfl rfl) ?_
        refine RW.done rfl ?_
        refine G.sub (ρ' := [(0, _), (1, _), (5, _), (6, _), (7, _), (8, _), (24, _), (44, _)]) ⟨rfl, rfl, rfl, rfl, rfl, rfl, rfl, rfl, trivial⟩ ?_
        refine G.cond rfl rfl (fun hc => absurd hc (by decide)) (fun _ => ?_)
        refine G.skip rfl ?_
        refine G.seq rfl ?_
        refine G.regTo1 [(9, .bool (decide (s.take t.length = t)))] [(0, _), (1, _), (5, _), (6, _), (7, _), (8, _), (24, _), (44, _)] ⟨rfl, rfl, rfl, rfl, rfl, rfl, rfl, rfl, trivial⟩ Tryd.func7 rfl ?_ ?_
        · refine RW.pureS rfl rfl rfl rfl (OpP.move rfl) ?_
          refine RW.pureS rfl rfl rfl rfl (OpP.lenString Tryd.underlying9 rfl) ?_
          refine RW.pureS rfl rfl rfl rfl (OpP.move rfl) ?_
          refine RW.pureS rfl rfl rfl rfl (OpP.lenString Tryd.underlying9 rfl) ?_
          refine RW.pureS rfl rfl rfl rfl (OpP.geq rfl rfl) ?_
          refine RW.pureS rfl rfl rfl rfl (OpP.move rfl) ?_
          refine RW.split (d := 50) rfl (fun hg2 => ?_) (fun hg2 => ?_)
          · have hg2' := of_decide_eq_true hg2
            refine RW.pureS rfl rfl rfl rfl (OpP.move rfl) ?_
            refine RW.pureS rfl rfl rfl rfl (OpP.move rfl) ?_
            refine RW.pureS rfl rfl rfl rfl (OpP.lenString Tryd.underlying9 rfl) ?_
            refine RW.pureS rfl rfl rfl rfl (OpP.sliceStrHi Tryd.underlying9 rfl rfl t.length (by omega) (by omega)) ?_
            refine RW.pureS rfl rfl rfl rfl (OpP.move rfl) ?_
            refine RW.pureS rfl rfl rfl rfl (OpP.eqlStr rfl rfl) ?_
            refine RW.pureS rfl rfl rfl rfl (OpP.pickT rfl rfl) ?_
            refine RW.pureS rfl rfl rfl rfl (OpP.assign rfl) ?_
            refine RW.done rfl ?_
            exact ⟨rfl, at_bool rfl (by rw [bs_part s 0 t.length (Nat.zero_le _), List.drop_zero, bs_eq]), rfl, rfl, rfl, rfl, rfl, rfl, rfl, rfl, trivial⟩
          · have hg2' := of_decide_eq_false hg2
            refine RW.skipS rfl rfl rfl rfl ?_
            refine RW.skipS rfl rfl rfl rfl ?_
            refine RW.skipS rfl rfl rfl rfl ?_
            refine RW.skipS rfl rfl rfl rfl ?_
            refine RW.skipS rfl rfl rfl rfl ?_
            refine RW.skipS rfl rfl rfl rfl ?_
            refine RW.pureS rfl rfl rfl rfl (OpP.pickF rfl rfl) ?_
            refine RW.pureS rfl rfl rfl rfl (OpP.assign rfl) ?_
            refine RW.done rfl ?_
            exact ⟨rfl, at_bool rfl (by rw [eq_comm, decide_eq_false_iff_not]; intro e; have := congrArg List.length e; rw [List.length_take] at this; omega), rfl, rfl, rfl, rfl, rfl, rfl, rfl, rfl, trivial⟩
        · refine G.seq rfl ?_
          refine G.reg Tryd.func7 rfl ?_
          refine RW.pureS rfl rfl rfl rfl (OpP.move rfl) ?_
          refine RW.pureS rfl rfl rfl rfl (OpP.move rfl) ?_
          refine RW.opS rfl rfl rfl rfl (OpX.call (vs := [_, _, _]) Tryd.func19 rfl H.nm19 rfl (CallsH.toX (match_made hp (by omega)))) ?_
          rintro _ h2 ⟨rfl, e2⟩
          have hMs := hM s
          have hp2 := hp.ext0 e2
          have hMt : matchM [t] (t ++ s) 0 = ((t.length : Int), 0) := by rw [hM, if_pos (by simp)]
          have e02 := e01.trans e2
          generalize matchM [t] s 0 = ms at *
          refine RW.pureS rfl rfl rfl rfl (OpP.move rfl) ?_
          refine RW.pureS rfl rfl rfl rfl (OpP.extract rfl rfl) ?_
          refine RW.pureS rfl rfl rfl rfl (OpP.extract rfl rfl) ?_
          refine RW.pureS rfl rfl rfl rfl (OpP.assign rfl) ?_
          refine RW.pureS rfl rfl rfl rfl (OpP.assign rfl) ?_
          refine RW.done rfl ?_
          refine G.sub (ρ' := [(0, _), (1, _), (5, _), (6, _), (7, _), (8, _), (9, _), (10, _), (11, _), (24, _), (44, _)]) ⟨rfl, rfl, rfl, rfl, rfl, rfl, rfl, rfl, rfl, rfl, rfl, trivial⟩ ?_
          refine G.seq rfl ?_
          have htakes : CallsH Tryd.prog 25 #[p, .string (bs t ++ bs s), .int .i64 0, .int .i64 ((bs t).size : Nat), .int .i64 0] h2 (Ret fun r h' => r = .bool true ∧ Ext0 h2 h') := by
            rw [bs_append]
            refine (takes_calls (s := t ++ s) (a := 0) (x := ((bs t).size : Nat)) (y := 0) hp2 (by rw [List.length_append]; omega)).ret fun r h' k => ⟨?_, k.2⟩
            rw [k.1, hMt, hbt, decide_eq_true rfl]
          refine G.regToX (fun (_u : Unit) (h' : Heap) => Ext0 h h') (fun (_u : Unit) => [(4, .bool true)]) [(0, _), (1, _), (5, _), (6, _), (7, _), (8, _), (9, _), (10, _), (11, _), (24, _), (44, _)] ⟨rfl, rfl, rfl, rfl, rfl, rfl, rfl, rfl, rfl, rfl, rfl, trivial⟩ Tryd.func7 rfl ?_ ?_
          · refine RW.pureS rfl rfl rfl rfl (OpP.move rfl) ?_
            refine RW.pureS rfl rfl rfl rfl (OpP.move rfl) ?_
            refine RW.pureS rfl rfl rfl rfl (OpP.move rfl) ?_
            refine RW.pureS rfl rfl rfl rfl (OpP.addStr rfl rfl (by rw [hbt, hbs]; omega)) ?_
            refine RW.pureS rfl rfl rfl rfl (OpP.move rfl) ?_
            refine RW.pureS rfl rfl rfl rfl (OpP.lenString Tryd.underlying9 rfl) ?_
            refine RW.opS rfl rfl rfl rfl (OpX.call (vs := [_, _, _, _, _]) Tryd.func25 rfl H.nm25 rfl (CallsH.toX (htakes))) ?_
            rintro _ h3 ⟨rfl, e3⟩
            refine RW.pureS rfl rfl rfl rfl (OpP.move rfl) ?_
            have e03 := e02.trans e3
            refine RW.know (d := 71) (b' := true) rfl (rfl) ?_
            by_cases hbeg : s.take t.length = t
            · rw [if_pos hbeg] at hMs
              subst hMs
              refine RW.pureS rfl rfl rfl rfl (OpP.move rfl) ?_
              refine RW.pureS rfl rfl rfl rfl (OpP.eqlInt rfl rfl) ?_
              refine RW.pureS rfl rfl rfl rfl (OpP.move rfl) ?_
              refine RW.pureS rfl rfl rfl rfl (OpP.eqlBool Tryd.underlying4 rfl rfl) ?_
              refine RW.pureS rfl rfl rfl rfl (OpP.pickT rfl rfl) ?_
              refine RW.pureS rfl rfl rfl rfl (OpP.move rfl) ?_
              refine RW.know (d := 77) (b' := true) rfl ((by simp [hbeg])) ?_
              refine RW.pureS rfl rfl rfl rfl (OpP.move rfl) ?_
              refine RW.pureS rfl rfl rfl rfl (OpP.notB rfl) ?_
              refine RW.pureS rfl rfl rfl rfl (OpP.move rfl) ?_
              refine RW.know (d := 80) (b' := false) rfl ((by simp [hbeg])) ?_
              refine RW.pureS rfl rfl rfl rfl (OpP.move rfl) ?_
              refine RW.pureS rfl rfl rfl rfl (OpP.move rfl) ?_
              refine RW.pureS rfl rfl rfl rfl (OpP.lenString Tryd.underlying9 rfl) ?_
              refine RW.pureS rfl rfl rfl rfl (OpP.eqlInt rfl rfl) ?_
              refine RW.pureS rfl rfl rfl rfl (OpP.pickF rfl rfl) ?_
              refine RW.pureS rfl rfl rfl rfl (OpP.pickT rfl rfl) ?_
              refine RW.pureS rfl rfl rfl rfl (OpP.move rfl) ?_
              refine RW.know (d := 87) (b' := true) rfl ((by simp [hbt])) ?_
              refine RW.pureS rfl rfl rfl rfl (OpP.move rfl) ?_
              refine RW.pureS rfl rfl rfl rfl (OpP.move rfl) ?_
              refine RW.know (d := 89) (b' := true) rfl ((by simp [hbeg])) ?_
              refine RW.skipS rfl rfl rfl rfl ?_
              refine RW.skipS rfl rfl rfl rfl ?_
              refine RW.skipS rfl rfl rfl rfl ?_
              refine RW.skipS rfl rfl rfl rfl ?_
              refine RW.skipS rfl rfl rfl rfl ?_
              refine RW.skipS rfl rfl rfl rfl ?_
              refine RW.pureS rfl rfl rfl rfl (OpP.pickT rfl rfl) ?_
              refine RW.pureS rfl rfl rfl rfl (OpP.pickT rfl rfl) ?_
              refine RW.pureS rfl rfl rfl rfl (OpP.move rfl) ?_
              refine RW.opS rfl rfl rfl rfl (OpX.call (vs := []) Tryd.func15 rfl H.nm15 rfl (CallsH.toX (matched_calls (hg.ext e03 (fun _ k => k.elim)) e03.size))) ?_
              rintro _ h9 ⟨rfl, e9⟩
              refine RW.pureS rfl rfl rfl rfl (OpP.pickT rfl rfl) ?_
              refine RW.pureS rfl rfl rfl rfl (OpP.assign rfl) ?_
              refine RW.done rfl ?_
              exact ⟨(), e03.trans e9, at_bool rfl (rfl), rfl, rfl, rfl, rfl, rfl, rfl, rfl, rfl, rfl, rfl, rfl, trivial⟩
            · rw [if_neg hbeg] at hMs
              subst hMs
              refine RW.pureS rfl rfl rfl rfl (OpP.move rfl) ?_
              refine RW.pureS rfl rfl rfl rfl (OpP.eqlInt rfl rfl) ?_
              refine RW.pureS rfl rfl rfl rfl (OpP.move rfl) ?_
              refine RW.pureS rfl rfl rfl rfl (OpP.eqlBool Tryd.underlying4 rfl rfl) ?_
              refine RW.pureS rfl rfl rfl rfl (OpP.pickT rfl rfl) ?_
              refine RW.pureS rfl rfl rfl rfl (OpP.move rfl) ?_
              refine RW.know (d := 77) (b' := true) rfl ((by simp [hbeg])) ?_
              refine RW.pureS rfl rfl rfl rfl (OpP.move rfl) ?_
              refine RW.pureS rfl rfl rfl rfl (OpP.notB rfl) ?_
              refine RW.pureS rfl rfl rfl rfl (OpP.move rfl) ?_
              refine RW.know (d := 80) (b' := true) rfl ((by simp [hbeg])) ?_
              refine RW.skipS rfl rfl rfl rfl ?_
              refine RW.skipS rfl rfl rfl rfl ?_
              refine RW.skipS rfl rfl rfl rfl ?_
              refine RW.skipS rfl rfl rfl rfl ?_
              refine RW.pureS rfl rfl rfl rfl (OpP.pickT rfl rfl) ?_
              refine RW.pureS rfl rfl rfl rfl (OpP.pickT rfl rfl) ?_
              refine RW.pureS rfl rfl rfl rfl (OpP.move rfl) ?_
              refine RW.pureS rfl rfl rfl rfl (OpP.move rfl) ?_
              refine RW.pureS rfl rfl rfl rfl (OpP.move rfl) ?_
              refine RW.know (d := 89) (b' := false) rfl ((by simp [hbeg])) ?_
              refine RW.pureS rfl rfl rfl rfl (OpP.move rfl) ?_
              refine RW.pureS rfl rfl rfl rfl (OpP.eqlInt rfl rfl) ?_
              refine RW.pureS rfl rfl rfl rfl (OpP.move rfl) ?_
              refine RW.know (d := 92) (b' := true) rfl (rfl) ?_
              refine RW.pureS rfl rfl rfl rfl (OpP.move rfl) ?_
              refine RW.pureS rfl rfl rfl rfl (OpP.eqlInt rfl rfl) ?_
              refine RW.pureS rfl rfl rfl rfl (OpP.pickT rfl rfl) ?_
              refine RW.pureS rfl rfl rfl rfl (OpP.pickF rfl rfl) ?_
              refine RW.pureS rfl rfl rfl rfl (OpP.pickT rfl rfl) ?_
              refine RW.pureS rfl rfl rfl rfl (OpP.move rfl) ?_
              refine RW.know (d := 98) (b' := true) rfl (rfl) ?_
              refine RW.opS rfl rfl rfl rfl (OpX.call (vs := []) Tryd.func15 rfl H.nm15 rfl (CallsH.toX (matched_calls (hg.ext e03 (fun _ k => k.elim)) e03.size))) ?_
              rintro _ h9 ⟨rfl, e9⟩
              refine RW.pureS rfl rfl rfl rfl (OpP.pickT rfl rfl) ?_
              refine RW.pureS rfl rfl rfl rfl (OpP.assign rfl) ?_
              refine RW.done rfl ?_
              exact ⟨(), e03.trans e9, at_bool rfl (rfl), rfl, rfl, rfl, rfl, rfl, rfl, rfl, rfl, rfl, rfl, rfl, trivial⟩
          · rintro _ h4 e4
            refine G.ret Tryd.func7 rfl rfl ?_
            exact ⟨_, rfl, rfl, e4⟩

end Go.Proofs.YtlegopbpofofgaaDoor
