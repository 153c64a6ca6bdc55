/- Plain words, the logic of walks, and walks that the statement's proof leans on (part 22). -/
import Derived.ChangeKeysEq
import Derived.Test.YtlegopbpofofgaaDoorQa
import Derived.Test.YtlegopbpofofgaaDoorQb
import Derived.Test.YtlegopbpofofgaaDoorQc
import Derived.Test.YtlegopbpofofgaaDoorQd
import Derived.Test.YtlegopbpofofgaaDoorQe
import Derived.Test.YtlegopbpofofgaaDoorQf
import Derived.Test.YtlegopbpofofgaaDoorQg
import Derived.Test.YtlegopbpofofgaaDoorQh
import Derived.Test.YtlegopbpofofgaaDoorQi
import Derived.Test.YtlegopbpofofgaaDoorQj
import Derived.Test.YtlegopbpofofgaaDoorQk
import Derived.Test.YtlegopbpofofgaaDoorQl
import Derived.Test.YtlegopbpofofgaaDoorQm
import Derived.Test.YtlegopbpofofgaaDoorQn
import Derived.Test.YtlegopbpofofgaaDoorQo
import Derived.Test.YtlegopbpofofgaaDoorQp
import Derived.Test.YtlegopbpofofgaaDoorQq
import Derived.Test.YtlegopbpofofgaaDoorQr
import Derived.Test.YtlegopbpofofgaaDoorQs
import Derived.Test.YtlegopbpofofgaaDoorQt
import Derived.Test.YtlegopbpofofgaaDoorQu

namespace Go.Lw
section
variable {P : Program} {ρ : Env} {h : Heap} {dst : Option Nat} {ty : TypeId} {pos : String} {after : Array Edge} {guard : Option (Nat × Bool)}
theorem eqItems_ints {d : Nat} {e : TypeId} {k : IntKind} {xs ys : List Int} {w : World} (he : P.underlying e = some (.int k)) (hr : isRowT P e = some false) (hl : ys.length = xs.length) : ∀ (m j : Nat), j + m = xs.length →
    (Op.eqItems (d + 1) e 1 (xs.map (Value.int k)).toArray (ys.map (Value.int k)).toArray (List.range' j m)).run P w = .ok (decide (xs.drop j = ys.drop j)) w
  | 0, j, hj => by
    rw [List.drop_of_length_le (by omega), List.drop_of_length_le (by omega)]
    simp [Op.eqItems]
  | m + 1, j, hj => by
    have hx : xs[j]? = some (xs[j]'(by omega)) := List.getElem?_eq_getElem _
    have hy : ys[j]? = some (ys[j]'(by omega)) := List.getElem?_eq_getElem _
    have dx : xs.drop j = xs[j]'(by omega) :: xs.drop (j + 1) := List.drop_eq_getElem_cons _
    have dy : ys.drop j = ys[j]'(by omega) :: ys.drop (j + 1) := List.drop_eq_getElem_cons _
    generalize xs[j]'(by omega) = x at *
    generalize ys[j]'(by omega) = y at *
    have p1 : (part e (xs.map (Value.int k)).toArray (j * 1)).run P w = .ok (.int k x) w := by simp [part, run_isAgg' hr, hx]
    have p2 : (part e (ys.map (Value.int k)).toArray (j * 1)).run P w = .ok (.int k y) w := by simp [part, run_isAgg' hr, hy]
    have p3 := run_equalIn_int (P := P) w d e k k x y he
    have ih := eqItems_ints (d := d) (w := w) he hr hl m (j + 1) (by omega)
    rw [List.range'_succ]
    simp only [Op.eqItems, Sem.run_bind, p1, p2, p3, Result.andThen_ok, ih]
    rw [dx, dy]
    by_cases hxy : x = y
    · subst hxy; simpa using ih
    · simp [hxy]
theorem OpP.neqArr {t yt e : TypeId} {x y : Operand} {k : IntKind} {xs ys : List Int} {i : TypeInfo} {n : Nat} (ht : P.underlying t = some (.array n e)) (he : P.underlying e = some (.int k)) (hi : P.info? e = some i) (hc : P.cellsOf e = 1) (hr : isRowT P e = some false) (hm : P.eqGuardType P.depth t = false)
    (hx : opd ρ x = some (.agg (xs.map (Value.int k)).toArray)) (hy : opd ρ y = some (.agg (ys.map (Value.int k)).toArray)) (hn : xs.length = n) (hl : ys.length = xs.length) :
    OpP P ⟨dst, .binOp .neq t x y yt, ty, pos, after, guard⟩ ρ h (.bool (!decide (xs = ys))) := by
  intro _ B a w hf _
  have h1 := run_eqGuard_agg (P := P) w .neq t x y (xs.map (Value.int k)).toArray (ys.map (Value.int k)).toArray hm
  have h2 := run_neq_struct (P := P) w t (xs.map (Value.int k)).toArray (ys.map (Value.int k)).toArray
  have h3 := eqItems_ints (P := P) (d := 9998) (w := w) he hr hl n 0 (by omega)
  rw [run_equalIn_array w 9999 _ _ ht hi, hc, List.range_eq_range', h3] at h2
  rw [List.drop_zero, List.drop_zero] at h2
  simp [execOp, hf.eval hx, hf.eval hy, h1, h2]
end
end Go.Lw
namespace Go.Proofs.YtlegopbpofofgaaDoor
open Go Go.Lw
set_option maxRecDepth 20000
theorem dsays_ref {rules : List By} {d : Tab} (h : dmadeP rules = .inr d) (w : By) : d.says 0 w = refLeast 0 (rulesR rules) w := by
  unfold dmadeP at h
  split at h
  · cases h
  · rename_i ss st hm
    obtain ⟨_, L, h1, h2, _⟩ := dmakeP_lists h
    rw [h1.says0 h2 w, least_ref hm]
theorem rules_of_made {rules : List By} {d : Tab} (h : dmadeP rules = .inr d) : rulesP rules = 0 := by
  unfold dmadeP at h
  split at h
  · cases h
  · rename_i ss st hm
    rcases make_rules rules with ⟨q, _, h0⟩ | ⟨hq, _⟩
    · exact h0
    · rw [hm] at hq; cases hq
theorem rulesE_not : ∀ (l : List By), rulesE l ≠ 70
  | [] => by rw [rulesE]; decide
  | s :: r => by
    rw [rulesE]
    split
    · unfold parseE
      split
      · decide
      · split
        · exact (by decide : (0 : Int) ≠ 70)
        · exact (by decide : (10 : Int) ≠ 70)
    · exact rulesE_not r
theorem err_facts {rules : List By} {e : Int} (h : dmadeP rules = .inl e) (hn : totL rules ≤ 2000) : (rulesP rules = 0 ∧ e = 70) ∨ (rulesP rules ≠ 0 ∧ e ≠ 70) := by
  unfold dmadeP at h
  split at h
  · rename_i e' hm
    cases h
    rcases make_rules rules with ⟨q, hq, _⟩ | ⟨hq, h0⟩
    · rw [hm] at hq; cases hq
    · rw [hm] at hq
      cases hq
      refine .inr ⟨h0, ?_⟩
      unfold rulesP
      split
      · decide
      · split
        · exact rulesE_not rules
        · rw [if_neg (by omega)]; decide
  · rename_i ss st hm
    have h0 : rulesP rules = 0 := by
      rcases make_rules rules with ⟨q, _, h0⟩ | ⟨hq, _⟩
      · exact h0
      · rw [hm] at hq; cases hq
    refine .inl ⟨h0, ?_⟩
    unfold dmakeP at h
    rw [if_neg (start_some hm)] at h
    split at h
    · cases h; rfl
    · cases h
theorem tot_le : ∀ (l : List By), (∀ s ∈ l, s.length ≤ 24) → totL l ≤ 24 * l.length
  | [], _ => by simp [totL]
  | s :: l, h => by
    have h1 := h s (by simp)
    have h2 := tot_le l (fun x hx => h x (by simp [hx]))
    unfold totL at *
    simp only [List.map_cons, List.sum_cons, List.length_cons]; omega
def setFull (s : Nat) : Bool := !decide ([(wrd s 0 : Int), wrd s 1, wrd s 2, wrd s 3] = [0, 0, 0, 0])
theorem setFull_bit {s : Nat} (h : setFull s = true) : ∃ c : UInt8, s.testBit c.toNat = true := by
  have hw : ∃ q, q < 4 ∧ wrd s q ≠ 0 := by
    by_cases h0 : wrd s 0 = 0
    · by_cases h1 : wrd s 1 = 0
      · by_cases h2 : wrd s 2 = 0
        · by_cases h3 : wrd s 3 = 0
          · simp [setFull, h0, h1, h2, h3] at h
          · exact ⟨3, by decide, h3⟩
        · exact ⟨2, by decide, h2⟩
      · exact ⟨1, by decide, h1⟩
    · exact ⟨0, by decide, h0⟩
  obtain ⟨q, hq, hn⟩ := hw
  obtain ⟨i, hi⟩ := Nat.exists_testBit_of_ne_zero hn
  rw [wrd_bit, Bool.and_eq_true] at hi
  have hi64 := of_decide_eq_true hi.1
  refine ⟨UInt8.ofNat (64 * q + i), ?_⟩
  have : (UInt8.ofNat (64 * q + i)).toNat = 64 * q + i := by simp; omega
  rw [this]; exact hi.2
def ruleFull (r : RuP) : Bool := (r.sets.drop 1).all setFull
theorem ruleFull_R {r : RuP} (h : ruleFull r = true) : FullR r := fun k s hk hs => by
  obtain ⟨j, rfl⟩ : ∃ j, k = 1 + j := ⟨k - 1, by omega⟩
  exact setFull_bit (List.all_eq_true.1 h s (List.mem_of_getElem? (i := j) (by rw [List.getElem?_drop]; exact hs)))
theorem steps_ref {rules : List By} {d m : Tab} (h : dmadeP rules = .inr d) (hm : m.Ok) (hm0 : 0 < m.next.length) (ht : Trim m) (hl : Like m d 0 0) (hf : ∀ r ∈ rulesR rules, ruleFull r = true) (s : By) (a : Int) : (dmatchA m s a).2.2 = (refA (rulesR rules) s a).2.2 := by
  have h0 := rules_of_made h
  have hok : ∀ r ∈ rulesR rules, ∃ n, RuleOk r n := fun r hr => by obtain ⟨n, k, _⟩ := rules_ok h0 r hr; exact ⟨n, k⟩
  have hlive : ∀ v, anyPl (runPl (rulesR rules) v) = true → ∃ w, 0 ≤ refLeast 0 (rulesR rules) (v ++ w) := fun v hv => by
    rw [rulesR_map] at hv ⊢
    exact full_live (rules_wf h0) (fun x hx => by obtain ⟨t, _, rfl⟩ := List.mem_map.1 hx; exact parseE_alt t) (fun r hr => ruleFull_R (hf r (by rw [rulesR_map]; exact hr))) v hv
  unfold dmatchA refA
  by_cases ha : a < 0 ∨ (s.length : Int) < a
  · rw [if_pos (.inr ha), if_pos ha]
  · rw [if_neg (by omega), if_neg ha, steps_far hm ht hok hlive (s.drop a.toNat) [] 0 0 (0, -1) hm0 (fun w => by rw [List.nil_append, ← dsays_ref h w]; exact hl w)]
    unfold refMatch
    rw [refGs_far _ _ _ _ hok (Int.le_refl _)]
    show _ = max (0 : Int) _
    omega
theorem dfasMatch_calls {h : Heap} (hg : Sg h h.size) (htens : Tens h) {rv : Value} {rules : List By} {s : By} {a : Int} (hr : SlR eBy h (fun _ => False) rv rules) :
    CallsH Tryd.prog 8 #[rv, .string (bs s), .int .i64 a] h (Ret fun r h' => r = .bool true ∧ Ext0 h h') := by
  have hbs := bs_size s
  refine CallsH.of Tryd.func8 rfl rfl ?_
  refine xr Tryd.func8 rfl ?_
  refine xq rfl ?_
  refine xd [0, 1, 2, 6] rfl ?_
  refine G.seq rfl ?_
  refine G.seq rfl ?_
  refine G.regToX (fun (_u : Unit) (h' : Heap) => h' = h) (fun (_u : Unit) => [(33, .bool (greatD rules || decide (60 < s.length)))]) [(0, _), (1, _), (2, _), (6, _)] ⟨rfl, rfl, rfl, rfl, trivial⟩ Tryd.func8 rfl ?_ ?_
  · refine xq rfl ?_
    refine xo rfl (OpX.call (vs := [_]) Tryd.func26 rfl H.nm26 rfl (CallsH.toX (great12_calls hr))) ?_
    rintro _ h0 ⟨rfl, hh0⟩
    refine xq rfl ?_
    subst hh0
    refine RW.split (d := 29) rfl (fun hg1 => ?_) (fun hg1 => ?_)
    · iterate 3 refine xk rfl ?_
      refine xq rfl ?_
      refine RW.done rfl ?_
      exact ⟨(), rfl, at_bool rfl (by rw [hg1, Bool.true_or]), rfl, rfl, rfl, rfl, trivial⟩
    · refine xq rfl ?_
      refine xp rfl (OpP.lenString Tryd.underlying9 rfl) ?_
      iterate 2 refine xq rfl ?_
      refine RW.done rfl ?_
      exact ⟨(), rfl, at_bool rfl (by rw [hg1, Bool.false_or]; simp only [decide_eq_decide]; omega), rfl, rfl, rfl, rfl, trivial⟩
  · rintro _ h0 rfl
    refine G.cond rfl rfl (fun hbig => ?_) (fun hbig => ?_)
    · refine xr Tryd.func8 rfl ?_
      refine xo rfl (OpX.call (vs := []) Tryd.func27 rfl H.nm27 rfl (CallsH.toX (tabled_calls hg (Nat.le_refl _) htens))) ?_
      rintro _ h1 ⟨rfl, e1⟩
      refine xq rfl ?_
      refine xd [0, 1, 2, 6, 33] rfl ?_
      refine G.ret Tryd.func8 rfl rfl ?_
      exact ⟨_, rfl, rfl, e1⟩
    · rw [Bool.or_eq_false_iff] at hbig
      have hnot := greatD_not hbig.1
      have hs60 : s.length ≤ 60 := by have := of_decide_eq_false hbig.2; omega
      have hall : ∀ x ∈ rules, x.length ≤ 1000000 := fun x hx => by have := hnot.2 x hx; omega
      have htot : totL rules ≤ 2000 := by have := tot_le rules hnot.2; omega
      refine G.skip rfl ?_
      refine xr Tryd.func8 rfl ?_
      refine xq rfl ?_
      refine xo rfl (OpX.call (vs := [_]) Tryd.func17 rfl H.nm17 rfl (CallsH.toX (rules_calls hr hall))) ?_
      rintro _ h1 ⟨⟨v7, rfl, hv7⟩, e1⟩
      iterate 5 refine xq rfl ?_
      refine xd [0, 1, 2, 6, 7, 8, 33] rfl ?_
      refine xr Tryd.func8 rfl ?_
      refine xq rfl ?_
      refine xo rfl (OpX.call (vs := [_]) Tryd.func28 rfl H.nm28 rfl (CallsH.toX (made12_calls (hg.ext e1 (fun _ k => k.elim)) e1.size (htens.ext0 e1) (hr.ext0 e1) hall))) ?_
      rintro _ h2 ⟨⟨p, q, rfl, hp⟩, e2⟩
      have e02 := e1.trans e2
      rcases hdm : dmadeP rules with e | d
      · have hE : dmadeE rules = e := by unfold dmadeE; rw [hdm]
        have hne := dmadeP_ne hdm
        have herr := err_facts hdm htot
        rw [hE]
        iterate 7 refine xq rfl ?_
        refine xd [0, 1, 2, 6, 7, 8, 10, 11, 33] rfl ?_
        refine G.seq rfl ?_
        refine G.seq rfl ?_
        refine G.regTo1 [(51, .bool true)] [(0, _), (1, _), (2, _), (6, _), (7, _), (8, _), (10, _), (11, _), (33, _)] ⟨rfl, rfl, rfl, rfl, rfl, rfl, rfl, rfl, rfl, trivial⟩ Tryd.func8 rfl ?_ ?_
        · iterate 3 refine xq rfl ?_
          refine RW.split (d := 48) rfl (fun c1 => ?_) (fun c1 => ?_)
          · iterate 2 refine xk rfl ?_
            refine xq rfl ?_
            refine RW.done rfl ?_
            exact ⟨rfl, at_bool rfl (rfl), rfl, rfl, rfl, rfl, rfl, rfl, rfl, rfl, rfl, trivial⟩
          · iterate 3 refine xq rfl ?_
            refine RW.done rfl ?_
            exact ⟨rfl, at_bool rfl (by simp [hne]), rfl, rfl, rfl, rfl, rfl, rfl, rfl, rfl, rfl, trivial⟩
        · refine G.cond rfl rfl (fun _ => ?_) (fun hc => absurd hc (by decide))
          refine G.seq rfl ?_
          refine G.regToX (fun (_u : Unit) (h' : Heap) => Ext0 h0 h') (fun (_u : Unit) => [(6, .bool true)]) [(0, _), (1, _), (2, _), (7, _), (8, _), (10, _), (11, _), (33, _), (51, _)] ⟨rfl, rfl, rfl, rfl, rfl, rfl, rfl, rfl, rfl, trivial⟩ Tryd.func8 rfl ?_ ?_
          · iterate 5 refine xq rfl ?_
            refine RW.know (d := 56) (b' := false) rfl ((by simp [hne])) ?_
            iterate 3 refine xq rfl ?_
            refine xp rfl (OpP.eqlBool Tryd.underlying4 rfl rfl) ?_
            refine xq rfl ?_
            refine RW.know (d := 61) (b' := true) rfl ((by rcases herr with ⟨k1, k2⟩ | ⟨k1, k2⟩ <;> simp [k1, k2])) ?_
            refine xo rfl (OpX.call (vs := []) Tryd.func27 rfl H.nm27 rfl (CallsH.toX (tabled_calls (hg.ext e02 (fun _ k => k.elim)) e02.size (htens.ext0 e02)))) ?_
            rintro _ h3 ⟨rfl, e3⟩
            iterate 2 refine xq rfl ?_
            refine RW.done rfl ?_
            exact ⟨(), e02.trans e3, at_bool rfl (rfl), rfl, rfl, rfl, rfl, rfl, rfl, rfl, rfl, rfl, trivial⟩
          · rintro _ h4 e4
            refine G.ret Tryd.func8 rfl rfl ?_
            exact ⟨_, rfl, rfl, e4⟩
      · rw [hdm] at hp
        obtain ⟨hm, db, rfl, hk⟩ := hp
        have hE : dmadeE rules = 0 := by unfold dmadeE; rw [hdm]
        have h00 := rules_of_made hdm
        have hok := (dmadeP_ok hdm).1
        have hd0 := (dmadeP_ok hdm).2
        obtain ⟨hmok, hm0, hmle, hlike, htrim⟩ := minP_spec hok hd0
        have hka : TabAt h2 (.pointer (some ⟨db, 0, none⟩)) d := .inr ⟨db, rfl, hk⟩
        have hrs := (hv7 h00).mv (Mv.ext0 e2)
        have hrok := rules_ok h00
        have hrl : (rulesR rules).length ≤ 1000000 := by simp [rulesR]; omega
        have hsteps := steps_ref hdm hmok hm0 htrim hlike
        have hmref := matchM_ref h00
        rw [hE, h00]
        generalize rulesR rules = rs at *
        obtain ⟨va, vn, vc, rfl, hvl⟩ := id hrs.open
        have hvn := hvl.len
        have hvle := hvl.le
        have hvcap := hvl.cap
        simp only [maxLen] at hvcap
        iterate 7 refine xq rfl ?_
        refine xd [0, 1, 2, 6, 7, 8, 10, 11, 33] rfl ?_
        refine G.seq rfl ?_
        refine G.seq rfl ?_
        refine G.regTo1 [(51, .bool false)] [(0, _), (1, _), (2, _), (6, _), (7, _), (8, _), (10, _), (11, _), (33, _)] ⟨rfl, rfl, rfl, rfl, rfl, rfl, rfl, rfl, rfl, trivial⟩ Tryd.func8 rfl ?_ ?_
        · iterate 3 refine xq rfl ?_
          refine RW.know (d := 48) (b' := false) rfl ((by simp)) ?_
          iterate 3 refine xq rfl ?_
          refine RW.done rfl ?_
          exact ⟨rfl, at_bool rfl (by simp), rfl, rfl, rfl, rfl, rfl, rfl, rfl, rfl, rfl, trivial⟩
        · refine G.cond rfl rfl (fun hc => absurd hc (by decide)) (fun _ => ?_)
          refine G.skip rfl ?_
          refine xr Tryd.func8 rfl ?_
          refine xq rfl ?_
          refine xd [0, 1, 2, 6, 7, 8, 10, 11, 12, 33, 51] rfl ?_
          refine G.seq rfl ?_
          refine xr Tryd.func8 rfl ?_
          refine xq rfl ?_
          refine xd [0, 1, 2, 6, 7, 8, 10, 11, 12, 13, 33, 51] rfl ?_
          refine G.block rfl rfl ?_
          refine G.loop (σ := Nat × Bool) (fun q => [(1, .string (bs s)), (2, .int .i64 a), (7, .slice va vn vc), (10, .pointer (some ⟨db, 0, none⟩)), (12, .bool q.2), (13, .int .i64 (q.1 : Nat))]) (fun q h' => h' = h2 ∧ q.1 ≤ rs.length ∧ q.2 = (rs.take q.1).all ruleFull) (fun q => rs.length - q.1) ((0, true)) rfl ⟨rfl, rfl, rfl, rfl, rfl, rfl, trivial⟩ ⟨rfl, Nat.zero_le _, by simp⟩ ?_
          rintro ⟨i, full⟩ g ⟨hgg, hi, hful⟩ ih
          try dsimp only
          dsimp only at hi hful
          subst hgg
          refine G.seq rfl ?_
          refine xr Tryd.func8 rfl ?_
          iterate 2 refine xq rfl ?_
          refine xp rfl (OpP.lenSlice Tryd.underlying28 rfl) ?_
          refine xq rfl ?_
          refine xd [1, 2, 7, 10, 12, 13, 67] rfl ?_
          refine G.ite rfl rfl (fun hlt => ?_) (fun hlt => ?_)
          · have hil : i < rs.length := by omega
            obtain ⟨r, hri⟩ : ∃ r, rs[i]? = some r := ⟨_, List.getElem?_eq_getElem hil⟩
            obtain ⟨b3, o3, cs3, ha3, hO3, hrow3, rb, rfl, hrd⟩ := hvl.get i r hri
            obtain ⟨vs, vb, vl, _, hkr, hset, _, _⟩ := id hrd
            obtain ⟨n1, hrule, hn1⟩ := hrok r (List.mem_of_getElem? hri)
            obtain ⟨sa, sn, sc, rfl, hsl⟩ := hset.open
            have hsn := hsl.len
            have hsle := hsl.le
            have hspos := hrule.pos
            have hslen := hrule.sets
            refine G.skip rfl ?_
            refine G.seq rfl ?_
            refine G.block rfl rfl ?_
            refine xr Tryd.func8 rfl ?_
            refine xq rfl ?_
            refine xd [1, 2, 7, 10, 12, 13, 14, 67] rfl ?_
            refine G.block rfl rfl ?_
            refine G.loop (σ := Nat × Bool) (fun q => [(1, .string (bs s)), (2, .int .i64 a), (7, .slice va vn vc), (10, .pointer (some ⟨db, 0, none⟩)), (12, .bool q.2), (13, .int .i64 (i : Nat)), (14, .int .i64 (q.1 : Nat))]) (fun q h' => h' = g ∧ 1 ≤ q.1 ∧ q.1 ≤ r.sets.length ∧ q.2 = ((rs.take i).all ruleFull && ((r.sets.take q.1).drop 1).all setFull)) (fun q => r.sets.length - q.1) ((1, full)) rfl ⟨rfl, rfl, rfl, rfl, rfl, rfl, rfl, trivial⟩ ⟨rfl, Nat.le_refl _, hspos, by simp [hful, List.drop_of_length_le]⟩ ?_
            rintro ⟨j, full2⟩ g2 ⟨hgg2, hj1, hj2, hful2⟩ ih2
            try dsimp only
            dsimp only at hj1 hj2 hful2
            subst hgg2
            refine G.seq rfl ?_
            refine xr Tryd.func8 rfl ?_
            iterate 3 refine xq rfl ?_
            refine xp rfl (OpP.indexSlice Tryd.underlying28 H.sz58 rfl rfl i rfl ha3 (by omega)) ?_
            refine xp rfl (OpP.load H.ag58 rfl (hrow3 0 _ rfl)) ?_
            refine xq rfl ?_
            refine xp rfl (OpP.fieldAddr (off := 0) Tryd.underlying57 rfl rfl H.sz53 rfl) ?_
            refine xp rfl (OpP.load H.ag53 rfl (hkr.cell (i := 0) rfl)) ?_
            refine xp rfl (OpP.lenSlice Tryd.underlying53 rfl) ?_
            refine xq rfl ?_
            refine xd [1, 2, 7, 10, 12, 13, 14, 79] rfl ?_
            refine G.ite rfl rfl (fun hlt2 => ?_) (fun hlt2 => ?_)
            · obtain ⟨st, hst⟩ : ∃ st, r.sets[j]? = some st := ⟨_, List.getElem?_eq_getElem (by omega)⟩
              obtain ⟨b4, o4, cs4, ha4, hO4, hrow4, rfl⟩ := hsl.get j st hst
              have htk : ((r.sets.take (j + 1)).drop 1).all setFull = (((r.sets.take j).drop 1).all setFull && setFull st) := by
                rw [List.take_add_one, hst, List.drop_append_of_le_length (by rw [List.length_take]; omega), List.all_append]; simp
              refine G.skip rfl ?_
              refine G.seq rfl ?_
              refine G.block rfl rfl ?_
              refine G.regTo1 [(12, .bool (full2 && setFull st))] [(1, _), (2, _), (7, _), (10, _), (13, _), (14, _), (79, _)] ⟨rfl, rfl, rfl, rfl, rfl, rfl, rfl, trivial⟩ Tryd.func8 rfl ?_ ?_
              · iterate 2 refine xq rfl ?_
                refine RW.split (d := 83) rfl (fun hc => ?_) (fun hc => ?_)
                · iterate 2 refine xq rfl ?_
                  refine xp rfl (OpP.indexSlice Tryd.underlying28 H.sz58 rfl rfl i rfl ha3 (by omega)) ?_
                  refine xp rfl (OpP.load H.ag58 rfl (hrow3 0 _ rfl)) ?_
                  refine xq rfl ?_
                  refine xp rfl (OpP.fieldAddr (off := 0) Tryd.underlying57 rfl rfl H.sz53 rfl) ?_
                  refine xp rfl (OpP.load H.ag53 rfl (hkr.cell (i := 0) rfl)) ?_
                  refine xq rfl ?_
                  refine xp rfl (OpP.indexSlice Tryd.underlying53 H.sz60 rfl rfl j rfl ha4 (by omega)) ?_
                  refine xp rfl (OpP.loadRowN H.ag60 H.sz60 rfl hrow4 (by first | rfl | simp)) ?_
                  refine xp rfl (OpP.build (H.bd60_ ) rfl) ?_
                  refine xp rfl (OpP.neqArr (xs := [(wrd st 0 : Int), wrd st 1, wrd st 2, wrd st 3]) (ys := [0, 0, 0, 0]) Tryd.underlying60 Tryd.underlying59 rfl (by kernel_rfl) (by kernel_rfl) (by kernel_rfl) rfl rfl rfl rfl) ?_
                  iterate 2 refine xq rfl ?_
                  refine RW.done rfl ?_
                  exact ⟨rfl, at_bool rfl (by rw [hc]; rfl), rfl, rfl, rfl, rfl, rfl, rfl, rfl, trivial⟩
                · iterate 12 refine xk rfl ?_
                  iterate 2 refine xq rfl ?_
                  refine RW.done rfl ?_
                  exact ⟨rfl, at_bool rfl (by rw [hc]; rfl), rfl, rfl, rfl, rfl, rfl, rfl, rfl, trivial⟩
              · refine G.blkEnd ?_
                refine G.reg Tryd.func8 rfl ?_
                refine xq rfl ?_
                refine xp rfl (OpP.add64 rfl rfl ⟨by omega, by omega⟩) ?_
                refine xq rfl ?_
                refine xd [1, 2, 7, 10, 12, 13, 14, 79] rfl ?_
                exact ih2 (j + 1, full2 && setFull st) _ _ ⟨rfl, rfl, rfl, rfl, rfl, rfl, rfl, trivial⟩ ⟨rfl, by show 1 ≤ j + 1; omega, by show j + 1 ≤ r.sets.length; omega, by show (full2 && setFull st) = _; rw [htk, ← Bool.and_assoc, ← hful2]⟩ (by show r.sets.length - (j + 1) < r.sets.length - j; omega)
            · have hje : r.sets.take j = r.sets := List.take_of_length_le (by omega)
              rw [hje] at hful2
              refine G.exit rfl rfl ?_
              refine G.blkEnd ?_
              refine G.reg Tryd.func8 rfl ?_
              refine xq rfl ?_
              refine xp rfl (OpP.add64 rfl rfl ⟨by omega, by omega⟩) ?_
              refine xq rfl ?_
              refine xd [1, 2, 7, 10, 12, 13, 14, 79] rfl ?_
              exact ih (i + 1, full2) _ _ ⟨rfl, rfl, rfl, rfl, rfl, rfl, trivial⟩ ⟨rfl, by show i + 1 ≤ rs.length; omega, by show full2 = (rs.take (i + 1)).all ruleFull; rw [List.take_add_one, hri, List.all_append, hful2]; simp [ruleFull]⟩ (by show rs.length - (i + 1) < rs.length - i; omega)
          · have hie : rs.take i = rs := List.take_of_length_le (by omega)
            rw [hie] at hful
            refine G.exit rfl rfl ?_
            refine xr Tryd.func8 rfl ?_
            refine xq rfl ?_
            refine xo rfl (OpX.call (vs := [_]) Tryd.func29 rfl H.nm29 rfl (CallsH.toX (dmin_calls (htens.ext0 e02) hka hok))) ?_
            rintro q2 h3 ⟨k3, e3⟩
            have hka3 := hka.ext0 e3
            have hrs3 := hrs.mv (Mv.ext0 e3)
            have hfulr : full = true → ∀ r ∈ rs, ruleFull r = true := fun hf r hr => by rw [hf] at hful; exact List.all_eq_true.1 hful.symm r hr
            have hvrs3 : SlR eRu h3 (fun b => b < h0.size) (.slice va vn vc) rs := hrs3
            refine xq rfl ?_
            refine xd [1, 2, 7, 10, 12, 13, 15, 67] rfl ?_
            refine G.seq rfl ?_
            refine xr Tryd.func8 rfl ?_
            refine xq rfl ?_
            refine xd [1, 2, 7, 10, 12, 13, 15, 16, 67] rfl ?_
            refine G.block rfl rfl ?_
            refine G.loop (σ := Int) (fun k => [(1, .string (bs s)), (2, .int .i64 a), (7, .slice va vn vc), (10, .pointer (some ⟨db, 0, none⟩)), (12, .bool full), (15, q2), (16, .int .i64 k)]) (fun k h' => Ext0 h3 h' ∧ -1 ≤ k ∧ k ≤ s.length + 3) (fun k => (s.length + 3 - k).toNat) ((-1)) rfl ⟨rfl, rfl, rfl, rfl, rfl, rfl, rfl, trivial⟩ ⟨Ext.refl _ _, by decide, by omega⟩ ?_
            rintro k g4 ⟨eg, hk1, hk2⟩ ih2
            refine G.seq rfl ?_
            refine xr Tryd.func8 rfl ?_
            iterate 2 refine xq rfl ?_
            refine xp rfl (OpP.lenString Tryd.underlying9 rfl) ?_
            refine xp rfl (OpP.add64 rfl rfl ⟨by omega, by omega⟩) ?_
            refine xq rfl ?_
            refine xd [1, 2, 7, 10, 12, 15, 16, 103] rfl ?_
            refine G.ite rfl rfl (fun hlt => ?_) (fun hlt => ?_)
            · refine G.skip rfl ?_
              refine G.seq rfl ?_
              refine G.block rfl rfl ?_
              refine xr Tryd.func8 rfl ?_
              iterate 2 refine xq rfl ?_
              refine xd [1, 2, 7, 10, 12, 15, 16, 17, 103] rfl ?_
              refine G.seq rfl ?_
              refine xr Tryd.func8 rfl ?_
              iterate 2 refine xq rfl ?_
              refine xp rfl (OpP.lenString Tryd.underlying9 rfl) ?_
              refine xp rfl (OpP.add64 rfl rfl ⟨by omega, by omega⟩) ?_
              refine xq rfl ?_
              refine xd [1, 2, 7, 10, 12, 15, 16, 17, 103, 111] rfl ?_
              have fin : ∀ (i : Int) (h' : Heap) (ρ' : Env), Sub [(1, .string (bs s)), (2, .int .i64 a), (7, .slice va vn vc), (10, .pointer (some ⟨db, 0, none⟩)), (12, .bool full), (15, q2), (16, .int .i64 k), (17, .int .i64 i)] ρ' → h' = g4 → G Tryd.prog 8 Tryd.f8 [.code [1, 1, 0, 0, 1, 0, 0, 1, 0, 1, 1, 1, 1, 1, 1, 1, 1], .blk 5, .code [1, 1, 0, 0, 1, 0, 1, 1, 1, 1, 1, 1, 1, 1], .loop [0, 0, 1, 0, 1, 1, 1, 1, 1, 1, 1, 1], .blk 4, .code [1, 1, 1, 1, 1, 1, 1, 1, 1]] ρ' h' (Ret fun r h' => r = .bool true ∧ Ext0 h0 h') := by
                rintro i g1 ρ' hsub rfl
                refine G.sub (ρ' := [(1, .string (bs s)), (2, .int .i64 a), (7, .slice va vn vc), (10, .pointer (some ⟨db, 0, none⟩)), (12, .bool full), (15, q2), (16, .int .i64 k), (17, .int .i64 i)]) hsub ?_
                refine xr Tryd.func8 rfl ?_
                iterate 3 refine xq rfl ?_
                refine xo rfl (OpX.call (vs := [_, _, _]) Tryd.func20 rfl H.nm20 rfl (CallsH.toX (matchR_calls (hvrs3.mv (Mv.ext0 eg)) hrok hrl (by omega)))) ?_
                rintro _ g5 ⟨rfl, e5⟩
                iterate 7 refine xq rfl ?_
                refine xd [1, 2, 7, 10, 12, 15, 16, 17, 18, 19, 20] rfl ?_
                refine xr Tryd.func8 rfl ?_
                iterate 3 refine xq rfl ?_
                refine xo rfl (OpX.call (vs := [_, _, _]) Tryd.func30 rfl H.nm30 rfl (CallsH.toX (dmatch_calls (s := s) (a := i) ((hka3.ext0 eg).ext0 e5) hok (by omega)))) ?_
                rintro _ g6 ⟨rfl, hg6⟩
                subst hg6
                iterate 7 refine xq rfl ?_
                refine xd [1, 2, 7, 10, 12, 15, 16, 17, 18, 19, 20, 21, 22, 23] rfl ?_
                refine xr Tryd.func8 rfl ?_
                iterate 3 refine xq rfl ?_
                refine xo rfl (OpX.call (vs := [_, _, _]) Tryd.func30 rfl H.nm30 rfl (CallsH.toX (dmatch_calls (s := s) (a := i) ((k3.ext0 eg).ext0 e5) hmok (by omega)))) ?_
                rintro _ g6 ⟨rfl, hg6⟩
                subst hg6
                have htl := table_like hok hmok htrim hd0 hm0 (fun w => (hlike w).symm) s i
                have htm := table_match hdm s i
                rw [hmref s i] at htm
                have hts := fun hf => hsteps (hfulr hf) s i
                generalize dmatchA d s i = m1 at *
                generalize dmatchA (minP d) s i = m2 at *
                generalize refA rs s i = m3 at *
                obtain ⟨a1, b1, c1⟩ := m1
                obtain ⟨a2, b2, c2⟩ := m2
                obtain ⟨a3, b3, c3⟩ := m3
                simp only [Prod.mk.injEq] at htl htm hts
                obtain ⟨rfl, rfl⟩ := htm
                obtain ⟨rfl, rfl, hle⟩ := htl
                iterate 7 refine xq rfl ?_
                refine xd [1, 2, 7, 10, 12, 15, 16, 17, 18, 19, 20, 21, 22, 23, 24, 25, 26] rfl ?_
                refine G.seq rfl ?_
                refine G.regTo1 [(167, .bool false)] [(1, _), (2, _), (7, _), (10, _), (12, _), (15, _), (16, _), (17, _), (18, _), (19, _), (20, _), (21, _), (22, _), (23, _), (24, _), (25, _), (26, _)] ⟨rfl, rfl, rfl, rfl, rfl, rfl, rfl, rfl, rfl, rfl, rfl, rfl, rfl, rfl, rfl, rfl, rfl, trivial⟩ Tryd.func8 rfl ?_ ?_
                · iterate 4 refine xq rfl ?_
                  refine RW.know (d := 140) (b' := false) rfl ((by simp)) ?_
                  iterate 5 refine xq rfl ?_
                  refine RW.know (d := 145) (b' := false) rfl ((by simp)) ?_
                  iterate 5 refine xq rfl ?_
                  refine RW.know (d := 150) (b' := false) rfl ((by simp)) ?_
                  iterate 5 refine xq rfl ?_
                  refine RW.know (d := 155) (b' := false) rfl ((by simp)) ?_
                  iterate 5 refine xq rfl ?_
                  refine RW.know (d := 160) (b' := false) rfl ((by simp; omega)) ?_
                  iterate 2 refine xq rfl ?_
                  refine RW.split (d := 162) rfl (fun hf => ?_) (fun hf => ?_)
                  · iterate 5 refine xq rfl ?_
                    refine RW.done rfl ?_
                    exact ⟨rfl, at_bool rfl (by rw [hts hf]; simp), rfl, rfl, rfl, rfl, rfl, rfl, rfl, rfl, rfl, rfl, rfl, rfl, rfl, rfl, rfl, rfl, rfl, trivial⟩
                  · iterate 3 refine xk rfl ?_
                    iterate 2 refine xq rfl ?_
                    refine RW.done rfl ?_
                    exact ⟨rfl, at_bool rfl (rfl), rfl, rfl, rfl, rfl, rfl, rfl, rfl, rfl, rfl, rfl, rfl, rfl, rfl, rfl, rfl, rfl, rfl, trivial⟩
                · refine G.cond rfl rfl (fun hc => absurd hc (by decide)) (fun _ => ?_)
                  refine G.skip rfl ?_
                  refine G.blkEnd ?_
                  refine G.reg Tryd.func8 rfl ?_
                  refine xq rfl ?_
                  refine xp rfl (OpP.add64 rfl rfl ⟨by omega, by omega⟩) ?_
                  refine xq rfl ?_
                  refine xd [1, 2, 7, 10, 12, 15, 16, 17, 18, 19, 20, 21, 22, 23, 24, 25, 26, 167] rfl ?_
                  exact ih2 (k + 1) _ _ ⟨rfl, rfl, rfl, rfl, rfl, rfl, rfl, trivial⟩ ⟨eg.trans e5, by omega, by omega⟩ (by omega)
              refine G.ite rfl rfl (fun hke => ?_) (fun hke => ?_)
              · refine G.reg Tryd.func8 rfl ?_
                iterate 2 refine xq rfl ?_
                refine xd [1, 2, 7, 10, 12, 15, 16, 17, 103, 111] rfl ?_
                exact fin a _ _ ⟨rfl, rfl, rfl, rfl, rfl, rfl, rfl, rfl, trivial⟩ rfl
              · refine G.skip rfl ?_
                exact fin k _ _ ⟨rfl, rfl, rfl, rfl, rfl, rfl, rfl, rfl, trivial⟩ rfl
            · have e0 := (e02.trans e3).trans eg
              refine G.exit rfl rfl ?_
              refine xr Tryd.func8 rfl ?_
              refine xo rfl (OpX.call (vs := []) Tryd.func27 rfl H.nm27 rfl (CallsH.toX (tabled_calls (hg.ext e0 (fun _ k => k.elim)) e0.size (htens.ext0 e0)))) ?_
              rintro _ h9 ⟨rfl, e9⟩
              refine xq rfl ?_
              refine xd [1, 2, 6, 7, 10, 12, 15, 16, 103] rfl ?_
              refine G.ret Tryd.func8 rfl rfl ?_
              exact ⟨_, rfl, rfl, e0.trans e9⟩
end Go.Proofs.YtlegopbpofofgaaDoor
