/- Plain words, the logic of walks, and walks that the statement's proof leans on (part 15). -/
import Derived.Test.YtlegopbpofofgaaDoorQa
import Derived.Test.YtlegopbpofofgaaDoorQb
import Derived.Test.YtlegopbpofofgaaDoorQc
import Derived.Test.YtlegopbpofofgaaDoorQd
import Derived.Test.YtlegopbpofofgaaDoorQe
import Derived.Test.YtlegopbpofofgaaDoorQf
import Derived.Test.YtlegopbpofofgaaDoorQg
import Derived.Test.YtlegopbpofofgaaDoorQh
import Derived.Test.YtlegopbpofofgaaDoorQi
import Derived.Test.YtlegopbpofofgaaDoorQj
import Derived.Test.YtlegopbpofofgaaDoorQk
import Derived.Test.YtlegopbpofofgaaDoorQl
import Derived.Test.YtlegopbpofofgaaDoorQm
import Derived.Test.YtlegopbpofofgaaDoorQn

/- Match and Least of the reference. -/
namespace Go.Proofs.YtlegopbpofofgaaDoor
open Go Go.Lw
set_option maxRecDepth 20000

def refA (rs : List RuP) (s : By) (a : Int) : Int × Int × Int := if a < 0 ∨ (s.length : Int) < a then (0, -1, 0) else refMatch rs (s.drop a.toNat)
def RsOk (rs : List RuP) : Prop := ∀ r ∈ rs, ∃ n, RuleOk r n ∧ n ≤ 1000000
def refB (r : RuP) (ri : Nat) (now : List Bool) (k : Nat) (b : Int × Int × Int) : Int × Int × Int := if endsR r now = true ∧ (b.2.1 < 0 ∨ b.1 < k) then (k, ri, if b.2.2 < k then (k : Int) else b.2.2) else (b.1, b.2.1, if b.2.2 < k then (k : Int) else b.2.2)

theorem matchR_calls {h : Heap} {v : Value} {O : Nat → Prop} {rs : List RuP} {s : By} {a : Int} (hr : SlR eRu h O v rs) (hok : RsOk rs) (hrl : rs.length ≤ 1000000) (hs : s.length ≤ 1000000) :
    CallsH Tryd.prog 20 #[v, .string (bs s), .int .i64 a] h (Ret fun r h' => r = .tuple #[.int .i64 (refA rs s a).1, .int .i64 (refA rs s a).2.1, .int .i64 (refA rs s a).2.2] ∧ Ext0 h h') := by
  have hbs := bs_size s
  obtain ⟨oa, rn, rc, rfl, hsl⟩ := hr.open
  have hrn := hsl.len
  refine CallsH.of Tryd.func20 rfl rfl ?_
  refine G.seq rfl ?_
  refine G.reg Tryd.func20 rfl ?_
  refine RW.pureS rfl rfl rfl rfl (OpP.assign rfl) ?_
  refine RW.pureS rfl rfl rfl rfl (OpP.assign rfl) ?_
  refine RW.pureS rfl rfl rfl rfl (OpP.assign rfl) ?_
  refine RW.done rfl ?_
  refine G.sub (ρ' := [(0, _), (1, _), (2, _), (6, _), (7, _), (8, _)]) ⟨rfl, rfl, rfl, rfl, rfl, rfl, trivial⟩ ?_
  refine G.seq rfl ?_
  refine G.reg Tryd.func20 rfl ?_
  refine RW.pureS rfl rfl rfl rfl (OpP.assign rfl) ?_
  refine RW.pureS rfl rfl rfl rfl (OpP.assign rfl) ?_
  refine RW.pureS rfl rfl rfl rfl (OpP.assign rfl) ?_
  refine RW.done rfl ?_
  refine G.sub (ρ' := [(0, _), (1, _), (2, _), (6, _), (7, _), (8, _), (9, _), (10, _), (11, _)]) ⟨rfl, rfl, rfl, rfl, rfl, rfl, rfl, rfl, rfl, trivial⟩ ?_
  refine G.seq rfl ?_
  refine G.seq rfl ?_
  refine G.regTo1 [(22, .bool (decide (a < 0 ∨ (s.length : Int) < a)))] [(0, _), (1, _), (2, _), (6, _), (7, _), (8, _), (9, _), (10, _), (11, _)] ⟨rfl, rfl, rfl, rfl, rfl, rfl, rfl, rfl, rfl, trivial⟩ Tryd.func20 rfl ?_ ?_
  · refine RW.pureS rfl rfl rfl rfl (OpP.move rfl) ?_
    refine RW.pureS rfl rfl rfl rfl (OpP.lss rfl rfl) ?_
    refine RW.pureS rfl rfl rfl rfl (OpP.move rfl) ?_
    refine RW.split (d := 17) rfl (fun hg => ?_) (fun hg => ?_)
    · have hg' := of_decide_eq_true hg
      refine RW.skipS rfl rfl rfl rfl ?_
      refine RW.skipS rfl rfl rfl rfl ?_
      refine RW.skipS rfl rfl rfl rfl ?_
      refine RW.skipS rfl rfl rfl rfl ?_
      refine RW.pureS rfl rfl rfl rfl (OpP.pickT rfl rfl) ?_
      refine RW.done rfl ?_
      exact ⟨rfl, at_bool rfl (by simp [hg']), rfl, rfl, rfl, rfl, rfl, rfl, rfl, rfl, rfl, trivial⟩
    · have hg' := of_decide_eq_false hg
      refine RW.pureS rfl rfl rfl rfl (OpP.move rfl) ?_
      refine RW.pureS rfl rfl rfl rfl (OpP.move rfl) ?_
      refine RW.pureS rfl rfl rfl rfl (OpP.lenString Tryd.underlying9 rfl) ?_
      refine RW.pureS rfl rfl rfl rfl (OpP.gtr rfl rfl) ?_
      refine RW.pureS rfl rfl rfl rfl (OpP.pickF rfl rfl) ?_
      refine RW.done rfl ?_
      exact ⟨rfl, at_bool rfl (by simp only [decide_eq_decide]; omega), rfl, rfl, rfl, rfl, rfl, rfl, rfl, rfl, rfl, trivial⟩
  · refine G.ite rfl rfl (fun hz => ?_) (fun hz => ?_)
    · refine G.seq rfl ?_
      refine G.reg Tryd.func20 rfl ?_
      refine RW.pureS rfl rfl rfl rfl (OpP.assign rfl) ?_
      refine RW.pureS rfl rfl rfl rfl (OpP.assign rfl) ?_
      refine RW.pureS rfl rfl rfl rfl (OpP.assign rfl) ?_
      refine RW.done rfl ?_
      refine G.sub (ρ' := [(0, _), (1, _), (2, _), (6, _), (7, _), (8, _), (9, _), (10, _), (11, _), (22, _)]) ⟨rfl, rfl, rfl, rfl, rfl, rfl, rfl, rfl, rfl, rfl, trivial⟩ ?_
      refine G.ret Tryd.func20 rfl rfl ?_
      rw [refA, if_pos hz]
      exact ⟨_, rfl, rfl, Ext.refl _ _⟩
    · obtain ⟨k0, rfl⟩ := Int.eq_ofNat_of_zero_le (show 0 ≤ a by omega)
      have hk : k0 ≤ s.length := by omega
      have hma : refA rs s (k0 : Nat) = refGs 0 rs (s.drop k0) (0, -1, 0) := by rw [refA, if_neg hz]; rfl
      rw [hma]
      generalize htgt : refGs 0 rs (s.drop k0) (0, -1, 0) = tgt
      refine G.skip rfl ?_
      refine G.seq rfl ?_
      refine G.seq rfl ?_
      refine G.reg Tryd.func20 rfl ?_
      refine RW.pureS rfl rfl rfl rfl (OpP.assign rfl) ?_
      refine RW.done rfl ?_
      refine G.sub (ρ' := [(0, _), (1, _), (2, _), (6, _), (7, _), (8, _), (9, _), (10, _), (11, _), (12, _), (22, _)]) ⟨rfl, rfl, rfl, rfl, rfl, rfl, rfl, rfl, rfl, rfl, rfl, trivial⟩ ?_
      refine G.block rfl rfl ?_
      refine G.loop (σ := Nat × Int × Int × Int) (fun q => [(0, .slice oa rn rc), (1, .string (bs s)), (2, .int .i64 (k0 : Nat)), (9, .int .i64 q.2.1), (10, .int .i64 q.2.2.1), (11, .int .i64 q.2.2.2), (12, .int .i64 (q.1 : Nat))]) (fun q h' => Ext0 h h' ∧ q.1 ≤ rn ∧ refGs q.1 (rs.drop q.1) (s.drop k0) q.2 = tgt) (fun q => rn - q.1) ((0, 0, -1, 0)) rfl ⟨rfl, rfl, rfl, rfl, rfl, rfl, rfl, trivial⟩ ⟨Ext.refl _ _, Nat.zero_le _, htgt⟩ ?_
      rintro ⟨i, b⟩ g ⟨eg, hi, hcon⟩ ih
      try dsimp only
      dsimp only at hi hcon
      refine G.seq rfl ?_
      refine G.seq rfl ?_
      refine G.reg Tryd.func20 rfl ?_
      refine RW.pureS rfl rfl rfl rfl (OpP.move rfl) ?_
      refine RW.pureS rfl rfl rfl rfl (OpP.move rfl) ?_
      refine RW.pureS rfl rfl rfl rfl (OpP.lenSlice Tryd.underlying28 rfl) ?_
      refine RW.pureS rfl rfl rfl rfl (OpP.lss rfl rfl) ?_
      refine RW.done rfl ?_
      refine G.sub (ρ' := [(0, _), (1, _), (2, _), (9, _), (10, _), (11, _), (12, _), (26, _)]) ⟨rfl, rfl, rfl, rfl, rfl, rfl, rfl, rfl, trivial⟩ ?_
      refine G.ite rfl rfl (fun hlt => ?_) (fun hlt => ?_)
      · obtain ⟨r, hri⟩ : ∃ r, rs[i]? = some r := ⟨_, List.getElem?_eq_getElem (by omega)⟩
        obtain ⟨n, hrok, hn⟩ := hok r (List.mem_of_getElem? hri)
        have hdr : rs.drop i = r :: rs.drop (i + 1) := by
          obtain ⟨hi', rfl⟩ := List.getElem?_eq_some_iff.1 hri
          exact List.drop_eq_getElem_cons hi'
        rw [hdr, refGs] at hcon
        obtain ⟨b1, o1, cs1, hoa, _, hrow, ⟨rb, rfl, hrd⟩⟩ := (hsl.mv (Mv.ext0 eg)).get i r hri
        refine G.skip rfl ?_
        refine G.seq rfl ?_
        refine G.block rfl rfl ?_
        refine G.seq rfl ?_
        refine G.reg Tryd.func20 rfl ?_
        refine RW.pureS rfl rfl rfl rfl (OpP.move rfl) ?_
        refine RW.pureS rfl rfl rfl rfl (OpP.move rfl) ?_
        refine RW.pureS rfl rfl rfl rfl (OpP.indexSlice Tryd.underlying28 H.sz58 rfl rfl i rfl hoa (by omega)) ?_
        refine RW.pureS rfl rfl rfl rfl (OpP.load H.ag58 rfl (hrow 0 _ rfl)) ?_
        refine RW.opS rfl rfl rfl rfl (OpX.call (vs := [_]) Tryd.func45 rfl H.nm45 rfl (CallsH.toX (startR_calls hrd hrok hn))) ?_
        rintro w1 g1 ⟨ho1, e1⟩
        refine RW.pureS rfl rfl rfl rfl (OpP.assign rfl) ?_
        refine RW.done rfl ?_
        refine G.sub (ρ' := [(0, _), (1, _), (2, _), (9, _), (10, _), (11, _), (12, _), (13, _), (26, _)]) ⟨rfl, rfl, rfl, rfl, rfl, rfl, rfl, rfl, rfl, trivial⟩ ?_
        refine G.seq rfl ?_
        refine G.reg Tryd.func20 rfl ?_
        refine RW.pureS rfl rfl rfl rfl (OpP.move rfl) ?_
        refine RW.pureS rfl rfl rfl rfl (OpP.assign rfl) ?_
        refine RW.done rfl ?_
        refine G.sub (ρ' := [(0, _), (1, _), (2, _), (9, _), (10, _), (11, _), (12, _), (13, _), (14, _), (26, _)]) ⟨rfl, rfl, rfl, rfl, rfl, rfl, rfl, rfl, rfl, rfl, trivial⟩ ?_
        refine G.block rfl rfl ?_
        refine G.loop (σ := Nat × Value × List Bool × Int × Int × Int) (fun q => [(0, .slice oa rn rc), (1, .string (bs s)), (2, .int .i64 (k0 : Nat)), (9, .int .i64 q.2.2.2.1), (10, .int .i64 q.2.2.2.2.1), (11, .int .i64 q.2.2.2.2.2), (12, .int .i64 (i : Nat)), (13, q.2.1), (14, .int .i64 (q.1 : Nat))]) (fun q h' => Ext0 h h' ∧ k0 ≤ q.1 ∧ q.1 ≤ s.length ∧ OwE Value.bool h' h.size 4 q.2.1 q.2.2.1 ∧ q.2.2.1.length = r.sets.length ∧ refGs (i + 1) (rs.drop (i + 1)) (s.drop k0) (refG r i (s.drop q.1) q.2.2.1 (q.1 - k0) q.2.2.2) = tgt) (fun q => s.length - q.1) ((k0, w1, startR r, b)) rfl ⟨rfl, rfl, rfl, rfl, rfl, rfl, rfl, rfl, rfl, trivial⟩ ⟨eg.trans e1, Nat.le_refl _, hk, OwnH.lower ho1 eg.size, startR_len r, by rw [Nat.sub_self]; exact hcon⟩ ?_
        rintro ⟨j, nv, now, b⟩ g2 ⟨eg2, hkj, hj, hnv, hnl, hcon⟩ ih2
        try dsimp only
        dsimp only at hkj hj hnv hnl hcon
        have hzg2 := eg2.size
        have hnr : SlR .bool g2 (fun _ => False) nv now := OwE.read (h1 := fun _ => rfl) hnv (fun _ _ k => k)
        have hrs := hrok.sets
        have hjk : (j : Int) - (k0 : Nat) = ((j - k0 : Nat) : Int) := by omega
        obtain ⟨b1, o1, cs1, hoa, _, hrow, ⟨rb2, rfl, hrd⟩⟩ := (hsl.mv (Mv.ext0 eg2)).get i r hri
        refine G.seq rfl ?_
        refine G.seq rfl ?_
        refine G.reg Tryd.func20 rfl ?_
        refine RW.pureS rfl rfl rfl rfl (OpP.move rfl) ?_
        refine RW.opS rfl rfl rfl rfl (OpX.call (vs := [_]) Tryd.func46 rfl H.nm46 rfl (CallsH.toX (anyR_calls hnr (by omega)))) ?_
        rintro _ g3 ⟨rfl, hg3⟩
        refine RW.done rfl ?_
        refine G.sub (ρ' := [(0, _), (1, _), (2, _), (9, _), (10, _), (11, _), (12, _), (13, _), (14, _), (36, _)]) ⟨rfl, rfl, rfl, rfl, rfl, rfl, rfl, rfl, rfl, rfl, trivial⟩ ?_
        subst hg3
        refine G.cond rfl rfl (fun hany => ?_) (fun hany => ?_)
        · refine G.skip rfl ?_
          refine G.seq rfl ?_
          refine G.block rfl rfl ?_
          refine G.seq rfl ?_
          refine G.reg Tryd.func20 rfl ?_
          refine RW.pureS rfl rfl rfl rfl (OpP.move rfl) ?_
          refine RW.pureS rfl rfl rfl rfl (OpP.move rfl) ?_
          refine RW.pureS rfl rfl rfl rfl (OpP.move rfl) ?_
          refine RW.pureS rfl rfl rfl rfl (OpP.sub64 rfl rfl ⟨by omega, by omega⟩) ?_
          refine RW.pureS rfl rfl rfl rfl (OpP.max2 rfl rfl) ?_
          refine RW.pureS rfl rfl rfl rfl (OpP.assign rfl) ?_
          refine RW.done rfl ?_
          refine G.sub (ρ' := [(0, _), (1, _), (2, _), (9, _), (10, _), (11, _), (12, _), (13, _), (14, _), (36, _)]) ⟨rfl, rfl, rfl, rfl, rfl, rfl, rfl, rfl, rfl, rfl, trivial⟩ ?_
          refine G.seq rfl ?_
          refine G.seq rfl ?_
          refine G.regTo1 [(60, .bool (decide (endsR r now = true ∧ (b.2.1 < 0 ∨ b.1 < ((j - k0 : Nat) : Int)))))] [(0, _), (1, _), (2, _), (9, _), (10, _), (11, _), (12, _), (13, _), (14, _), (36, _)] ⟨rfl, rfl, rfl, rfl, rfl, rfl, rfl, rfl, rfl, rfl, trivial⟩ Tryd.func20 rfl ?_ ?_
          · refine RW.pureS rfl rfl rfl rfl (OpP.move rfl) ?_
            refine RW.pureS rfl rfl rfl rfl (OpP.move rfl) ?_
            refine RW.pureS rfl rfl rfl rfl (OpP.indexSlice Tryd.underlying28 H.sz58 rfl rfl i rfl hoa (by omega)) ?_
            refine RW.pureS rfl rfl rfl rfl (OpP.load H.ag58 rfl (hrow 0 _ rfl)) ?_
            refine RW.pureS rfl rfl rfl rfl (OpP.move rfl) ?_
            refine RW.opS rfl rfl rfl rfl (OpX.call (vs := [_, _]) Tryd.func47 rfl H.nm47 rfl (CallsH.toX (endsR_calls hrd hrok hnr hnl hn))) ?_
            rintro _ g4 ⟨rfl, hg4⟩
            subst hg4
            refine RW.pureS rfl rfl rfl rfl (OpP.move rfl) ?_
            refine RW.split (d := 50) rfl (fun hg => ?_) (fun hg => ?_)
            · refine RW.pureS rfl rfl rfl rfl (OpP.move rfl) ?_
              refine RW.pureS rfl rfl rfl rfl (OpP.lss rfl rfl) ?_
              refine RW.pureS rfl rfl rfl rfl (OpP.move rfl) ?_
              refine RW.split (d := 53) rfl (fun hg2 => ?_) (fun hg2 => ?_)
              · have hg2' := of_decide_eq_true hg2
                refine RW.skipS rfl rfl rfl rfl ?_
                refine RW.skipS rfl rfl rfl rfl ?_
                refine RW.skipS rfl rfl rfl rfl ?_
                refine RW.skipS rfl rfl rfl rfl ?_
                refine RW.skipS rfl rfl rfl rfl ?_
                refine RW.pureS rfl rfl rfl rfl (OpP.pickT rfl rfl) ?_
                refine RW.pureS rfl rfl rfl rfl (OpP.pickT rfl rfl) ?_
                refine RW.done rfl ?_
                exact ⟨rfl, at_bool rfl (by simp [hg, hg2']), rfl, rfl, rfl, rfl, rfl, rfl, rfl, rfl, rfl, rfl, trivial⟩
              · have hg2' := of_decide_eq_false hg2
                refine RW.pureS rfl rfl rfl rfl (OpP.move rfl) ?_
                refine RW.pureS rfl rfl rfl rfl (OpP.move rfl) ?_
                refine RW.pureS rfl rfl rfl rfl (OpP.sub64 rfl rfl ⟨by omega, by omega⟩) ?_
                refine RW.pureS rfl rfl rfl rfl (OpP.move rfl) ?_
                refine RW.pureS rfl rfl rfl rfl (OpP.gtr rfl rfl) ?_
                refine RW.pureS rfl rfl rfl rfl (OpP.pickF rfl rfl) ?_
                refine RW.pureS rfl rfl rfl rfl (OpP.pickT rfl rfl) ?_
                refine RW.done rfl ?_
                exact ⟨rfl, at_bool rfl (by simp only [hg, true_and, decide_eq_decide]; omega), rfl, rfl, rfl, rfl, rfl, rfl, rfl, rfl, rfl, rfl, trivial⟩
            · refine RW.skipS rfl rfl rfl rfl ?_
              refine RW.skipS rfl rfl rfl rfl ?_
              refine RW.skipS rfl rfl rfl rfl ?_
              refine RW.skipS rfl rfl rfl rfl ?_
              refine RW.skipS rfl rfl rfl rfl ?_
              refine RW.skipS rfl rfl rfl rfl ?_
              refine RW.skipS rfl rfl rfl rfl ?_
              refine RW.skipS rfl rfl rfl rfl ?_
              refine RW.skipS rfl rfl rfl rfl ?_
              refine RW.pureS rfl rfl rfl rfl (OpP.pickF rfl rfl) ?_
              refine RW.done rfl ?_
              exact ⟨rfl, at_bool rfl (by simp [hg]), rfl, rfl, rfl, rfl, rfl, rfl, rfl, rfl, rfl, rfl, trivial⟩
          · generalize hb' : refB r i now (j - k0) b = b' at *
            have fin : ∀ (_u : Unit) (h' : Heap) (ρ' : Env), Sub [(0, .slice oa rn rc), (1, .string (bs s)), (2, .int .i64 (k0 : Nat)), (9, .int .i64 b'.1), (10, .int .i64 b'.2.1), (11, .int .i64 b'.2.2), (12, .int .i64 (i : Nat)), (13, nv), (14, .int .i64 (j : Nat))] ρ' → h' = g3 → G Tryd.prog 20 Tryd.f20 [.code [1, 1, 0, 0, 1, 0, 0, 1, 1, 0, 0, 1, 0, 0, 1, 0, 1, 1, 1], .blk 3, .code [1, 1, 0, 0, 1, 1, 0, 0, 1, 0, 0, 1, 0, 1, 1, 1], .loop [0, 0, 1, 1, 0, 0, 1, 0, 0, 1, 0, 1, 1, 1], .blk 2, .blk 1, .code [1, 1, 0, 0, 1, 0, 1, 1, 1], .loop [0, 0, 1, 0, 1, 1, 1], .blk 0, .code [1, 1, 1, 1]] ρ' h' (Ret fun r h' => r = .tuple #[.int .i64 tgt.1, .int .i64 tgt.2.1, .int .i64 tgt.2.2] ∧ Ext0 h h') := by
              rintro _u g4 ρ' hsub rfl
              refine G.sub (ρ' := [(0, .slice oa rn rc), (1, .string (bs s)), (2, .int .i64 (k0 : Nat)), (9, .int .i64 b'.1), (10, .int .i64 b'.2.1), (11, .int .i64 b'.2.2), (12, .int .i64 (i : Nat)), (13, nv), (14, .int .i64 (j : Nat))]) hsub ?_
              refine G.seq rfl ?_
              refine G.seq rfl ?_
              refine G.reg Tryd.func20 rfl ?_
              refine RW.pureS rfl rfl rfl rfl (OpP.move rfl) ?_
              refine RW.pureS rfl rfl rfl rfl (OpP.move rfl) ?_
              refine RW.pureS rfl rfl rfl rfl (OpP.lenString Tryd.underlying9 rfl) ?_
              refine RW.pureS rfl rfl rfl rfl (OpP.eqlInt rfl rfl) ?_
              refine RW.done rfl ?_
              refine G.sub (ρ' := [(0, _), (1, _), (2, _), (9, _), (10, _), (11, _), (12, _), (13, _), (14, _), (68, _)]) ⟨rfl, rfl, rfl, rfl, rfl, rfl, rfl, rfl, rfl, rfl, trivial⟩ ?_
              refine G.ite rfl rfl (fun hend => ?_) (fun hend => ?_)
              · have hje : j = s.length := by omega
                have hd : s.drop j = [] := List.drop_of_length_le (by omega)
                rw [hd, refG, if_neg (by rw [hany]; decide)] at hcon
                have hcon : refGs (i + 1) (rs.drop (i + 1)) (s.drop k0) b' = tgt := by rw [← hb', ← hcon]; rfl
                refine G.exit rfl rfl ?_
                refine G.blkEnd ?_
                refine G.reg Tryd.func20 rfl ?_
                refine RW.pureS rfl rfl rfl rfl (OpP.move rfl) ?_
                refine RW.pureS rfl rfl rfl rfl (OpP.add64 rfl rfl ⟨by omega, by omega⟩) ?_
                refine RW.pureS rfl rfl rfl rfl (OpP.assign rfl) ?_
                refine RW.done rfl ?_
                refine G.sub (ρ' := [(0, _), (1, _), (2, _), (9, _), (10, _), (11, _), (12, _), (13, _), (14, _), (68, _)]) ⟨rfl, rfl, rfl, rfl, rfl, rfl, rfl, rfl, rfl, rfl, trivial⟩ ?_
                exact ih (i + 1, b') _ _ ⟨rfl, rfl, rfl, rfl, rfl, rfl, rfl, trivial⟩ ⟨eg2, by show i + 1 ≤ rn; omega, hcon⟩ (by show rn - (i + 1) < rn - i; omega)
              · have hje : j < s.length := by omega
                have hd : s.drop j = s[j] :: s.drop (j + 1) := List.drop_eq_getElem_cons hje
                rw [hd, refG, if_neg (by rw [hany]; decide)] at hcon
                have hcon : refGs (i + 1) (rs.drop (i + 1)) (s.drop k0) (refG r i (s.drop (j + 1)) (stepR r now s[j]) (j - k0 + 1) b') = tgt := by rw [← hb', ← hcon]; rfl
                refine G.skip rfl ?_
                refine G.draw (fun b => Array.size g4 ≤ b) (fun i => Nat.blt i 10) (sz := 10) (listed := #[false, false, false, false, false, false, false, false, false, false]) Tryd.func20 H.mixed rfl rfl rfl ?_
                refine RD.takeS 0 (listed' := #[true, false, false, false, false, false, false, false, false, false]) rfl (by kernel_rfl) (by kernel_rfl) (by kernel_rfl) rfl rfl rfl (fun h' e => OpP.move rfl) rfl ?_
                refine RD.takeS 1 (listed' := #[true, true, false, false, false, false, false, false, false, false]) rfl (by kernel_rfl) (by kernel_rfl) (by kernel_rfl) rfl rfl rfl (fun h' e => OpP.move rfl) rfl ?_
                refine RD.takeS 2 (listed' := #[true, true, true, false, false, false, false, false, false, false]) rfl (by kernel_rfl) (by kernel_rfl) (by kernel_rfl) rfl rfl rfl (fun h' e => OpP.indexSlice Tryd.underlying28 H.sz58 rfl rfl i rfl hoa (by omega)) rfl ?_
                refine RD.takeS 3 (listed' := #[true, true, true, true, false, false, false, false, false, false]) rfl (by kernel_rfl) (by kernel_rfl) (by kernel_rfl) rfl rfl rfl (fun h' e => OpP.load H.ag58 rfl (e.old (hrow 0 _ rfl))) rfl ?_
                refine RD.takeS 4 (listed' := #[true, true, true, true, true, false, false, false, false, false]) rfl (by kernel_rfl) (by kernel_rfl) (by kernel_rfl) rfl rfl rfl (fun h' e => OpP.move rfl) rfl ?_
                refine RD.takeS 5 (listed' := #[true, true, true, true, true, true, false, false, false, false]) rfl (by kernel_rfl) (by kernel_rfl) (by kernel_rfl) rfl rfl rfl (fun h' e => OpP.move rfl) rfl ?_
                refine RD.takeS 6 (listed' := #[true, true, true, true, true, true, true, false, false, false]) rfl (by kernel_rfl) (by kernel_rfl) (by kernel_rfl) rfl rfl rfl (fun h' e => OpP.move rfl) rfl ?_
                refine RD.takeS 7 (listed' := #[true, true, true, true, true, true, true, true, false, false]) rfl (by kernel_rfl) (by kernel_rfl) (by kernel_rfl) rfl rfl rfl (fun h' e => OpP.indexStr Tryd.underlying9 rfl rfl j rfl (bs_at (List.getElem?_eq_getElem hje))) rfl ?_
                refine RD.oneS 8 (listed' := #[true, true, true, true, true, true, true, true, true, false]) rfl (by kernel_rfl) rfl rfl rfl (OpX.call (vs := [_, _, _]) Tryd.func48 rfl H.nm48 rfl (CallsH.toX (stepR_calls s[j] hrd hrok hnr hnl hn))) rfl ?_
                rintro w5 g5 ⟨ho5, e5⟩
                refine ⟨fun _ => e5.mono (fun _ _ k => k.elim), ?_⟩
                refine RD.takeS 9 (listed' := #[true, true, true, true, true, true, true, true, true, true]) rfl (by kernel_rfl) (by kernel_rfl) (by kernel_rfl) rfl rfl rfl (fun h' e => OpP.assign rfl) rfl ?_
                refine RD.done (by kernel_rfl) ?_
                refine G.sub (ρ' := [(0, _), (1, _), (2, _), (9, _), (10, _), (11, _), (12, _), (13, _), (14, _), (68, _)]) ⟨rfl, rfl, rfl, rfl, rfl, rfl, rfl, rfl, rfl, rfl, trivial⟩ ?_
                refine G.blkEnd ?_
                refine G.reg Tryd.func20 rfl ?_
                refine RW.pureS rfl rfl rfl rfl (OpP.move rfl) ?_
                refine RW.pureS rfl rfl rfl rfl (OpP.add64 rfl rfl ⟨by omega, by omega⟩) ?_
                refine RW.pureS rfl rfl rfl rfl (OpP.assign rfl) ?_
                refine RW.done rfl ?_
                refine G.sub (ρ' := [(0, _), (1, _), (2, _), (9, _), (10, _), (11, _), (12, _), (13, _), (14, _), (68, _)]) ⟨rfl, rfl, rfl, rfl, rfl, rfl, rfl, rfl, rfl, rfl, trivial⟩ ?_
                exact ih2 (j + 1, w5, stepR r now s[j], b') _ _ ⟨rfl, rfl, rfl, rfl, rfl, rfl, rfl, rfl, rfl, trivial⟩ ⟨eg2.trans e5, by show k0 ≤ j + 1; omega, hje, OwnH.lower ho5 (by omega), stepR_len hrok hnl _, by show refGs _ _ _ (refG r i _ _ (j + 1 - k0) b') = tgt; rw [show j + 1 - k0 = j - k0 + 1 by omega]; exact hcon⟩ (by show s.length - (j + 1) < s.length - j; omega)
            refine G.ite rfl rfl (fun hbest => ?_) (fun hbest => ?_)
            · have hb1 : b' = (((j - k0 : Nat) : Int), (i : Int), if b.2.2 < ((j - k0 : Nat) : Int) then ((j - k0 : Nat) : Int) else b.2.2) := by rw [← hb', refB, if_pos hbest]
              subst hb1
              refine G.reg Tryd.func20 rfl ?_
              refine RW.pureS rfl rfl rfl rfl (OpP.move rfl) ?_
              refine RW.pureS rfl rfl rfl rfl (OpP.move rfl) ?_
              refine RW.pureS rfl rfl rfl rfl (OpP.sub64 rfl rfl ⟨by omega, by omega⟩) ?_
              refine RW.pureS rfl rfl rfl rfl (OpP.move rfl) ?_
              refine RW.pureS rfl rfl rfl rfl (OpP.assign rfl) ?_
              refine RW.pureS rfl rfl rfl rfl (OpP.assign rfl) ?_
              refine RW.done rfl ?_
              refine G.sub (ρ' := [(0, _), (1, _), (2, _), (9, _), (10, _), (11, _), (12, _), (13, _), (14, _), (36, _), (60, _)]) ⟨rfl, rfl, rfl, rfl, rfl, rfl, rfl, rfl, rfl, rfl, rfl, trivial⟩ ?_
              exact fin () _ _ ⟨rfl, rfl, rfl, by show some (Value.int _ _) = _; rw [← hjk], rfl, by rw [← hjk]; rfl, rfl, rfl, rfl, trivial⟩ rfl
            · have hb1 : b' = (b.1, b.2.1, if b.2.2 < ((j - k0 : Nat) : Int) then ((j - k0 : Nat) : Int) else b.2.2) := by rw [← hb', refB, if_neg hbest]
              subst hb1
              refine G.skip rfl ?_
              exact fin () _ _ ⟨rfl, rfl, rfl, rfl, rfl, by rw [← hjk]; rfl, rfl, rfl, rfl, trivial⟩ rfl
        · rw [refG_none (by simpa using hany)] at hcon
          refine G.exit rfl rfl ?_
          refine G.blkEnd ?_
          refine G.reg Tryd.func20 rfl ?_
          refine RW.pureS rfl rfl rfl rfl (OpP.move rfl) ?_
          refine RW.pureS rfl rfl rfl rfl (OpP.add64 rfl rfl ⟨by omega, by omega⟩) ?_
          refine RW.pureS rfl rfl rfl rfl (OpP.assign rfl) ?_
          refine RW.done rfl ?_
          refine G.sub (ρ' := [(0, _), (1, _), (2, _), (9, _), (10, _), (11, _), (12, _), (13, _), (14, _), (36, _)]) ⟨rfl, rfl, rfl, rfl, rfl, rfl, rfl, rfl, rfl, rfl, trivial⟩ ?_
          exact ih (i + 1, b) _ _ ⟨rfl, rfl, rfl, rfl, rfl, rfl, rfl, trivial⟩ ⟨eg2, by show i + 1 ≤ rn; omega, hcon⟩ (by show rn - (i + 1) < rn - i; omega)
      · have hd : rs.drop i = [] := List.drop_of_length_le (by omega)
        rw [hd, refGs] at hcon
        refine G.exit rfl rfl ?_
        refine G.seq rfl ?_
        refine G.reg Tryd.func20 rfl ?_
        refine RW.pureS rfl rfl rfl rfl (OpP.move rfl) ?_
        refine RW.pureS rfl rfl rfl rfl (OpP.move rfl) ?_
        refine RW.pureS rfl rfl rfl rfl (OpP.move rfl) ?_
        refine RW.pureS rfl rfl rfl rfl (OpP.assign rfl) ?_
        refine RW.pureS rfl rfl rfl rfl (OpP.assign rfl) ?_
        refine RW.pureS rfl rfl rfl rfl (OpP.assign rfl) ?_
        refine RW.done rfl ?_
        refine G.sub (ρ' := [(0, _), (1, _), (2, _), (6, _), (7, _), (8, _), (9, _), (10, _), (11, _), (12, _), (26, _)]) ⟨rfl, rfl, rfl, rfl, rfl, rfl, rfl, rfl, rfl, rfl, rfl, trivial⟩ ?_
        refine G.ret Tryd.func20 rfl rfl ?_
        exact ⟨_, rfl, by rw [← hcon]; rfl, eg⟩

theorem leastR_calls {h : Heap} {v : Value} {O : Nat → Prop} {rs : List RuP} {s : By} (hr : SlR eRu h O v rs) (hok : RsOk rs) (hrl : rs.length ≤ 1000000) (hs : s.length ≤ 1000000) :
    CallsH Tryd.prog 23 #[v, .string (bs s)] h (Ret fun r h' => r = .int .i64 (refLeast 0 rs s) ∧ Ext0 h h') := by
  have hbs := bs_size s
  obtain ⟨oa, rn, rc, rfl, hsl⟩ := hr.open
  have hrn := hsl.len
  generalize htgt : refLeast 0 rs s = tgt
  refine CallsH.of Tryd.func23 rfl rfl ?_
  refine G.seq rfl ?_
  refine G.reg Tryd.func23 rfl ?_
  refine RW.pureS rfl rfl rfl rfl (OpP.assign rfl) ?_
  refine RW.done rfl ?_
  refine G.sub (ρ' := [(0, _), (1, _), (4, _)]) ⟨rfl, rfl, rfl, trivial⟩ ?_
  refine G.seq rfl ?_
  refine G.seq rfl ?_
  refine G.reg Tryd.func23 rfl ?_
  refine RW.pureS rfl rfl rfl rfl (OpP.assign rfl) ?_
  refine RW.done rfl ?_
  refine G.sub (ρ' := [(0, _), (1, _), (4, _), (5, _)]) ⟨rfl, rfl, rfl, rfl, trivial⟩ ?_
  refine G.block rfl rfl ?_
  refine G.loop (σ := Nat) (fun i => [(0, .slice oa rn rc), (1, .string (bs s)), (5, .int .i64 (i : Nat))]) (fun i h' => Ext0 h h' ∧ i ≤ rn ∧ refLeast i (rs.drop i) s = tgt) (fun i => rn - i) (0) rfl ⟨rfl, rfl, rfl, trivial⟩ ⟨Ext.refl _ _, Nat.zero_le _, htgt⟩ ?_
  rintro i g ⟨eg, hi, hcon⟩ ih
  refine G.seq rfl ?_
  refine G.seq rfl ?_
  refine G.reg Tryd.func23 rfl ?_
  refine RW.pureS rfl rfl rfl rfl (OpP.move rfl) ?_
  refine RW.pureS rfl rfl rfl rfl (OpP.move rfl) ?_
  refine RW.pureS rfl rfl rfl rfl (OpP.lenSlice Tryd.underlying28 rfl) ?_
  refine RW.pureS rfl rfl rfl rfl (OpP.lss rfl rfl) ?_
  refine RW.done rfl ?_
  refine G.sub (ρ' := [(0, _), (1, _), (5, _), (11, _)]) ⟨rfl, rfl, rfl, rfl, trivial⟩ ?_
  refine G.ite rfl rfl (fun hlt => ?_) (fun hlt => ?_)
  · obtain ⟨r, hri⟩ : ∃ r, rs[i]? = some r := ⟨_, List.getElem?_eq_getElem (by omega)⟩
    obtain ⟨n, hrok, hn⟩ := hok r (List.mem_of_getElem? hri)
    have hdr : rs.drop i = r :: rs.drop (i + 1) := by
      obtain ⟨hi', rfl⟩ := List.getElem?_eq_some_iff.1 hri
      exact List.drop_eq_getElem_cons hi'
    rw [hdr, refLeast] at hcon
    have hrs := hrok.sets
    obtain ⟨b1, o1, cs1, hoa, _, hrow, ⟨rb, rfl, hrd⟩⟩ := (hsl.mv (Mv.ext0 eg)).get i r hri
    refine G.skip rfl ?_
    refine G.seq rfl ?_
    refine G.block rfl rfl ?_
    refine G.seq rfl ?_
    refine G.reg Tryd.func23 rfl ?_
    refine RW.pureS rfl rfl rfl rfl (OpP.move rfl) ?_
    refine RW.pureS rfl rfl rfl rfl (OpP.move rfl) ?_
    refine RW.pureS rfl rfl rfl rfl (OpP.indexSlice Tryd.underlying28 H.sz58 rfl rfl i rfl hoa (by omega)) ?_
    refine RW.pureS rfl rfl rfl rfl (OpP.load H.ag58 rfl (hrow 0 _ rfl)) ?_
    refine RW.opS rfl rfl rfl rfl (OpX.call (vs := [_]) Tryd.func45 rfl H.nm45 rfl (CallsH.toX (startR_calls hrd hrok hn))) ?_
    rintro w1 g1 ⟨ho1, e1⟩
    refine RW.pureS rfl rfl rfl rfl (OpP.assign rfl) ?_
    refine RW.done rfl ?_
    refine G.sub (ρ' := [(0, _), (1, _), (5, _), (6, _), (11, _)]) ⟨rfl, rfl, rfl, rfl, rfl, trivial⟩ ?_
    refine G.seq rfl ?_
    refine G.seq rfl ?_
    refine G.reg Tryd.func23 rfl ?_
    refine RW.pureS rfl rfl rfl rfl (OpP.assign rfl) ?_
    refine RW.done rfl ?_
    refine G.sub (ρ' := [(0, _), (1, _), (5, _), (6, _), (7, _), (11, _)]) ⟨rfl, rfl, rfl, rfl, rfl, rfl, trivial⟩ ?_
    refine G.block rfl rfl ?_
    refine G.loop (σ := Nat × Value × List Bool) (fun q => [(0, .slice oa rn rc), (1, .string (bs s)), (5, .int .i64 (i : Nat)), (6, q.2.1), (7, .int .i64 (q.1 : Nat))]) (fun q h' => Ext0 h h' ∧ q.1 ≤ s.length ∧ OwE Value.bool h' h.size 4 q.2.1 q.2.2 ∧ q.2.2.length = r.sets.length ∧ (s.drop q.1).foldl (stepR r) q.2.2 = runR r s) (fun q => s.length - q.1) ((0, w1, startR r)) rfl ⟨rfl, rfl, rfl, rfl, rfl, trivial⟩ ⟨eg.trans e1, Nat.zero_le _, OwnH.lower ho1 eg.size, startR_len r, rfl⟩ ?_
    rintro ⟨j, nv, now⟩ g2 ⟨eg2, hj, hnv, hnl, hrun⟩ ih2
    try dsimp only
    dsimp only at hj hnv hnl hrun
    have hzg2 := eg2.size
    have hnr : SlR .bool g2 (fun _ => False) nv now := OwE.read (h1 := fun _ => rfl) hnv (fun _ _ k => k)
    obtain ⟨b1, o1, cs1, hoa, _, hrow, ⟨rb2, rfl, hrd⟩⟩ := (hsl.mv (Mv.ext0 eg2)).get i r hri
    refine G.seq rfl ?_
    refine G.seq rfl ?_
    refine G.reg Tryd.func23 rfl ?_
    refine RW.pureS rfl rfl rfl rfl (OpP.move rfl) ?_
    refine RW.pureS rfl rfl rfl rfl (OpP.move rfl) ?_
    refine RW.pureS rfl rfl rfl rfl (OpP.lenString Tryd.underlying9 rfl) ?_
    refine RW.pureS rfl rfl rfl rfl (OpP.lss rfl rfl) ?_
    refine RW.done rfl ?_
    refine G.sub (ρ' := [(0, _), (1, _), (5, _), (6, _), (7, _), (22, _)]) ⟨rfl, rfl, rfl, rfl, rfl, rfl, trivial⟩ ?_
    refine G.ite rfl rfl (fun hlt2 => ?_) (fun hlt2 => ?_)
    · have hje : j < s.length := by omega
      have hd : s.drop j = s[j] :: s.drop (j + 1) := List.drop_eq_getElem_cons hje
      rw [hd, List.foldl_cons] at hrun
      refine G.skip rfl ?_
      refine G.seq rfl ?_
      refine G.block rfl rfl ?_
      refine G.draw (fun b => Array.size g2 ≤ b) (fun i => Nat.blt i 10) (sz := 10) (listed := #[false, false, false, false, false, false, false, false, false, false]) Tryd.func23 H.mixed rfl rfl rfl ?_
      refine RD.takeS 0 (listed' := #[true, false, false, false, false, false, false, false, false, false]) rfl (by kernel_rfl) (by kernel_rfl) (by kernel_rfl) rfl rfl rfl (fun h' e => OpP.move rfl) rfl ?_
      refine RD.takeS 1 (listed' := #[true, true, false, false, false, false, false, false, false, false]) rfl (by kernel_rfl) (by kernel_rfl) (by kernel_rfl) rfl rfl rfl (fun h' e => OpP.move rfl) rfl ?_
      refine RD.takeS 2 (listed' := #[true, true, true, false, false, false, false, false, false, false]) rfl (by kernel_rfl) (by kernel_rfl) (by kernel_rfl) rfl rfl rfl (fun h' e => OpP.indexSlice Tryd.underlying28 H.sz58 rfl rfl i rfl hoa (by omega)) rfl ?_
      refine RD.takeS 3 (listed' := #[true, true, true, true, false, false, false, false, false, false]) rfl (by kernel_rfl) (by kernel_rfl) (by kernel_rfl) rfl rfl rfl (fun h' e => OpP.load H.ag58 rfl (e.old (hrow 0 _ rfl))) rfl ?_
      refine RD.takeS 4 (listed' := #[true, true, true, true, true, false, false, false, false, false]) rfl (by kernel_rfl) (by kernel_rfl) (by kernel_rfl) rfl rfl rfl (fun h' e => OpP.move rfl) rfl ?_
      refine RD.takeS 5 (listed' := #[true, true, true, true, true, true, false, false, false, false]) rfl (by kernel_rfl) (by kernel_rfl) (by kernel_rfl) rfl rfl rfl (fun h' e => OpP.move rfl) rfl ?_
      refine RD.takeS 6 (listed' := #[true, true, true, true, true, true, true, false, false, false]) rfl (by kernel_rfl) (by kernel_rfl) (by kernel_rfl) rfl rfl rfl (fun h' e => OpP.move rfl) rfl ?_
      refine RD.takeS 7 (listed' := #[true, true, true, true, true, true, true, true, false, false]) rfl (by kernel_rfl) (by kernel_rfl) (by kernel_rfl) rfl rfl rfl (fun h' e => OpP.indexStr Tryd.underlying9 rfl rfl j rfl (bs_at (List.getElem?_eq_getElem hje))) rfl ?_
      refine RD.oneS 8 (listed' := #[true, true, true, true, true, true, true, true, true, false]) rfl (by kernel_rfl) rfl rfl rfl (OpX.call (vs := [_, _, _]) Tryd.func48 rfl H.nm48 rfl (CallsH.toX (stepR_calls s[j] hrd hrok hnr hnl hn))) rfl ?_
      rintro w5 g5 ⟨ho5, e5⟩
      refine ⟨fun _ => e5.mono (fun _ _ k => k.elim), ?_⟩
      refine RD.takeS 9 (listed' := #[true, true, true, true, true, true, true, true, true, true]) rfl (by kernel_rfl) (by kernel_rfl) (by kernel_rfl) rfl rfl rfl (fun h' e => OpP.assign rfl) rfl ?_
      refine RD.done (by kernel_rfl) ?_
      refine G.sub (ρ' := [(0, _), (1, _), (5, _), (6, _), (7, _), (22, _)]) ⟨rfl, rfl, rfl, rfl, rfl, rfl, trivial⟩ ?_
      refine G.blkEnd ?_
      refine G.reg Tryd.func23 rfl ?_
      refine RW.pureS rfl rfl rfl rfl (OpP.move rfl) ?_
      refine RW.pureS rfl rfl rfl rfl (OpP.add64 rfl rfl ⟨by omega, by omega⟩) ?_
      refine RW.pureS rfl rfl rfl rfl (OpP.assign rfl) ?_
      refine RW.done rfl ?_
      refine G.sub (ρ' := [(0, _), (1, _), (5, _), (6, _), (7, _), (22, _)]) ⟨rfl, rfl, rfl, rfl, rfl, rfl, trivial⟩ ?_
      exact ih2 (j + 1, w5, stepR r now s[j]) _ _ ⟨rfl, rfl, rfl, rfl, rfl, trivial⟩ ⟨eg2.trans e5, hje, OwnH.lower ho5 (by omega), stepR_len hrok hnl _, hrun⟩ (by show s.length - (j + 1) < s.length - j; omega)
    · have hd : s.drop j = [] := List.drop_of_length_le (by omega)
      rw [hd, List.foldl_nil] at hrun
      subst hrun
      refine G.exit rfl rfl ?_
      refine G.seq rfl ?_
      refine G.reg Tryd.func23 rfl ?_
      refine RW.pureS rfl rfl rfl rfl (OpP.move rfl) ?_
      refine RW.pureS rfl rfl rfl rfl (OpP.move rfl) ?_
      refine RW.pureS rfl rfl rfl rfl (OpP.indexSlice Tryd.underlying28 H.sz58 rfl rfl i rfl hoa (by omega)) ?_
      refine RW.pureS rfl rfl rfl rfl (OpP.load H.ag58 rfl (hrow 0 _ rfl)) ?_
      refine RW.pureS rfl rfl rfl rfl (OpP.move rfl) ?_
      refine RW.opS rfl rfl rfl rfl (OpX.call (vs := [_, _]) Tryd.func47 rfl H.nm47 rfl (CallsH.toX (endsR_calls hrd hrok hnr hnl hn))) ?_
      rintro _ g4 ⟨rfl, hg4⟩
      refine RW.done rfl ?_
      refine G.sub (ρ' := [(0, _), (1, _), (5, _), (6, _), (7, _), (22, _), (39, _)]) ⟨rfl, rfl, rfl, rfl, rfl, rfl, rfl, trivial⟩ ?_
      subst hg4
      refine G.cond rfl rfl (fun hb => ?_) (fun hb => ?_)
      · rw [if_pos hb] at hcon
        subst hcon
        refine G.seq rfl ?_
        refine G.reg Tryd.func23 rfl ?_
        refine RW.pureS rfl rfl rfl rfl (OpP.move rfl) ?_
        refine RW.pureS rfl rfl rfl rfl (OpP.assign rfl) ?_
        refine RW.done rfl ?_
        refine G.sub (ρ' := [(0, _), (1, _), (4, _), (5, _), (6, _), (7, _), (22, _), (39, _)]) ⟨rfl, rfl, rfl, rfl, rfl, rfl, rfl, rfl, trivial⟩ ?_
        refine G.ret Tryd.func23 rfl rfl ?_
        exact ⟨_, rfl, rfl, eg2⟩
      · rw [if_neg (by rw [hb]; decide)] at hcon
        refine G.skip rfl ?_
        refine G.blkEnd ?_
        refine G.reg Tryd.func23 rfl ?_
        refine RW.pureS rfl rfl rfl rfl (OpP.move rfl) ?_
        refine RW.pureS rfl rfl rfl rfl (OpP.add64 rfl rfl ⟨by omega, by omega⟩) ?_
        refine RW.pureS rfl rfl rfl rfl (OpP.assign rfl) ?_
        refine RW.done rfl ?_
        refine G.sub (ρ' := [(0, _), (1, _), (5, _), (6, _), (7, _), (22, _), (39, _)]) ⟨rfl, rfl, rfl, rfl, rfl, rfl, rfl, trivial⟩ ?_
        exact ih (i + 1) _ _ ⟨rfl, rfl, rfl, trivial⟩ ⟨eg2, by omega, hcon⟩ (by omega)
  · have hd : rs.drop i = [] := List.drop_of_length_le (by omega)
    rw [hd, refLeast] at hcon
    subst hcon
    refine G.exit rfl rfl ?_
    refine G.seq rfl ?_
    refine G.reg Tryd.func23 rfl ?_
    refine RW.pureS rfl rfl rfl rfl (OpP.assign rfl) ?_
    refine RW.done rfl ?_
    refine G.sub (ρ' := [(0, _), (1, _), (4, _), (5, _), (11, _)]) ⟨rfl, rfl, rfl, rfl, rfl, trivial⟩ ?_
    refine G.ret Tryd.func23 rfl rfl ?_
    exact ⟨_, rfl, rfl, eg⟩

end Go.Proofs.YtlegopbpofofgaaDoor

/- The statements' helpers: what an NFA takes; the chapter's rules. -/
namespace Go.Proofs.YtlegopbpofofgaaDoor
open Go Go.Lw
set_option maxRecDepth 20000

/-- An NFA of rules. -/
def MadeAt (h : Heap) (p : Value) (rules : List By) : Prop := ∃ (O : Nat → Prop) (nb : Nat) (v : Value) (ss : List Ste) (st : Nat), p = .pointer (some ⟨nb, 0, none⟩) ∧ NfaAt h O nb v ss st ∧ makeP rules = .inr (ss, st)
theorem MadeAt.ext0 {h h' : Heap} {p : Value} {rules : List By} (k : MadeAt h p rules) (e : Ext0 h h') : MadeAt h' p rules := by
  obtain ⟨O, nb, v, ss, st, hp, hn, hm⟩ := k
  exact ⟨O, nb, v, ss, st, hp, hn.ext0 e (fun _ _ k => k), hm⟩

def makeE (rules : List By) : Int := match makeP rules with | .inl e => e | .inr _ => 0
def matchM (rules : List By) (s : By) (a : Int) : Int × Int := match makeP rules with | .inl _ => (0, -1) | .inr (ss, st) => matchA ss st s a

theorem make_made {h : Heap} {lim : Nat} (hg : Sg h lim) (hlim : lim ≤ h.size) {rv : Value} {rules : List By} (hr : SlR eBy h (fun _ => False) rv rules) (hrl : ∀ s ∈ rules, s.length ≤ 1000000) :
    CallsH Tryd.prog 16 #[rv] h (Ret fun r h' => (∃ p, r = .tuple #[p, .int .i64 (makeE rules)] ∧ ((∃ e, makeP rules = .inl e ∧ p = .pointer none) ∨ MadeAt h' p rules)) ∧ Ext0 h h') :=
  (make_calls hg hlim hr hrl).ret fun r h' k => by
    obtain ⟨k1, k2⟩ := k
    refine ⟨?_, k2⟩
    unfold MakeV at k1
    unfold makeE
    cases hm : makeP rules with
    | inl e => rw [hm] at k1; exact ⟨_, k1, .inl ⟨e, rfl, rfl⟩⟩
    | inr q =>
      obtain ⟨ss, st⟩ := q
      rw [hm] at k1
      obtain ⟨nb, v, h1, _, h3⟩ := k1
      exact ⟨_, h1, .inr ⟨_, nb, v, ss, st, rfl, h3, hm⟩⟩

theorem made_bounds {rules : List By} {ss : List Ste} {st : Nat} (k : Made rules ss st) : ss.length ≤ 1000000 ∧ 1 + pot ss (List.replicate ss.length false) ≤ 1000000 ∧ ∀ c now, List.Sublist now (List.range ss.length) → (stepG ss c now []).length + pot ss (List.replicate ss.length false) ≤ 1000000 := by
  have h1 := k.len
  have h2 := k.tot
  have h3 := pot_le ss (List.replicate ss.length false)
  refine ⟨by omega, by omega, fun c now hs => ?_⟩
  have := stepG_tot c hs
  omega

theorem match_made {h : Heap} {p : Value} {rules : List By} {s : By} {a : Int} (k : MadeAt h p rules) (hs : s.length ≤ 1000000) :
    CallsH Tryd.prog 19 #[p, .string (bs s), .int .i64 a] h (Ret fun r h' => r = .tuple #[.int .i64 (matchM rules s a).1, .int .i64 (matchM rules s a).2] ∧ Ext0 h h') := by
  obtain ⟨O, nb, v, ss, st, rfl, hn, hm⟩ := k
  have hmade := makeP_made hm
  have hb := made_bounds hmade
  have : matchM rules s a = matchA ss st s a := by unfold matchM; rw [hm]
  rw [this]
  exact match_calls hn hmade.good hb.1 (.inr hmade.stl) hs hb.2.1 hb.2.2

theorem takes_calls {h : Heap} {p : Value} {rules : List By} {s : By} {a x y : Int} (k : MadeAt h p rules) (hs : s.length ≤ 1000000) :
    CallsH Tryd.prog 25 #[p, .string (bs s), .int .i64 a, .int .i64 x, .int .i64 y] h (Ret fun r h' => r = .bool (decide (matchM rules s a = (x, y))) ∧ Ext0 h h') := by
  refine CallsH.of Tryd.func25 rfl rfl ?_
  refine G.seq rfl ?_
  refine G.reg Tryd.func25 rfl ?_
  refine RW.pureS rfl rfl rfl rfl (OpP.assign rfl) ?_
  refine RW.done rfl ?_
  refine G.sub (ρ' := [(0, _), (1, _), (2, _), (3, _), (4, _), (10, _)]) ⟨rfl, rfl, rfl, rfl, rfl, rfl, trivial⟩ ?_
  refine G.seq rfl ?_
  refine G.reg Tryd.func25 rfl ?_
  refine RW.pureS rfl rfl rfl rfl (OpP.move rfl) ?_
  refine RW.pureS rfl rfl rfl rfl (OpP.move rfl) ?_
  refine RW.pureS rfl rfl rfl rfl (OpP.move rfl) ?_
  refine RW.opS rfl rfl rfl rfl (OpX.call (vs := [_, _, _]) Tryd.func19 rfl H.nm19 rfl (CallsH.toX (match_made k hs))) ?_
  rintro _ h1 ⟨rfl, e1⟩
  refine RW.pureS rfl rfl rfl rfl (OpP.move rfl) ?_
  refine RW.pureS rfl rfl rfl rfl (OpP.extract rfl rfl) ?_
  refine RW.pureS rfl rfl rfl rfl (OpP.extract rfl rfl) ?_
  refine RW.pureS rfl rfl rfl rfl (OpP.assign rfl) ?_
  refine RW.pureS rfl rfl rfl rfl (OpP.assign rfl) ?_
  refine RW.done rfl ?_
  refine G.sub (ρ' := [(0, _), (1, _), (2, _), (3, _), (4, _), (10, _), (11, _), (12, _)]) ⟨rfl, rfl, rfl, rfl, rfl, rfl, rfl, rfl, trivial⟩ ?_
  refine G.seq rfl ?_
  generalize matchM rules s a = m
  have hmm : decide (m = (x, y)) = (decide (m.1 = x) && decide (m.2 = y)) := by
    rw [← Bool.decide_and]; congr 1; rw [Prod.ext_iff]
  refine G.regTo1 [(10, .bool (decide (m = (x, y))))] [(0, _), (1, _), (2, _), (3, _), (4, _), (11, _), (12, _)] ⟨rfl, rfl, rfl, rfl, rfl, rfl, rfl, trivial⟩ Tryd.func25 rfl ?_ ?_
  · refine RW.pureS rfl rfl rfl rfl (OpP.move rfl) ?_
    refine RW.pureS rfl rfl rfl rfl (OpP.move rfl) ?_
    refine RW.pureS rfl rfl rfl rfl (OpP.eqlInt rfl rfl) ?_
    refine RW.pureS rfl rfl rfl rfl (OpP.move rfl) ?_
    refine RW.split (d := 23) rfl (fun hg => ?_) (fun hg => ?_)
    · refine RW.pureS rfl rfl rfl rfl (OpP.move rfl) ?_
      refine RW.pureS rfl rfl rfl rfl (OpP.move rfl) ?_
      refine RW.pureS rfl rfl rfl rfl (OpP.eqlInt rfl rfl) ?_
      refine RW.pureS rfl rfl rfl rfl (OpP.pickT rfl rfl) ?_
      refine RW.pureS rfl rfl rfl rfl (OpP.assign rfl) ?_
      refine RW.done rfl ?_
      exact ⟨rfl, at_bool rfl (by rw [hmm, hg, Bool.true_and]), rfl, rfl, rfl, rfl, rfl, rfl, rfl, trivial⟩
    · refine RW.skipS rfl rfl rfl rfl ?_
      refine RW.skipS rfl rfl rfl rfl ?_
      refine RW.skipS rfl rfl rfl rfl ?_
      refine RW.pureS rfl rfl rfl rfl (OpP.pickF rfl rfl) ?_
      refine RW.pureS rfl rfl rfl rfl (OpP.assign rfl) ?_
      refine RW.done rfl ?_
      exact ⟨rfl, at_bool rfl (by rw [hmm, hg, Bool.false_and]), rfl, rfl, rfl, rfl, rfl, rfl, rfl, trivial⟩
  · refine G.ret Tryd.func25 rfl rfl ?_
    exact ⟨_, rfl, rfl, e1⟩

/-! ### The chapter's rules -/

def egL : List By := [[97, 42], [97, 98], [98]]
theorem eg_ok : makeE egL = 0 := by decide +kernel
theorem eg_inl : ∀ e, makeP egL ≠ .inl e := fun e h => by
  have h2 : (match makeP egL with | .inl _ => true | .inr _ => false) = false := by decide +kernel
  rw [h] at h2; cases h2
theorem eg1 : matchM egL [97, 97, 98] 0 = (2, 0) := by decide +kernel
theorem eg2 : matchM egL [97, 98] 0 = (2, 1) := by decide +kernel
theorem eg3 : matchM egL [97, 97, 98] 2 = (1, 2) := by decide +kernel
theorem eg4 : matchM egL [99] 0 = (0, 0) := by decide +kernel
theorem eg5 : matchM egL [99] 2 = (0, -1) := by decide +kernel
theorem eg6 : makeE [] = 2 := by decide +kernel
theorem eg7 : makeE [[97], [40]] = 10 := by decide +kernel

end Go.Proofs.YtlegopbpofofgaaDoor

/- The chapter's rules are taken; what is great; Make and the reference's Rules have the same errors. -/
namespace Go.Proofs.YtlegopbpofofgaaDoor
open Go Go.Lw
set_option maxRecDepth 20000

theorem makeG_err : ∀ (l : List By) (i : Nat) (ss : List Ste) (t : List Nat), (∃ q, makeG i l ss t = .inr q ∧ rulesE l = 0) ∨ (makeG i l ss t = .inl (rulesE l) ∧ rulesE l ≠ 0)
  | [], i, ss, t => .inl ⟨_, rfl, rfl⟩
  | s :: r, i, ss, t => by
    rw [makeG, rulesE]
    by_cases h : (parseE s).2 ≠ 0
    · rw [if_pos h, if_pos h]; exact .inr ⟨rfl, h⟩
    · rw [if_neg h, if_neg h]; exact makeG_err r _ _ _
theorem make_rules (l : List By) : (∃ q, makeP l = .inr q ∧ rulesP l = 0) ∨ (makeP l = .inl (rulesP l) ∧ rulesP l ≠ 0) := by
  unfold makeP rulesP
  by_cases h : l.length = 0 ∨ 64 < l.length
  · rw [if_pos h, if_pos h]; exact .inr ⟨rfl, by decide⟩
  · rw [if_neg h, if_neg h]
    rcases makeG_err l 0 [] [] with ⟨q, h1, h2⟩ | ⟨h1, h2⟩
    · rw [h1, if_neg (by simpa using h2)]
      by_cases hl : 2000 < totL l
      · refine .inr ⟨by simp [hl], by rw [if_pos hl]; decide⟩
      · refine .inl ⟨(q.1 ++ [⟨0, 0, q.2, 0⟩], q.1.length), by simp [hl], by rw [if_neg hl]⟩
    · rw [h1, if_pos h2]; exact .inr ⟨rfl, h2⟩
theorem makeE_rules (l : List By) : makeE l = rulesP l := by
  unfold makeE
  rcases make_rules l with ⟨q, h1, h2⟩ | ⟨h1, h2⟩
  · rw [h1, h2]
  · rw [h1]

theorem parse_of {rules : List By} (h : rulesP rules = 0) : ∀ s ∈ rules, (parseE s).2 = 0 := by
  have key : ∀ l : List By, rulesE l = 0 → ∀ s ∈ l, (parseE s).2 = 0 := by
    intro l
    induction l with
    | nil => intro _ s hs; cases hs
    | cons x r ih =>
      intro h s hs
      rw [rulesE] at h
      by_cases hx : (parseE x).2 ≠ 0
      · rw [if_pos hx] at h; exact absurd h hx
      · rw [if_neg hx] at h
        rcases List.mem_cons.1 hs with rfl | hs
        · simpa using hx
        · exact ih h s hs
  unfold rulesP at h
  split at h
  · cases h
  · split at h
    · rename_i h2; exact absurd h h2
    · rename_i h2; exact key rules (by simpa using h2)
theorem rules_wf {rules : List By} (h : rulesP rules = 0) : ∀ x ∈ rules.map (fun s => (parseE s).1), wfN x = true := fun x hx => by
  obtain ⟨s, hs, rfl⟩ := List.mem_map.1 hx
  exact (parseE_small (parse_of h s hs)).2.1
theorem rulesR_map (rules : List By) : rulesR rules = (rules.map fun s => (parseE s).1).map ofP := by simp [rulesR]
theorem rules_ok {rules : List By} (h : rulesP rules = 0) : RsOk (rulesR rules) := fun r hr => by
  obtain ⟨s, hs, rfl⟩ := List.mem_map.1 hr
  have hsm := parseE_small (parse_of h s hs)
  have := cnt_sz (parseE s).1
  exact ⟨_, of_ok hsm.2.1, by omega⟩

/-- What the reference tells of a match is what the states tell. -/
theorem matchM_ref {rules : List By} (h : rulesP rules = 0) (s : By) (a : Int) : matchM rules s a = ((refA (rulesR rules) s a).1, (refA (rulesR rules) s a).2.1) := by
  rcases make_rules rules with ⟨⟨ss, st⟩, h1, _⟩ | ⟨_, h2⟩
  · have hm := makeP_made h1
    have hst := hm.stl
    unfold matchM refA matchA
    rw [h1]
    simp only
    by_cases ha : a < 0 ∨ (s.length : Int) < a
    · rw [if_pos (.inr ha), if_pos ha]
    · rw [if_neg (by omega), if_neg ha]
      have k1 := matchP_spec hm (s.drop a.toNat)
      have k2 := refMatch_spec (rules_wf h) (s.drop a.toNat)
      rw [← rulesR_map] at k2
      refine k1.uniq k2 (fun k r _ => ?_)
      simp only [List.getElem?_map]
      constructor
      · rintro ⟨s', hs', hl⟩; exact ⟨_, by rw [hs']; rfl, hl⟩
      · rintro ⟨x, hx, hl⟩
        cases hs' : rules[r]? with
        | none => rw [hs'] at hx; cases hx
        | some s' => rw [hs'] at hx; cases hx; exact ⟨s', rfl, hl⟩
  · exact absurd h h2
theorem least_ref {rules : List By} {ss : List Ste} {st : Nat} (h : makeP rules = .inr (ss, st)) (s : By) : acceptsP ss (runP ss st s) = refLeast 0 (rulesR rules) s := by
  have h0 : rulesP rules = 0 := by
    rcases make_rules rules with ⟨q, _, h2⟩ | ⟨h1, _⟩
    · exact h2
    · rw [h] at h1; cases h1
  have hm := makeP_made h
  have k1 := accepts_least hm.good hm.stl s
  have k2 := refLeast_spec (rules.map fun s => (parseE s).1) 0 s (rules_wf h0)
  rw [← rulesR_map] at k2
  refine k1.uniq k2 (fun r => ?_)
  rw [hm.lng r s]
  constructor
  · rintro ⟨s', hs', hl⟩; exact ⟨r, _, by rw [List.getElem?_map, hs']; rfl, by omega, hl⟩
  · rintro ⟨j, x, hx, hr, hl⟩
    have : r = j := by omega
    subst this
    rw [List.getElem?_map] at hx
    cases hs' : rules[r]? with
    | none => rw [hs'] at hx; cases hx
    | some s' => rw [hs'] at hx; cases hx; exact ⟨s', rfl, hl⟩

theorem lits {h : Heap} (l : List By) (n : Nat) (hn : l.length = n) (hm : n ≤ maxLen) : SlR eBy (h.push (.cells (l.map fun s => Value.string (bs s)).toArray 9)) (fun _ => False) (.slice (some ⟨h.size, 0, none⟩) n n) l :=
  OwE.read (h1 := fun _ => rfl) (OwE.made (fun s => .string (bs s)) h 9 l n hn hm h.size (Nat.le_refl _) rfl) (fun _ _ k => k)

theorem matched_calls {h : Heap} {lim : Nat} (hg : Sg h lim) (hlim : lim ≤ h.size) : CallsH Tryd.prog 15 #[] h (Ret fun r h' => r = .bool true ∧ Ext0 h h') := by
  refine CallsH.of Tryd.func15 rfl rfl ?_
  refine G.seq rfl ?_
  refine G.reg Tryd.func15 rfl ?_
  refine RW.pureS rfl rfl rfl rfl (OpP.assign rfl) ?_
  refine RW.done rfl ?_
  refine G.sub (ρ' := [(0, _)]) ⟨rfl, trivial⟩ ?_
  refine G.seq rfl ?_
  refine G.reg Tryd.func15 rfl ?_
  refine RW.opS rfl rfl rfl rfl (OpX.buildOnes (us := [_, _, _]) Tryd.underlying22 H.el9 rfl rfl (by decide) (by simp [Value.oneCell'])) ?_
  rintro _ _ ⟨rfl, rfl⟩
  refine RW.opS rfl rfl rfl rfl (OpX.call (vs := [_]) Tryd.func16 rfl H.nm16 rfl (CallsH.toX (make_made (hg.ext (Ext.push (fun _ => False) h _) (fun _ k => k.elim)) (by simp; omega) (lits egL 3 rfl (by decide)) (by intro s hs; simp [egL] at hs; rcases hs with rfl | rfl | rfl <;> decide)))) ?_
  rintro _ h1 ⟨⟨p, rfl, hp⟩, e1⟩
  have e1 : Ext0 h h1 := (Ext.push (fun _ => False) h _).trans e1
  have hp : MadeAt h1 p egL := by
    rcases hp with ⟨e, he, _⟩ | hp
    · exact absurd he (eg_inl e)
    · exact hp
  rw [eg_ok]
  have hz1 := e1.size
  refine RW.pureS rfl rfl rfl rfl (OpP.move rfl) ?_
  refine RW.pureS rfl rfl rfl rfl (OpP.extract rfl rfl) ?_
  refine RW.pureS rfl rfl rfl rfl (OpP.extract rfl rfl) ?_
  refine RW.pureS rfl rfl rfl rfl (OpP.assign rfl) ?_
  refine RW.pureS rfl rfl rfl rfl (OpP.assign rfl) ?_
  refine RW.done rfl ?_
  refine G.sub (ρ' := [(0, _), (1, _), (2, _)]) ⟨rfl, rfl, rfl, trivial⟩ ?_
  refine G.seq rfl ?_
  refine G.reg Tryd.func15 rfl ?_
  refine RW.opS rfl rfl rfl rfl (OpX.call (vs := [_]) Tryd.func16 rfl H.nm16 rfl (CallsH.toX (make_made (hg.ext e1 (fun _ k => k.elim)) (by omega) (SlR.nil _ _ _) (by intro s hs; cases hs)))) ?_
  rintro _ h2 ⟨⟨p2, rfl, _⟩, e2⟩
  rw [eg6]
  have e02 := e1.trans e2
  have hz2 := e02.size
  have hp := hp.ext0 e2
  refine RW.pureS rfl rfl rfl rfl (OpP.move rfl) ?_
  refine RW.pureS rfl rfl rfl rfl (OpP.extract rfl rfl) ?_
  refine RW.pureS rfl rfl rfl rfl (OpP.extract rfl rfl) ?_
  refine RW.pureS rfl rfl rfl rfl (OpP.assign rfl) ?_
  refine RW.pureS rfl rfl rfl rfl (OpP.assign rfl) ?_
  refine RW.done rfl ?_
  refine G.sub (ρ' := [(0, _), (1, _), (2, _), (4, _)]) ⟨rfl, rfl, rfl, rfl, trivial⟩ ?_
  refine G.seq rfl ?_
  refine G.reg Tryd.func15 rfl ?_
  refine RW.opS rfl rfl rfl rfl (OpX.buildOnes (us := [_, _]) Tryd.underlying22 H.el9 rfl rfl (by decide) (by simp [Value.oneCell'])) ?_
  rintro _ _ ⟨rfl, rfl⟩
  refine RW.opS rfl rfl rfl rfl (OpX.call (vs := [_]) Tryd.func16 rfl H.nm16 rfl (CallsH.toX (make_made (hg.ext (e02.trans (Ext.push (fun _ => False) h2 _)) (fun _ k => k.elim)) (by simp; omega) (lits [[97], [40]] 2 rfl (by decide)) (by intro s hs; simp at hs; rcases hs with rfl | rfl <;> decide)))) ?_
  rintro _ h3 ⟨⟨p3, rfl, _⟩, e3⟩
  have e3 : Ext0 h2 h3 := (Ext.push (fun _ => False) h2 _).trans e3
  rw [eg7]
  have e03 := e02.trans e3
  have hp := hp.ext0 e3
  refine RW.pureS rfl rfl rfl rfl (OpP.move rfl) ?_
  refine RW.pureS rfl rfl rfl rfl (OpP.extract rfl rfl) ?_
  refine RW.pureS rfl rfl rfl rfl (OpP.extract rfl rfl) ?_
  refine RW.pureS rfl rfl rfl rfl (OpP.assign rfl) ?_
  refine RW.pureS rfl rfl rfl rfl (OpP.assign rfl) ?_
  refine RW.done rfl ?_
  refine G.sub (ρ' := [(0, _), (1, _), (2, _), (4, _), (6, _)]) ⟨rfl, rfl, rfl, rfl, rfl, trivial⟩ ?_
  refine G.seq rfl ?_
  refine G.regToX (fun (_u : Unit) (h' : Heap) => Ext0 h h') (fun (_u : Unit) => [(0, .bool true)]) [(1, _), (2, _), (4, _), (6, _)] ⟨rfl, rfl, rfl, rfl, trivial⟩ Tryd.func15 rfl ?_ ?_
  · refine RW.pureS rfl rfl rfl rfl (OpP.move rfl) ?_
    refine RW.pureS rfl rfl rfl rfl (OpP.eqlInt rfl rfl) ?_
    refine RW.pureS rfl rfl rfl rfl (OpP.move rfl) ?_
    refine RW.know (d := 23) (b' := true) rfl (rfl) ?_
    refine RW.pureS rfl rfl rfl rfl (OpP.move rfl) ?_
    refine RW.opS rfl rfl rfl rfl (OpX.call (vs := [_, _, _, _, _]) Tryd.func25 rfl H.nm25 rfl (CallsH.toX (takes_calls (s := [97, 97, 98]) hp (by decide)))) ?_
    rintro _ h4 ⟨rfl, e4⟩
    refine RW.pureS rfl rfl rfl rfl (OpP.pickT rfl rfl) ?_
    refine RW.pureS rfl rfl rfl rfl (OpP.move rfl) ?_
    refine RW.know (d := 27) (b' := true) rfl ((by rw [eg1]; rfl)) ?_
    refine RW.pureS rfl rfl rfl rfl (OpP.move rfl) ?_
    refine RW.opS rfl rfl rfl rfl (OpX.call (vs := [_, _, _, _, _]) Tryd.func25 rfl H.nm25 rfl (CallsH.toX (takes_calls (s := [97, 98]) (hp.ext0 e4) (by decide)))) ?_
    rintro _ h5 ⟨rfl, e5⟩
    refine RW.pureS rfl rfl rfl rfl (OpP.pickT rfl rfl) ?_
    refine RW.pureS rfl rfl rfl rfl (OpP.move rfl) ?_
    refine RW.know (d := 31) (b' := true) rfl ((by rw [eg2]; rfl)) ?_
    refine RW.pureS rfl rfl rfl rfl (OpP.move rfl) ?_
    refine RW.opS rfl rfl rfl rfl (OpX.call (vs := [_, _, _, _, _]) Tryd.func25 rfl H.nm25 rfl (CallsH.toX (takes_calls (s := [97, 97, 98]) ((hp.ext0 e4).ext0 e5) (by decide)))) ?_
    rintro _ h6 ⟨rfl, e6⟩
    refine RW.pureS rfl rfl rfl rfl (OpP.pickT rfl rfl) ?_
    refine RW.pureS rfl rfl rfl rfl (OpP.move rfl) ?_
    refine RW.know (d := 35) (b' := true) rfl ((by rw [eg3]; rfl)) ?_
    refine RW.pureS rfl rfl rfl rfl (OpP.move rfl) ?_
    refine RW.opS rfl rfl rfl rfl (OpX.call (vs := [_, _, _, _, _]) Tryd.func25 rfl H.nm25 rfl (CallsH.toX (takes_calls (s := [99]) (((hp.ext0 e4).ext0 e5).ext0 e6) (by decide)))) ?_
    rintro _ h7 ⟨rfl, e7⟩
    refine RW.pureS rfl rfl rfl rfl (OpP.pickT rfl rfl) ?_
    refine RW.pureS rfl rfl rfl rfl (OpP.move rfl) ?_
    refine RW.know (d := 39) (b' := true) rfl ((by rw [eg4]; rfl)) ?_
    refine RW.pureS rfl rfl rfl rfl (OpP.move rfl) ?_
    refine RW.opS rfl rfl rfl rfl (OpX.call (vs := [_, _, _, _, _]) Tryd.func25 rfl H.nm25 rfl (CallsH.toX (takes_calls (s := [99]) ((((hp.ext0 e4).ext0 e5).ext0 e6).ext0 e7) (by decide)))) ?_
    rintro _ h8 ⟨rfl, e8⟩
    refine RW.pureS rfl rfl rfl rfl (OpP.pickT rfl rfl) ?_
    refine RW.pureS rfl rfl rfl rfl (OpP.move rfl) ?_
    refine RW.know (d := 43) (b' := true) rfl ((by rw [eg5]; rfl)) ?_
    refine RW.pureS rfl rfl rfl rfl (OpP.move rfl) ?_
    refine RW.pureS rfl rfl rfl rfl (OpP.eqlInt rfl rfl) ?_
    refine RW.pureS rfl rfl rfl rfl (OpP.pickT rfl rfl) ?_
    refine RW.pureS rfl rfl rfl rfl (OpP.move rfl) ?_
    refine RW.know (d := 47) (b' := true) rfl (rfl) ?_
    refine RW.pureS rfl rfl rfl rfl (OpP.move rfl) ?_
    refine RW.pureS rfl rfl rfl rfl (OpP.eqlInt rfl rfl) ?_
    refine RW.pureS rfl rfl rfl rfl (OpP.pickT rfl rfl) ?_
    refine RW.pureS rfl rfl rfl rfl (OpP.assign rfl) ?_
    refine RW.done rfl ?_
    exact ⟨(), ((((e03.trans e4).trans e5).trans e6).trans e7).trans e8, at_bool rfl (rfl), rfl, rfl, rfl, rfl, trivial⟩
  · rintro _ h4 e4
    refine G.ret Tryd.func15 rfl rfl ?_
    exact ⟨_, rfl, rfl, e4⟩

def greatP (l : List By) : Bool := decide (8 < l.length) || l.any fun s => decide (60 < s.length)
theorem great_calls {h : Heap} {rv : Value} {rules : List By} (hr : SlR eBy h (fun _ => False) rv rules) :
    CallsH Tryd.prog 18 #[rv] h (Ret fun r h' => r = .bool (greatP rules) ∧ h' = h) := by
  obtain ⟨oa, kn, kc, rfl, hsl⟩ := id hr.open
  have hkn := hsl.len
  have hkc := hsl.le
  have hcap := hsl.cap
  refine CallsH.of Tryd.func18 rfl rfl ?_
  refine G.seq rfl ?_
  refine G.reg Tryd.func18 rfl ?_
  refine RW.pureS rfl rfl rfl rfl (OpP.assign rfl) ?_
  refine RW.done rfl ?_
  refine G.sub (ρ' := [(0, _), (2, _)]) ⟨rfl, rfl, trivial⟩ ?_
  refine G.seq rfl ?_
  refine G.seq rfl ?_
  refine G.reg Tryd.func18 rfl ?_
  refine RW.pureS rfl rfl rfl rfl (OpP.move rfl) ?_
  refine RW.pureS rfl rfl rfl rfl (OpP.lenSlice Tryd.underlying22 rfl) ?_
  refine RW.pureS rfl rfl rfl rfl (OpP.gtr rfl rfl) ?_
  refine RW.done rfl ?_
  refine G.sub (ρ' := [(0, _), (2, _), (6, _)]) ⟨rfl, rfl, rfl, trivial⟩ ?_
  refine G.ite rfl rfl (fun hbig => ?_) (fun hbig => ?_)
  · refine G.seq rfl ?_
    refine G.reg Tryd.func18 rfl ?_
    refine RW.pureS rfl rfl rfl rfl (OpP.assign rfl) ?_
    refine RW.done rfl ?_
    refine G.sub (ρ' := [(0, _), (2, _), (6, _)]) ⟨rfl, rfl, rfl, trivial⟩ ?_
    refine G.ret Tryd.func18 rfl rfl ?_
    exact ⟨_, rfl, by rw [greatP, decide_eq_true (show 8 < rules.length by omega)]; rfl, rfl⟩
  · have hgp : greatP rules = rules.any fun s => decide (60 < s.length) := by rw [greatP, decide_eq_false (show ¬ 8 < rules.length by omega), Bool.false_or]
    refine G.skip rfl ?_
    refine G.seq rfl ?_
    refine G.seq rfl ?_
    refine G.reg Tryd.func18 rfl ?_
    refine RW.pureS rfl rfl rfl rfl (OpP.assign rfl) ?_
    refine RW.done rfl ?_
    refine G.sub (ρ' := [(0, _), (2, _), (3, _), (6, _)]) ⟨rfl, rfl, rfl, rfl, trivial⟩ ?_
    refine G.block rfl rfl ?_
    refine G.loop (σ := Nat) (fun i => [(0, .slice oa kn kc), (3, .int .i64 (i : Nat))]) (fun i h' => i ≤ kn ∧ h' = h ∧ (rules.drop i).any (fun s => decide (60 < s.length)) = greatP rules) (fun i => kn - i) (0) rfl ⟨rfl, rfl, trivial⟩ ⟨Nat.zero_le _, rfl, hgp.symm⟩ ?_
    rintro i g ⟨hi, rfl, hcon⟩ ih
    refine G.seq rfl ?_
    refine G.seq rfl ?_
    refine G.reg Tryd.func18 rfl ?_
    refine RW.pureS rfl rfl rfl rfl (OpP.move rfl) ?_
    refine RW.pureS rfl rfl rfl rfl (OpP.move rfl) ?_
    refine RW.pureS rfl rfl rfl rfl (OpP.lenSlice Tryd.underlying22 rfl) ?_
    refine RW.pureS rfl rfl rfl rfl (OpP.lss rfl rfl) ?_
    refine RW.done rfl ?_
    refine G.sub (ρ' := [(0, _), (3, _), (10, _)]) ⟨rfl, rfl, rfl, trivial⟩ ?_
    refine G.ite rfl rfl (fun hlt => ?_) (fun hlt => ?_)
    · obtain ⟨s, hs⟩ : ∃ s, rules[i]? = some s := ⟨_, List.getElem?_eq_getElem (by omega)⟩
      have hdr : rules.drop i = s :: rules.drop (i + 1) := by
        obtain ⟨hi', rfl⟩ := List.getElem?_eq_some_iff.1 hs
        exact List.drop_eq_getElem_cons hi'
      rw [hdr, List.any_cons] at hcon
      obtain ⟨b, o, cs, ha, hob, hrow, rfl⟩ := hsl.get i s hs
      have hbs := bs_size s
      refine G.skip rfl ?_
      refine G.seq rfl ?_
      refine G.block rfl rfl ?_
      refine G.seq rfl ?_
      refine G.reg Tryd.func18 rfl ?_
      refine RW.pureS rfl rfl rfl rfl (OpP.move rfl) ?_
      refine RW.pureS rfl rfl rfl rfl (OpP.move rfl) ?_
      refine RW.pureS rfl rfl rfl rfl (OpP.indexSlice Tryd.underlying22 H.sz9 rfl rfl i rfl ha (by omega)) ?_
      refine RW.pureS rfl rfl rfl rfl (OpP.load H.ag9 rfl (hrow 0 _ rfl)) ?_
      refine RW.pureS rfl rfl rfl rfl (OpP.lenString Tryd.underlying9 rfl) ?_
      refine RW.pureS rfl rfl rfl rfl (OpP.gtr rfl rfl) ?_
      refine RW.done rfl ?_
      refine G.sub (ρ' := [(0, _), (3, _), (10, _), (18, _)]) ⟨rfl, rfl, rfl, rfl, trivial⟩ ?_
      refine G.ite rfl rfl (fun hlong => ?_) (fun hlong => ?_)
      · rw [decide_eq_true (show 60 < s.length by omega)] at hcon
        refine G.seq rfl ?_
        refine G.reg Tryd.func18 rfl ?_
        refine RW.pureS rfl rfl rfl rfl (OpP.assign rfl) ?_
        refine RW.done rfl ?_
        refine G.sub (ρ' := [(0, _), (2, _), (3, _), (10, _), (18, _)]) ⟨rfl, rfl, rfl, rfl, rfl, trivial⟩ ?_
        refine G.ret Tryd.func18 rfl rfl ?_
        exact ⟨_, rfl, by rw [← hcon]; rfl, rfl⟩
      · rw [decide_eq_false (show ¬ 60 < s.length by omega), Bool.false_or] at hcon
        refine G.skip rfl ?_
        refine G.blkEnd ?_
        refine G.reg Tryd.func18 rfl ?_
        refine RW.pureS rfl rfl rfl rfl (OpP.move rfl) ?_
        refine RW.pureS rfl rfl rfl rfl (OpP.add64 rfl rfl ⟨by omega, by omega⟩) ?_
        refine RW.pureS rfl rfl rfl rfl (OpP.assign rfl) ?_
        refine RW.done rfl ?_
        refine G.sub (ρ' := [(0, _), (3, _), (10, _), (18, _)]) ⟨rfl, rfl, rfl, rfl, trivial⟩ ?_
        exact ih (i + 1) _ _ ⟨rfl, rfl, trivial⟩ ⟨by omega, rfl, hcon⟩ (by omega)
    · have hnil : rules.drop i = [] := List.drop_of_length_le (by omega)
      rw [hnil] at hcon
      refine G.exit rfl rfl ?_
      refine G.seq rfl ?_
      refine G.reg Tryd.func18 rfl ?_
      refine RW.pureS rfl rfl rfl rfl (OpP.assign rfl) ?_
      refine RW.done rfl ?_
      refine G.sub (ρ' := [(0, _), (2, _), (3, _), (10, _)]) ⟨rfl, rfl, rfl, rfl, trivial⟩ ?_
      refine G.ret Tryd.func18 rfl rfl ?_
      exact ⟨_, rfl, by rw [← hcon]; rfl, rfl⟩
theorem great_not {l : List By} (h : greatP l = false) : l.length ≤ 8 ∧ ∀ s ∈ l, s.length ≤ 60 := by
  simp only [greatP, Bool.or_eq_false_iff, decide_eq_false_iff_not, List.any_eq_false] at h
  exact ⟨by omega, fun s hs => by have := h.2 s hs; simpa using this⟩

end Go.Proofs.YtlegopbpofofgaaDoor

/- NfasMake, NfasNone: what they answer. -/
namespace Go.Proofs.YtlegopbpofofgaaDoor
open Go Go.Lw
set_option maxRecDepth 20000

theorem nfasMake_calls {h : Heap} (hg : Sg h h.size) {rv : Value} {rules : List By} (hr : SlR eBy h (fun _ => False) rv rules) :
    CallsH Tryd.prog 3 #[rv] h (Ret fun r h' => r = .bool true ∧ Ext0 h h') := by
  obtain ⟨oa, kn, kc, rfl, hsl⟩ := id hr.open
  have hkn := hsl.len
  have hkc := hsl.le
  have hcap := hsl.cap
  refine CallsH.of Tryd.func3 rfl rfl ?_
  refine G.seq rfl ?_
  refine G.reg Tryd.func3 rfl ?_
  refine RW.pureS rfl rfl rfl rfl (OpP.assign rfl) ?_
  refine RW.done rfl ?_
  refine G.sub (ρ' := [(0, _), (2, _)]) ⟨rfl, rfl, trivial⟩ ?_
  refine G.seq rfl ?_
  refine G.seq rfl ?_
  refine G.reg Tryd.func3 rfl ?_
  refine RW.pureS rfl rfl rfl rfl (OpP.move rfl) ?_
  refine RW.pureS rfl rfl rfl rfl (OpP.lenSlice Tryd.underlying22 rfl) ?_
  refine RW.pureS rfl rfl rfl rfl (OpP.gtr rfl rfl) ?_
  refine RW.done rfl ?_
  refine G.sub (ρ' := [(0, _), (2, _), (10, _)]) ⟨rfl, rfl, rfl, trivial⟩ ?_
  refine G.ite rfl rfl (fun hbig => ?_) (fun hbig => ?_)
  · refine G.seq rfl ?_
    refine G.reg Tryd.func3 rfl ?_
    refine RW.opS rfl rfl rfl rfl (OpX.call (vs := []) Tryd.func15 rfl H.nm15 rfl (CallsH.toX (matched_calls hg (Nat.le_refl _)))) ?_
    rintro _ h1 ⟨rfl, e1⟩
    refine RW.pureS rfl rfl rfl rfl (OpP.assign rfl) ?_
    refine RW.done rfl ?_
    refine G.sub (ρ' := [(0, _), (2, _), (10, _)]) ⟨rfl, rfl, rfl, trivial⟩ ?_
    refine G.ret Tryd.func3 rfl rfl ?_
    exact ⟨_, rfl, rfl, e1⟩
  · refine G.skip rfl ?_
    refine G.seq rfl ?_
    refine G.seq rfl ?_
    refine G.reg Tryd.func3 rfl ?_
    refine RW.pureS rfl rfl rfl rfl (OpP.assign rfl) ?_
    refine RW.done rfl ?_
    refine G.sub (ρ' := [(0, _), (2, _), (3, _), (10, _)]) ⟨rfl, rfl, rfl, rfl, trivial⟩ ?_
    refine G.block rfl rfl ?_
    refine G.loop (σ := Nat) (fun i => [(0, .slice oa kn kc), (3, .int .i64 (i : Nat))]) (fun i h' => i ≤ kn ∧ h' = h ∧ ∀ s ∈ rules.take i, s.length ≤ 300) (fun i => kn - i) (0) rfl ⟨rfl, rfl, trivial⟩ ⟨Nat.zero_le _, rfl, fun s hs => by simp at hs⟩ ?_
    rintro i g ⟨hi, rfl, hshort⟩ ih
    refine G.seq rfl ?_
    refine G.seq rfl ?_
    refine G.reg Tryd.func3 rfl ?_
    refine RW.pureS rfl rfl rfl rfl (OpP.move rfl) ?_
    refine RW.pureS rfl rfl rfl rfl (OpP.move rfl) ?_
    refine RW.pureS rfl rfl rfl rfl (OpP.lenSlice Tryd.underlying22 rfl) ?_
    refine RW.pureS rfl rfl rfl rfl (OpP.lss rfl rfl) ?_
    refine RW.done rfl ?_
    refine G.sub (ρ' := [(0, _), (3, _), (15, _)]) ⟨rfl, rfl, rfl, trivial⟩ ?_
    refine G.ite rfl rfl (fun hlt => ?_) (fun hlt => ?_)
    · obtain ⟨s, hs⟩ : ∃ s, rules[i]? = some s := ⟨_, List.getElem?_eq_getElem (by omega)⟩
      obtain ⟨b, o, cs, ha, hob, hrow, rfl⟩ := hsl.get i s hs
      have hbs := bs_size s
      refine G.skip rfl ?_
      refine G.seq rfl ?_
      refine G.block rfl rfl ?_
      refine G.seq rfl ?_
      refine G.reg Tryd.func3 rfl ?_
      refine RW.pureS rfl rfl rfl rfl (OpP.move rfl) ?_
      refine RW.pureS rfl rfl rfl rfl (OpP.move rfl) ?_
      refine RW.pureS rfl rfl rfl rfl (OpP.indexSlice Tryd.underlying22 H.sz9 rfl rfl i rfl ha (by omega)) ?_
      refine RW.pureS rfl rfl rfl rfl (OpP.load H.ag9 rfl (hrow 0 _ rfl)) ?_
      refine RW.pureS rfl rfl rfl rfl (OpP.lenString Tryd.underlying9 rfl) ?_
      refine RW.pureS rfl rfl rfl rfl (OpP.gtr rfl rfl) ?_
      refine RW.done rfl ?_
      refine G.sub (ρ' := [(0, _), (3, _), (15, _), (23, _)]) ⟨rfl, rfl, rfl, rfl, trivial⟩ ?_
      refine G.ite rfl rfl (fun hlong => ?_) (fun hlong => ?_)
      · refine G.seq rfl ?_
        refine G.reg Tryd.func3 rfl ?_
        refine RW.opS rfl rfl rfl rfl (OpX.call (vs := []) Tryd.func15 rfl H.nm15 rfl (CallsH.toX (matched_calls hg (Nat.le_refl _)))) ?_
        rintro _ h1 ⟨rfl, e1⟩
        refine RW.pureS rfl rfl rfl rfl (OpP.assign rfl) ?_
        refine RW.done rfl ?_
        refine G.sub (ρ' := [(0, _), (2, _), (3, _), (15, _), (23, _)]) ⟨rfl, rfl, rfl, rfl, rfl, trivial⟩ ?_
        refine G.ret Tryd.func3 rfl rfl ?_
        exact ⟨_, rfl, rfl, e1⟩
      · have hnext : ∀ x ∈ rules.take (i + 1), x.length ≤ 300 := fun x hx => by
          rw [List.take_add_one, hs] at hx
          rcases List.mem_append.1 hx with k | k
          · exact hshort x k
          · have : x = s := by simpa using k
            subst this; omega
        refine G.skip rfl ?_
        refine G.blkEnd ?_
        refine G.reg Tryd.func3 rfl ?_
        refine RW.pureS rfl rfl rfl rfl (OpP.move rfl) ?_
        refine RW.pureS rfl rfl rfl rfl (OpP.add64 rfl rfl ⟨by omega, by omega⟩) ?_
        refine RW.pureS rfl rfl rfl rfl (OpP.assign rfl) ?_
        refine RW.done rfl ?_
        refine G.sub (ρ' := [(0, _), (3, _), (15, _), (23, _)]) ⟨rfl, rfl, rfl, rfl, trivial⟩ ?_
        exact ih (i + 1) _ _ ⟨rfl, rfl, trivial⟩ ⟨by omega, rfl, hnext⟩ (by omega)
    · have hall : ∀ s ∈ rules, s.length ≤ 1000000 := fun s hs => by
        have : rules.take i = rules := List.take_of_length_le (by omega)
        have := hshort s (by rw [this]; exact hs)
        omega
      refine G.exit rfl rfl ?_
      refine G.seq rfl ?_
      refine G.reg Tryd.func3 rfl ?_
      refine RW.pureS rfl rfl rfl rfl (OpP.move rfl) ?_
      refine RW.opS rfl rfl rfl rfl (OpX.call (vs := [_]) Tryd.func16 rfl H.nm16 rfl (CallsH.toX (make_made hg (Nat.le_refl _) hr hall))) ?_
      rintro _ h1 ⟨⟨p, rfl, hp⟩, e1⟩
      refine RW.pureS rfl rfl rfl rfl (OpP.move rfl) ?_
      refine RW.pureS rfl rfl rfl rfl (OpP.extract rfl rfl) ?_
      refine RW.pureS rfl rfl rfl rfl (OpP.extract rfl rfl) ?_
      refine RW.pureS rfl rfl rfl rfl (OpP.assign rfl) ?_
      refine RW.pureS rfl rfl rfl rfl (OpP.assign rfl) ?_
      refine RW.done rfl ?_
      refine G.sub (ρ' := [(0, _), (3, _), (4, _), (5, _), (15, _)]) ⟨rfl, rfl, rfl, rfl, rfl, trivial⟩ ?_
      refine G.seq rfl ?_
      refine G.reg Tryd.func3 rfl ?_
      refine RW.pureS rfl rfl rfl rfl (OpP.move rfl) ?_
      refine RW.opS rfl rfl rfl rfl (OpX.call (vs := [_]) Tryd.func17 rfl H.nm17 rfl (CallsH.toX (rules_calls (hr.ext0 e1) hall))) ?_
      rintro _ h2 ⟨⟨v, rfl, _⟩, e2⟩
      have e02 := e1.trans e2
      rw [makeE_rules]
      have hnil : ∃ q : Option Addr, p = .pointer q ∧ q.isNone = !decide (rulesP rules = 0) := by
        rcases make_rules rules with ⟨q, hq, h0⟩ | ⟨hq, h0⟩
        · rcases hp with ⟨e, he, _⟩ | ⟨O, nb, v, ss, st, hp, _⟩
          · rw [hq] at he; cases he
          · exact ⟨_, hp, by simp [h0]⟩
        · rcases hp with ⟨e, he, hp⟩ | ⟨O, nb, v, ss, st, _, _, hm⟩
          · exact ⟨_, hp, by simp [h0]⟩
          · rw [hq] at hm; cases hm
      obtain ⟨q, rfl, hq⟩ := hnil
      refine RW.pureS rfl rfl rfl rfl (OpP.move rfl) ?_
      refine RW.pureS rfl rfl rfl rfl (OpP.extract rfl rfl) ?_
      refine RW.pureS rfl rfl rfl rfl (OpP.extract rfl rfl) ?_
      refine RW.pureS rfl rfl rfl rfl (OpP.assign rfl) ?_
      refine RW.pureS rfl rfl rfl rfl (OpP.assign rfl) ?_
      refine RW.done rfl ?_
      refine G.sub (ρ' := [(0, _), (3, _), (4, _), (5, _), (7, _), (15, _)]) ⟨rfl, rfl, rfl, rfl, rfl, rfl, trivial⟩ ?_
      refine G.seq rfl ?_
      refine G.regToX (fun (_u : Unit) (h' : Heap) => Ext0 g h') (fun (_u : Unit) => [(2, .bool true)]) [(0, _), (3, _), (4, _), (5, _), (7, _), (15, _)] ⟨rfl, rfl, rfl, rfl, rfl, rfl, trivial⟩ Tryd.func3 rfl ?_ ?_
      · refine RW.pureS rfl rfl rfl rfl (OpP.move rfl) ?_
        refine RW.pureS rfl rfl rfl rfl (OpP.move rfl) ?_
        refine RW.pureS rfl rfl rfl rfl (OpP.eqlInt rfl rfl) ?_
        refine RW.pureS rfl rfl rfl rfl (OpP.move rfl) ?_
        refine RW.know (d := 38) (b' := true) rfl ((by simp)) ?_
        refine RW.pureS rfl rfl rfl rfl (OpP.move rfl) ?_
        refine RW.pureS rfl rfl rfl rfl (OpP.eqlNil Tryd.underlying24 rfl rfl) ?_
        refine RW.pureS rfl rfl rfl rfl (OpP.move rfl) ?_
        refine RW.pureS rfl rfl rfl rfl (OpP.neqInt rfl rfl) ?_
        refine RW.pureS rfl rfl rfl rfl (OpP.eqlBool Tryd.underlying4 rfl rfl) ?_
        refine RW.pureS rfl rfl rfl rfl (OpP.pickT rfl rfl) ?_
        refine RW.pureS rfl rfl rfl rfl (OpP.move rfl) ?_
        refine RW.know (d := 45) (b' := true) rfl ((by simp [hq])) ?_
        refine RW.opS rfl rfl rfl rfl (OpX.call (vs := []) Tryd.func15 rfl H.nm15 rfl (CallsH.toX (matched_calls (hg.ext e02 (fun _ k => k.elim)) e02.size))) ?_
        rintro _ h3 ⟨rfl, e3⟩
        refine RW.pureS rfl rfl rfl rfl (OpP.pickT rfl rfl) ?_
        refine RW.pureS rfl rfl rfl rfl (OpP.assign rfl) ?_
        refine RW.done rfl ?_
        exact ⟨(), e02.trans e3, at_bool rfl (rfl), rfl, rfl, rfl, rfl, rfl, rfl, trivial⟩
      · rintro _ h4 e4
        refine G.ret Tryd.func3 rfl rfl ?_
        exact ⟨_, rfl, rfl, e4⟩

theorem nfasNone_calls {h : Heap} (hg : Sg h h.size) {rv : Value} {s : By} {a : Int} {states : List Int} (hr : SlR (.int .i64) h (fun _ => False) rv states) :
    CallsH Tryd.prog 5 #[.string (bs s), .int .i64 a, rv] h (Ret fun r h' => r = .bool true ∧ Ext0 h h') := by
  obtain ⟨oa, kn, kc, rfl, hsl⟩ := id hr.open
  have hkn := hsl.len
  have hbs := bs_size s
  refine CallsH.of Tryd.func5 rfl rfl ?_
  refine G.seq rfl ?_
  refine G.reg Tryd.func5 rfl ?_
  refine RW.pureS rfl rfl rfl rfl (OpP.assign rfl) ?_
  refine RW.done rfl ?_
  refine G.sub (ρ' := [(0, _), (1, _), (2, _), (6, _)]) ⟨rfl, rfl, rfl, rfl, trivial⟩ ?_
  refine G.seq rfl ?_
  refine G.seq rfl ?_
  refine G.regTo1 [(18, .bool (decide (100 < s.length ∨ 100 < kn)))] [(0, _), (1, _), (2, _), (6, _)] ⟨rfl, rfl, rfl, rfl, trivial⟩ Tryd.func5 rfl ?_ ?_
  · refine RW.pureS rfl rfl rfl rfl (OpP.move rfl) ?_
    refine RW.pureS rfl rfl rfl rfl (OpP.lenString Tryd.underlying9 rfl) ?_
    refine RW.pureS rfl rfl rfl rfl (OpP.gtr rfl rfl) ?_
    refine RW.pureS rfl rfl rfl rfl (OpP.move rfl) ?_
    refine RW.split (d := 14) rfl (fun hg1 => ?_) (fun hg1 => ?_)
    · have hg1' := of_decide_eq_true hg1
      refine RW.skipS rfl rfl rfl rfl ?_
      refine RW.skipS rfl rfl rfl rfl ?_
      refine RW.skipS rfl rfl rfl rfl ?_
      refine RW.pureS rfl rfl rfl rfl (OpP.pickT rfl rfl) ?_
      refine RW.done rfl ?_
      exact ⟨rfl, at_bool rfl (by simp; omega), rfl, rfl, rfl, rfl, trivial⟩
    · have hg1' := of_decide_eq_false hg1
      refine RW.pureS rfl rfl rfl rfl (OpP.move rfl) ?_
      refine RW.pureS rfl rfl rfl rfl (OpP.lenSlice Tryd.underlying36 rfl) ?_
      refine RW.pureS rfl rfl rfl rfl (OpP.gtr rfl rfl) ?_
      refine RW.pureS rfl rfl rfl rfl (OpP.pickF rfl rfl) ?_
      refine RW.done rfl ?_
      exact ⟨rfl, at_bool rfl (by simp only [decide_eq_decide]; omega), rfl, rfl, rfl, rfl, trivial⟩
  · refine G.ite rfl rfl (fun hbig => ?_) (fun hbig => ?_)
    · refine G.seq rfl ?_
      refine G.reg Tryd.func5 rfl ?_
      refine RW.opS rfl rfl rfl rfl (OpX.call (vs := []) Tryd.func15 rfl H.nm15 rfl (CallsH.toX (matched_calls hg (Nat.le_refl _)))) ?_
      rintro _ h1 ⟨rfl, e1⟩
      refine RW.pureS rfl rfl rfl rfl (OpP.assign rfl) ?_
      refine RW.done rfl ?_
      refine G.sub (ρ' := [(0, _), (1, _), (2, _), (6, _), (18, _)]) ⟨rfl, rfl, rfl, rfl, rfl, trivial⟩ ?_
      refine G.ret Tryd.func5 rfl rfl ?_
      exact ⟨_, rfl, rfl, e1⟩
    · refine G.skip rfl ?_
      refine G.seq rfl ?_
      refine G.reg Tryd.func5 rfl ?_
      refine RW.pureS rfl rfl rfl rfl (OpP.assign rfl) ?_
      refine RW.done rfl ?_
      refine G.sub (ρ' := [(0, _), (1, _), (2, _), (6, _), (7, _), (18, _)]) ⟨rfl, rfl, rfl, rfl, rfl, rfl, trivial⟩ ?_
      refine G.seq rfl ?_
      refine G.seq rfl ?_
      refine G.reg Tryd.func5 rfl ?_
      refine RW.pureS rfl rfl rfl rfl (OpP.assign rfl) ?_
      refine RW.done rfl ?_
      refine G.sub (ρ' := [(0, _), (1, _), (2, _), (6, _), (7, _), (8, _), (18, _)]) ⟨rfl, rfl, rfl, rfl, rfl, rfl, rfl, trivial⟩ ?_
      refine G.block rfl rfl ?_
      refine G.loop (σ := Nat × Option Addr) (fun q => [(0, .string (bs s)), (1, .int .i64 a), (2, .slice oa kn kc), (7, .pointer q.2), (8, .int .i64 (q.1 : Nat))]) (fun q h' => q.1 ≤ 2 ∧ Ext0 h h' ∧ NoneAt h' (.pointer q.2)) (fun q => 2 - q.1) ((0, none)) rfl ⟨rfl, rfl, rfl, rfl, rfl, trivial⟩ ⟨by decide, Ext.refl _ _, .inl rfl⟩ ?_
      rintro ⟨i, q⟩ g ⟨hi, eg, hq⟩ ih
      try dsimp only
      dsimp only at hi hq
      refine G.seq rfl ?_
      refine G.seq rfl ?_
      refine G.reg Tryd.func5 rfl ?_
      refine RW.pureS rfl rfl rfl rfl (OpP.move rfl) ?_
      refine RW.pureS rfl rfl rfl rfl (OpP.lss rfl rfl) ?_
      refine RW.done rfl ?_
      refine G.sub (ρ' := [(0, _), (1, _), (2, _), (7, _), (8, _), (21, _)]) ⟨rfl, rfl, rfl, rfl, rfl, rfl, trivial⟩ ?_
      refine G.ite rfl rfl (fun hlt => ?_) (fun hlt => ?_)
      · refine G.skip rfl ?_
        refine G.seq rfl ?_
        refine G.block rfl rfl ?_
        refine G.seq rfl ?_
        refine G.reg Tryd.func5 rfl ?_
        refine RW.pureS rfl rfl rfl rfl (OpP.move rfl) ?_
        refine RW.pureS rfl rfl rfl rfl (OpP.move rfl) ?_
        refine RW.pureS rfl rfl rfl rfl (OpP.move rfl) ?_
        refine RW.opS rfl rfl rfl rfl (OpX.call (vs := [_, _, _]) Tryd.func19 rfl H.nm19 rfl (CallsH.toX (match_none hq (bs s) a))) ?_
        rintro _ h1 ⟨rfl, hh1⟩
        subst hh1
        refine RW.pureS rfl rfl rfl rfl (OpP.move rfl) ?_
        refine RW.pureS rfl rfl rfl rfl (OpP.extract rfl rfl) ?_
        refine RW.pureS rfl rfl rfl rfl (OpP.extract rfl rfl) ?_
        refine RW.pureS rfl rfl rfl rfl (OpP.assign rfl) ?_
        refine RW.pureS rfl rfl rfl rfl (OpP.assign rfl) ?_
        refine RW.done rfl ?_
        refine G.sub (ρ' := [(0, _), (1, _), (2, _), (7, _), (8, _), (9, _), (10, _), (21, _)]) ⟨rfl, rfl, rfl, rfl, rfl, rfl, rfl, rfl, trivial⟩ ?_
        refine G.seq rfl ?_
        refine G.seq rfl ?_
        refine G.regToX (fun (_u : Unit) (h' : Heap) => h' = h1) (fun (_u : Unit) => [(55, .bool false)]) [(0, _), (1, _), (2, _), (7, _), (8, _), (9, _), (10, _), (21, _)] ⟨rfl, rfl, rfl, rfl, rfl, rfl, rfl, rfl, trivial⟩ Tryd.func5 rfl ?_ ?_
        · refine RW.pureS rfl rfl rfl rfl (OpP.move rfl) ?_
          refine RW.pureS rfl rfl rfl rfl (OpP.neqInt rfl rfl) ?_
          refine RW.pureS rfl rfl rfl rfl (OpP.move rfl) ?_
          refine RW.know (d := 33) (b' := false) rfl (rfl) ?_
          refine RW.pureS rfl rfl rfl rfl (OpP.move rfl) ?_
          refine RW.pureS rfl rfl rfl rfl (OpP.neqInt rfl rfl) ?_
          refine RW.pureS rfl rfl rfl rfl (OpP.pickF rfl rfl) ?_
          refine RW.pureS rfl rfl rfl rfl (OpP.move rfl) ?_
          refine RW.know (d := 37) (b' := false) rfl (rfl) ?_
          refine RW.pureS rfl rfl rfl rfl (OpP.move rfl) ?_
          refine RW.opS rfl rfl rfl rfl (OpX.call (vs := [_]) Tryd.func21 rfl H.nm21 rfl (CallsH.toX (start_none hq))) ?_
          rintro _ h2 ⟨rfl, hh2⟩
          refine RW.pureS rfl rfl rfl rfl (OpP.lenSlice Tryd.underlying36 rfl) ?_
          refine RW.pureS rfl rfl rfl rfl (OpP.neqInt rfl rfl) ?_
          refine RW.pureS rfl rfl rfl rfl (OpP.pickF rfl rfl) ?_
          refine RW.pureS rfl rfl rfl rfl (OpP.move rfl) ?_
          subst hh2
          refine RW.know (d := 43) (b' := false) rfl (rfl) ?_
          refine RW.pureS rfl rfl rfl rfl (OpP.move rfl) ?_
          refine RW.pureS rfl rfl rfl rfl (OpP.move rfl) ?_
          refine RW.opS rfl rfl rfl rfl (OpX.call (vs := [_, _, _]) Tryd.func24 rfl H.nm24 rfl (CallsH.toX (step_none hq _ _))) ?_
          rintro _ h3 ⟨rfl, hh3⟩
          refine RW.pureS rfl rfl rfl rfl (OpP.lenSlice Tryd.underlying36 rfl) ?_
          refine RW.pureS rfl rfl rfl rfl (OpP.neqInt rfl rfl) ?_
          refine RW.pureS rfl rfl rfl rfl (OpP.pickF rfl rfl) ?_
          refine RW.pureS rfl rfl rfl rfl (OpP.move rfl) ?_
          subst hh3
          refine RW.know (d := 50) (b' := false) rfl (rfl) ?_
          refine RW.pureS rfl rfl rfl rfl (OpP.move rfl) ?_
          refine RW.pureS rfl rfl rfl rfl (OpP.move rfl) ?_
          refine RW.opS rfl rfl rfl rfl (OpX.call (vs := [_, _]) Tryd.func22 rfl H.nm22 rfl (CallsH.toX (accepts_none hq _))) ?_
          rintro _ h4 ⟨rfl, hh4⟩
          refine RW.pureS rfl rfl rfl rfl (OpP.neqInt rfl rfl) ?_
          refine RW.pureS rfl rfl rfl rfl (OpP.pickF rfl rfl) ?_
          subst hh4
          refine RW.done rfl ?_
          exact ⟨(), rfl, at_bool rfl (rfl), rfl, rfl, rfl, rfl, rfl, rfl, rfl, rfl, trivial⟩
        · rintro _ h2 rfl
          refine G.cond rfl rfl (fun hc => absurd hc (by decide)) (fun _ => ?_)
          refine G.skip rfl ?_
          refine G.reg Tryd.func5 rfl ?_
          refine RW.pureS rfl rfl rfl rfl (OpP.build (H.bd44_ ) rfl) ?_
          refine RW.opS rfl rfl rfl rfl (OpX.boxN rfl) ?_
          rintro _ h3 ⟨rfl, k3, e3, z3⟩
          refine RW.pureS rfl rfl rfl rfl (OpP.assign rfl) ?_
          refine RW.done rfl ?_
          refine G.sub (ρ' := [(0, _), (1, _), (2, _), (7, _), (8, _), (9, _), (10, _), (21, _), (55, _)]) ⟨rfl, rfl, rfl, rfl, rfl, rfl, rfl, rfl, rfl, trivial⟩ ?_
          refine G.blkEnd ?_
          refine G.reg Tryd.func5 rfl ?_
          refine RW.pureS rfl rfl rfl rfl (OpP.move rfl) ?_
          refine RW.pureS rfl rfl rfl rfl (OpP.add64 rfl rfl ⟨by omega, by omega⟩) ?_
          refine RW.pureS rfl rfl rfl rfl (OpP.assign rfl) ?_
          refine RW.done rfl ?_
          refine G.sub (ρ' := [(0, _), (1, _), (2, _), (7, _), (8, _), (9, _), (10, _), (21, _), (55, _)]) ⟨rfl, rfl, rfl, rfl, rfl, rfl, rfl, rfl, rfl, trivial⟩ ?_
          have k3 : Blk h3 h2.size 44 [.slice none 0 0, .int .i64 (0 : Nat)] := k3
          exact ih (i + 1, some ⟨h2.size, 0, none⟩) _ _ ⟨rfl, rfl, rfl, rfl, rfl, trivial⟩ ⟨by show i + 1 ≤ 2; omega, eg.trans e3, .inr ⟨fun _ => False, h2.size, _, 0, rfl, ⟨k3, OwX.nil _ _ _ _ _⟩⟩⟩ (by show 2 - (i + 1) < 2 - i; omega)
      · refine G.exit rfl rfl ?_
        refine G.seq rfl ?_
        refine G.reg Tryd.func5 rfl ?_
        refine RW.opS rfl rfl rfl rfl (OpX.call (vs := []) Tryd.func15 rfl H.nm15 rfl (CallsH.toX (matched_calls (hg.ext eg (fun _ k => k.elim)) eg.size))) ?_
        rintro _ h1 ⟨rfl, e1⟩
        refine RW.pureS rfl rfl rfl rfl (OpP.assign rfl) ?_
        refine RW.done rfl ?_
        refine G.sub (ρ' := [(0, _), (1, _), (2, _), (6, _), (7, _), (8, _), (21, _)]) ⟨rfl, rfl, rfl, rfl, rfl, rfl, rfl, trivial⟩ ?_
        refine G.ret Tryd.func5 rfl rfl ?_
        exact ⟨_, rfl, rfl, eg.trans e1⟩

end Go.Proofs.YtlegopbpofofgaaDoor
