/- script.Get and limnerref27.Get. -/
import Derived.Test.YtmbikkapabljfaaDoorScr10
namespace Go.Proofs.YtmbikkapabljfaaDoor
open Go Go.Lw
set_option maxRecDepth 20000

def eStep : Elt Stp := .record 4 (by decide) encS encS_len encS_one

/-- What Get answers. -/
def GetV (h : Heap) (r : Value) : Nat ⊕ List Stp → Prop
  | .inl m => r = .tuple #[.slice none 0 0, .int .i64 m, .int .i64 10]
  | .inr l => ∃ v, r = .tuple #[v, .int .i64 0, .int .i64 0] ∧ SlR eStep h (fun _ => False) v l

def pre (acc : List Stp) : Nat ⊕ List Stp → Nat ⊕ List Stp
  | .inl m => .inl m
  | .inr l => .inr (acc ++ l)

theorem stepIs_true {line : Bs} {x : Stp} {ok : Bool} (h : StepIs line x ok) (e : ok = true) : stepS line = some x := by unfold StepIs at h; rw [if_pos e] at h; exact h
theorem stepIs_false {line : Bs} {x : Stp} {ok : Bool} (h : StepIs line x ok) (e : ok = false) : stepS line = none := by unfold StepIs at h; rw [if_neg (by rw [e]; decide)] at h; exact h

theorem getL_hit (n : Nat) {a r : Bs} (h : 10 ∉ a) : getL stepS n (splitS 10 (a ++ 10 :: r)) = match stepS a with | none => .inl (n + 1) | some x => match getL stepS (n + 1) (splitS 10 r) with | .inl m => .inl m | .inr l => .inr (x :: l) := by
  rw [splitS_hit r h]
  cases hr : splitS 10 r with
  | nil => exact absurd hr (splitS_ne _ _)
  | cons y ys =>
    rw [getL]
    cases stepS a with
    | none => rfl
    | some x => simp only; cases getL stepS (n + 1) (y :: ys) <;> rfl

theorem get_calls {h : Heap} (hg : Glob h) (s : ByteArray) (hs : s.size ≤ 1000000) :
    CallsH Tryd.prog 12 #[.string s] h (Ret fun r h' => GetV h' r (getS s.data.toList) ∧ Ext0 h h') := by
  refine CallsH.of Tryd.func12 rfl rfl ?_
  refine G.seq rfl ?_
  refine G.reg Tryd.func12 rfl ?_
  refine RW.pureS rfl rfl rfl rfl (OpP.assign rfl) ?_
  refine RW.pureS rfl rfl rfl rfl (OpP.assign rfl) ?_
  refine RW.pureS rfl rfl rfl rfl (OpP.assign rfl) ?_
  refine RW.done rfl ?_
  refine G.sub (ρ' := [(0, _), (2, _), (3, _), (4, _)]) ⟨rfl, rfl, rfl, rfl, trivial⟩ ?_
  refine G.seq rfl ?_
  refine G.block rfl rfl ?_
  refine G.loop (σ := Nat × Value × List Stp × ByteArray) (fun q => [(0, .string q.2.2.2), (2, q.2.1), (3, .int .i64 q.1)]) (fun q h' => Ext0 h h' ∧ q.1 + q.2.2.2.size ≤ s.size ∧ q.2.2.1.length ≤ q.1 ∧ OwR 4 encS h' h.size 28 q.2.1 q.2.2.1 ∧ pre q.2.2.1 (getL stepS q.1 (splitS 10 q.2.2.2.data.toList)) = getS s.data.toList) (fun q => q.2.2.2.size) ((0, .slice none 0 0, [], s)) rfl ⟨rfl, rfl, rfl, trivial⟩ ⟨Ext.refl _ _, by show 0 + s.size ≤ s.size; omega, Nat.zero_le _, OwR.nil _ _ _ _ _, by show pre [] (getS _) = _; cases getS s.data.toList <;> rfl⟩ ?_
  rintro ⟨k, v, acc, rest⟩ h1 ⟨he1, hk, hal, hv, hd⟩ ih
  try dsimp only
  dsimp only at hk hal hv hd
  refine G.seq rfl ?_
  refine G.seq rfl ?_
  refine G.reg Tryd.func12 rfl ?_
  refine RW.pureS rfl rfl rfl rfl (OpP.move rfl) ?_
  refine RW.pureS rfl rfl rfl rfl (OpP.neqStr rfl rfl) ?_
  refine RW.done rfl ?_
  refine G.sub (ρ' := [(0, _), (2, _), (3, _), (11, _)]) ⟨rfl, rfl, rfl, rfl, trivial⟩ ?_
  refine G.ite rfl rfl (fun hne => ?_) (fun hne => ?_)
  · have hne : rest.data.toList ≠ [] := fun e => hne (by show rest = bs []; rw [← e, bs_of])
    have hrl : rest.data.toList.length = rest.size := by simp
    generalize hcu : Lib.cut rest.data.toList [10] = cu
    have hcl : cu.1.length ≤ rest.size := by
      rw [← hcu]
      rcases ib_split 10 rest.data.toList with ⟨_, hn⟩ | ⟨a, r, e, hn, _⟩
      · rw [cut_miss hn]; simp
      · have h2 : rest.size = (a ++ 10 :: r).length := by rw [← e, hrl]
        rw [e, cut_hit hn, h2]; simp
    refine G.skip rfl ?_
    refine G.block rfl rfl ?_
    refine G.seq rfl ?_
    refine G.reg Tryd.func12 rfl ?_
    refine RW.pureS rfl rfl rfl rfl (OpP.move rfl) ?_
    refine RW.pureS rfl rfl rfl rfl (OpP.add64 rfl rfl ⟨by omega, by omega⟩) ?_
    refine RW.pureS rfl rfl rfl rfl (OpP.assign rfl) ?_
    refine RW.done rfl ?_
    refine G.sub (ρ' := [(0, _), (2, _), (3, _), (11, _)]) ⟨rfl, rfl, rfl, rfl, trivial⟩ ?_
    refine G.seq rfl ?_
    refine G.reg Tryd.func12 rfl ?_
    refine RW.pureS rfl rfl rfl rfl (OpP.move rfl) ?_
    refine RW.opS rfl rfl rfl rfl (OpX.call (vs := [_, _]) Tryd.func20 rfl H.nm20 rfl (CallsH.toX (cut_calls (hg.ext0 he1) rest 10 (bs [10]) rfl (by omega)))) ?_
    rintro _ h1 ⟨rfl, rfl⟩
    refine RW.pureS rfl rfl rfl rfl (OpP.move rfl) ?_
    refine RW.pureS rfl rfl rfl rfl (OpP.extract rfl rfl) ?_
    refine RW.pureS rfl rfl rfl rfl (OpP.extract rfl rfl) ?_
    refine RW.pureS rfl rfl rfl rfl (OpP.extract rfl rfl) ?_
    refine RW.pureS rfl rfl rfl rfl (OpP.assign rfl) ?_
    refine RW.pureS rfl rfl rfl rfl (OpP.assign rfl) ?_
    refine RW.pureS rfl rfl rfl rfl (OpP.assign rfl) ?_
    refine RW.done rfl ?_
    refine G.sub (ρ' := [(0, _), (2, _), (3, _), (5, _), (6, _), (7, _), (11, _)]) ⟨rfl, rfl, rfl, rfl, rfl, rfl, rfl, trivial⟩ ?_
    refine G.seq rfl ?_
    refine G.reg Tryd.func12 rfl ?_
    refine RW.pureS rfl rfl rfl rfl (OpP.move rfl) ?_
    rw [hcu]
    refine RW.opS rfl rfl rfl rfl (OpX.call (vs := [_]) Tryd.func21 rfl H.nm21 rfl (CallsH.toX (stepP_calls (hg.ext0 he1) (bs cu.1) (by rw [bs_size]; omega)))) ?_
    rintro _ h2 ⟨⟨x, ok, rfl, hx⟩, he2⟩
    refine RW.pureS rfl rfl rfl rfl (OpP.move rfl) ?_
    refine RW.pureS rfl rfl rfl rfl (OpP.extract rfl rfl) ?_
    refine RW.pureS rfl rfl rfl rfl (OpP.extract rfl rfl) ?_
    refine RW.opS rfl rfl rfl rfl (OpX.allocN H.zr28) ?_
    rintro _ h3 ⟨rfl, hk3, he3, hs3⟩
    refine RW.op0 rfl rfl rfl (OpX.storeBlk H.sz28 rfl rfl hk3 rfl (by first | decide | simp | (simp; omega)) (encS_one x)) ?_
    rintro _ h4 ⟨rfl, hk4, hx4, hs4⟩
    refine RW.pureS rfl rfl rfl rfl (OpP.assign rfl) ?_
    refine RW.done rfl ?_
    refine G.sub (ρ' := [(0, _), (2, _), (3, _), (5, _), (6, _), (7, _), (8, _), (9, _), (11, _)]) ⟨rfl, rfl, rfl, rfl, rfl, rfl, rfl, rfl, rfl, trivial⟩ ?_
    refine G.seq rfl ?_
    refine G.seq rfl ?_
    rw [bs_list] at hx
    have he4 : Ext0 h1 h4 := Ext0.only (he2.trans he3) hx4 he2.size
    have hv4 := OwR.ext0 hv he4
    refine G.regTo1 [(30, .bool (decide (ok = false ∨ cu.2.2 = false)))] [(0, _), (2, _), (3, _), (5, _), (6, _), (7, _), (8, _), (9, _), (11, _)] ⟨rfl, rfl, rfl, rfl, rfl, rfl, rfl, rfl, rfl, trivial⟩ Tryd.func12 rfl ?_ ?_
    · refine RW.pureS rfl rfl rfl rfl (OpP.move rfl) ?_
      refine RW.pureS rfl rfl rfl rfl (OpP.notB rfl) ?_
      refine RW.pureS rfl rfl rfl rfl (OpP.move rfl) ?_
      refine RW.split (d := 27) rfl (fun hok => ?_) (fun hok => ?_)
      · have hok : ok = false := by simpa using hok
        refine RW.skipS rfl rfl rfl rfl ?_
        refine RW.skipS rfl rfl rfl rfl ?_
        refine RW.pureS rfl rfl rfl rfl (OpP.pickT rfl rfl) ?_
        refine RW.done rfl ?_
        exact ⟨rfl, at_bool rfl (by simp [hok]), rfl, rfl, rfl, rfl, rfl, rfl, rfl, rfl, rfl, trivial⟩
      · have hok : ok = true := by simpa using hok
        refine RW.pureS rfl rfl rfl rfl (OpP.move rfl) ?_
        refine RW.pureS rfl rfl rfl rfl (OpP.notB rfl) ?_
        refine RW.pureS rfl rfl rfl rfl (OpP.pickF rfl rfl) ?_
        refine RW.done rfl ?_
        exact ⟨rfl, at_bool rfl (by rw [hok]; cases hc2 : cu.2.2 <;> simp), rfl, rfl, rfl, rfl, rfl, rfl, rfl, rfl, rfl, trivial⟩
    · refine G.ite rfl rfl (fun hbad => ?_) (fun hbad => ?_)
      · have hgl : getL stepS k (splitS 10 rest.data.toList) = .inl (k + 1) := by
          rcases ib_split 10 rest.data.toList with ⟨_, hn⟩ | ⟨a, r, e, hn, _⟩
          · rw [splitS_none hn, getL, if_neg hne]
          · rw [e, cut_hit hn] at hcu
            rw [e, getL_hit k hn]
            rcases hbad with hbad | hbad
            · rw [← hcu] at hx
              rw [stepIs_false hx hbad]
            · rw [← hcu] at hbad; cases hbad
        refine G.seq rfl ?_
        refine G.reg Tryd.func12 rfl ?_
        refine RW.pureS rfl rfl rfl rfl (OpP.move rfl) ?_
        refine RW.pureS rfl rfl rfl rfl (OpP.assign rfl) ?_
        refine RW.pureS rfl rfl rfl rfl (OpP.assign rfl) ?_
        refine RW.pureS rfl rfl rfl rfl (OpP.assign rfl) ?_
        refine RW.done rfl ?_
        refine G.sub (ρ' := [(0, _), (2, _), (3, _), (4, _), (5, _), (6, _), (7, _), (8, _), (9, _), (11, _), (30, _)]) ⟨rfl, rfl, rfl, rfl, rfl, rfl, rfl, rfl, rfl, rfl, rfl, trivial⟩ ?_
        refine G.ret Tryd.func12 rfl rfl ?_
        refine ⟨_, rfl, ?_, he1.trans he4⟩
        rw [← hd, hgl]
        rfl
      · have hok : ok = true := by cases ok <;> simp at hbad ⊢
        have hen : cu.2.2 = true := by cases hc2 : cu.2.2 <;> simp [hc2] at hbad ⊢
        obtain ⟨a, r, e, hn⟩ : ∃ a r, rest.data.toList = a ++ 10 :: r ∧ 10 ∉ a := by
          rcases ib_split 10 rest.data.toList with ⟨_, hn⟩ | ⟨a, r, e, hn, _⟩
          · rw [cut_miss hn] at hcu; rw [← hcu] at hen; cases hen
          · exact ⟨a, r, e, hn⟩
        rw [e, cut_hit hn] at hcu
        subst hcu
        have hsz : rest.size = a.length + 1 + r.length := by rw [← hrl, e]; simp; omega
        rw [e, getL_hit k hn, stepIs_true hx hok] at hd
        refine G.skip rfl ?_
        refine G.seq rfl ?_
        refine G.reg Tryd.func12 rfl ?_
        refine RW.pureS rfl rfl rfl rfl (OpP.move rfl) ?_
        refine RW.pureS rfl rfl rfl rfl (OpP.loadRowN H.ag28 H.sz28 rfl hk4.row (by first | rfl | simp)) ?_
        refine RW.opS rfl rfl rfl rfl (OpX.buildRec (cs := [_, _, _, _]) Tryd.underlying22 H.el28 rfl rfl (by decide)) ?_
        rintro _ _ ⟨rfl, rfl⟩
        refine RW.opS rfl rfl rfl rfl (OpX.appendNew Tryd.underlying22 H.el28 rfl rfl (hv4) rfl rfl (by first | decide | simp [Value.oneCell']) (by omega) (by decide) (he1.trans he4).size) ?_
        rintro v5 h5 ⟨ho5, hx5, -, -⟩
        refine RW.pureS rfl rfl rfl rfl (OpP.assign rfl) ?_
        refine RW.done rfl ?_
        refine G.sub (ρ' := [(0, _), (2, _), (3, _), (5, _), (6, _), (7, _), (8, _), (9, _), (11, _), (30, _)]) ⟨rfl, rfl, rfl, rfl, rfl, rfl, rfl, rfl, rfl, rfl, trivial⟩ ?_
        refine G.reg Tryd.func12 rfl ?_
        refine RW.pureS rfl rfl rfl rfl (OpP.move rfl) ?_
        refine RW.pureS rfl rfl rfl rfl (OpP.assign rfl) ?_
        refine RW.done rfl ?_
        refine G.sub (ρ' := [(0, _), (2, _), (3, _), (5, _), (6, _), (7, _), (8, _), (9, _), (11, _), (30, _)]) ⟨rfl, rfl, rfl, rfl, rfl, rfl, rfl, rfl, rfl, rfl, trivial⟩ ?_
        refine G.blkEnd ?_
        exact ih (k + 1, v5, acc ++ [x], bs r) _ _ ⟨rfl, rfl, rfl, trivial⟩ ⟨OwR.grown (he1.trans he4) hv4 (Nat.le_refl _) hx5, by show k + 1 + (bs r).size ≤ s.size; rw [bs_size]; omega, by show (acc ++ [x]).length ≤ k + 1; simp; omega, OwR.of (y := x) ho5 rfl rfl, by rw [← hd]; show pre (acc ++ [x]) (getL stepS (k + 1) (splitS 10 (bs r).data.toList)) = _; rw [bs_list]; simp only; cases getL stepS (k + 1) (splitS 10 r) <;> simp [pre]⟩ (by show (bs r).size < rest.size; rw [bs_size]; omega)
  · have hre : rest.data.toList = [] := by have : rest = bs [] := Classical.not_not.1 hne; rw [this, bs_list]
    refine G.exit rfl rfl ?_
    refine G.seq rfl ?_
    refine G.reg Tryd.func12 rfl ?_
    refine RW.pureS rfl rfl rfl rfl (OpP.move rfl) ?_
    refine RW.pureS rfl rfl rfl rfl (OpP.assign rfl) ?_
    refine RW.pureS rfl rfl rfl rfl (OpP.assign rfl) ?_
    refine RW.pureS rfl rfl rfl rfl (OpP.assign rfl) ?_
    refine RW.done rfl ?_
    refine G.sub (ρ' := [(0, _), (2, _), (3, _), (4, _), (11, _)]) ⟨rfl, rfl, rfl, rfl, rfl, trivial⟩ ?_
    refine G.ret Tryd.func12 rfl rfl ?_
    refine ⟨_, rfl, ?_, he1⟩
    rw [← hd, hre]
    exact ⟨v, rfl, by rw [List.append_nil]; exact OwR.read hv (fun _ _ k => k)⟩

end Go.Proofs.YtmbikkapabljfaaDoor
