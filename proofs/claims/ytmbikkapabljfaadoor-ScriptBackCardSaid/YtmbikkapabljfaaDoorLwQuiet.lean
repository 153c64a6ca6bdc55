/- A region that draws its order, whose operations all leave the heap as it is: one walk in the text's order. -/
import Derived.Test.YtmbikkapabljfaaDoorLwOwn
namespace Go.Lw

def RQ (P : Program) (n : Nat) (ops : Array Oper) (i : Nat) (ρ : Env) (h : Heap) (N : Env → Prop) : Prop :=
  ∀ B a w, Fits n ρ a → At B h w → wpQuiet P ops (At B h) (fun a' => ∃ ρ', Fits n ρ' a' ∧ N ρ') (ops.toList.drop i) a

section
variable {P : Program} {n : Nat} {ops : Array Oper} {i : Nat} {ρ : Env} {h : Heap} {N : Env → Prop}

theorem drop_of_nth {o : Oper} : ∀ {l : List Oper} {i : Nat}, nth l i = some o → l.drop i = o :: l.drop (i + 1)
  | [], _, h => by simp [nth] at h
  | a :: l, 0, h => by simp [nth] at h; simp [h]
  | a :: l, i + 1, h => by simpa using drop_of_nth (l := l) (i := i) (by simpa [nth] using h)

theorem RQ.pureS {o : Oper} {v : Value} {d : Nat} (ho : nth ops.toList i = some o) (hw : wantedE ops ρ o = some true) (hod : o.dst = some d) (hd : Nat.blt d n = true) (k : OpP P o ρ h v)
    (next : RQ P n ops (i + 1) ((d, v) :: ρ) h N) : RQ P n ops i ρ h N := by
  intro B a w hf ha
  rw [drop_of_nth ho]
  simp only [wpQuiet]
  rw [wanted_of hf hw, if_pos rfl]
  refine ⟨v, fun w' hw' => ?_, ?_⟩
  · unfold Oper.quietAt
    rw [k n B a w' hf hw']
    exact ⟨rfl, rfl⟩
  · have := next B (a.put o.dst v) w (by rw [hod]; exact hf.put (dst := some d) hd v) ha
    exact this

/-- A call that only reads. -/
theorem RQ.callS {o : Oper} {f : FuncId} {xs : Array Operand} {ts : Array TypeId} {vs : List Value} {fn : Func} {v : Value} {d : Nat} (ho : nth ops.toList i = some o) (hop : o.op = .call ⟨.value (.func f), xs, ts⟩) (hw : wantedE ops ρ o = some true) (hod : o.dst = some d) (hd : Nat.blt d n = true)
    (hfn : P.funcs[f]? = some fn) (hb : fn.body.isSome = true) (hnm : (fn.name == "runtime.NumGoroutine") = false) (hvs : xs.toList.map (opd ρ) = vs.map some)
    (k : CallsH P f vs.toArray h (Ret fun u h' => u = v ∧ h' = h))
    (next : RQ P n ops (i + 1) ((d, v) :: ρ) h N) : RQ P n ops i ρ h N := by
  intro B a w hf ha
  rw [drop_of_nth ho]
  simp only [wpQuiet]
  rw [wanted_of hf hw, if_pos rfl]
  refine ⟨v, fun w' hw' => ?_, ?_⟩
  · have hargs : xs.map a.eval = vs.toArray := by
      apply Array.ext'
      simp only [Array.toList_map]
      have : ∀ (l : List Operand) (us : List Value), l.map (opd ρ) = us.map some → l.map a.eval = us := by
        intro l
        induction l with
        | nil => intro us hu; cases us <;> simp_all
        | cons x r ih =>
          intro us hu
          cases us with
          | nil => simp at hu
          | cons u us =>
            simp only [List.map_cons, List.cons.injEq] at hu ⊢
            exact ⟨hf.eval hu.1, ih us hu.2⟩
      exact this _ _ hvs
    have hrun : (execOp a.eval o).run P w' = .ok (.enter f vs.toArray) w' := by
      have hb' : fn.body ≠ none := by intro hbb; simp [hbb] at hb
      have hnm' : ¬ fn.name = "runtime.NumGoroutine" := by simpa using hnm
      simp [execOp, hop, resolve, Act.eval, Deferred.ofValue, invoke, callFunc, hfn, hnm', hb', hargs]
    unfold Oper.quietAt
    rw [hrun]
    refine ⟨rfl, (k B w' hw').mono ?_⟩
    rintro e w'' ⟨h', ha', u, he, hu, hh⟩
    subst he; subst hu; subst hh
    exact ⟨rfl, ha'⟩
  · have := next B (a.put o.dst v) w (by rw [hod]; exact hf.put (dst := some d) hd v) ha
    exact this

theorem RQ.skipS {o : Oper} {d : Nat} (ho : nth ops.toList i = some o) (hw : wantedE ops ρ o = some false) (hod : o.dst = some d) (hd : Nat.blt d n = true)
    (next : RQ P n ops (i + 1) ((d, undef) :: ρ) h N) : RQ P n ops i ρ h N := by
  intro B a w hf ha
  rw [drop_of_nth ho]
  simp only [wpQuiet]
  rw [wanted_of hf hw, if_neg (by simp)]
  exact next B (a.put o.dst undef) w (by rw [hod]; exact hf.put (dst := some d) hd undef) ha

theorem RQ.done (hi : Nat.ble ops.size i = true) (next : N ρ) : RQ P n ops i ρ h N := by
  intro B a w hf ha
  have : ops.size ≤ i := Nat.le_of_ble_eq_true hi
  rw [List.drop_eq_nil_of_le (by simpa using this)]
  exact ⟨ρ, hf, next⟩

theorem RQ.split {d : Nat} {b : Bool} (hb : ρ.at d = some (.bool b)) (ht : b = true → RQ P n ops i ((d, .bool true) :: ρ) h N) (hn : b = false → RQ P n ops i ((d, .bool false) :: ρ) h N) : RQ P n ops i ρ h N := by
  have key : ∀ a, Fits n ρ a → Fits n ((d, .bool b) :: ρ) a := fun a hf => ⟨hf.size, fun j v hv => by
    rw [Env.at_cons] at hv
    split at hv
    · rename_i e; subst e; cases hv; exact hf.ok d _ hb
    · exact hf.ok j v hv, hf.nd⟩
  cases b with
  | true => exact fun B a w hf ha => ht rfl B a w (key a hf) ha
  | false => exact fun B a w hf ha => hn rfl B a w (key a hf) ha

theorem RQ.know {d : Nat} {b b' : Bool} (hb : ρ.at d = some (.bool b)) (e : b = b') (next : RQ P n ops i ((d, .bool b') :: ρ) h N) : RQ P n ops i ρ h N := by
  subst e
  refine RQ.split hb (fun e => ?_) (fun e => ?_) <;> (subst e; exact next)

theorem RQ.sub {ρ' : Env} (hs : Sub ρ' ρ) (next : RQ P n ops i ρ' h N) : RQ P n ops i ρ h N := fun B a w hf ha => next B a w (hf.sub hs) ha
end

section
variable {P : Program} {f : FuncId} {fn : Func} {k : List It} {ρ : Env} {h : Heap} {R : Ending → Heap → Prop} {p : List Nat}

theorem G.drawQ (hfn : P.funcs[f]? = some fn) (hm : P.follows .mixedOrders = true) (hk : kind (Lw.sub (bodyOf fn) p) = 6) (hB : Region.lexB .any (opsOf (Lw.sub (bodyOf fn) p)) = true)
    (next : RQ P fn.ntmps (opsOf (Lw.sub (bodyOf fn) p)) 0 ρ h (fun ρ' => G P f fn k ρ' h R)) : G P f fn (.code p :: k) ρ h R := by
  refine G.of_wp (fun B a w hf ha => ?_) hfn
  cases hc : Lw.sub (bodyOf fn) p <;> simp [hc, kind] at hk
  rename_i id ops d
  cases d with
  | false => simp at hk
  | true =>
    rw [hc] at next hB
    refine wp_region_quiet (C := At B h) hm hB ha.drew ?_
    have h1 := next B a w hf ha
    simp only [opsOf, List.drop_zero] at h1
    have hmono : ∀ (l : List Oper) (a : Act), wpQuiet P ops (At B h) (fun a' => ∃ ρ', Fits fn.ntmps ρ' a' ∧ G P f fn k ρ' h R) l a →
        wpQuiet P ops (At B h) (fun a' => ∀ w', At B h w' → (∃ ρ' h', Fits fn.ntmps ρ' a' ∧ At B h' w' ∧ G P f fn k ρ' h' R)) l a := by
      intro l
      induction l with
      | nil => exact fun a ⟨ρ', hf', hg⟩ w' ha' => ⟨ρ', h, hf', ha', hg⟩
      | cons o r ih =>
        intro a hq
        simp only [wpQuiet] at hq ⊢
        by_cases hw : Region.wanted o (yielded ops a.tmps) = true
        · rw [if_pos hw] at hq ⊢
          obtain ⟨v, h2, h3⟩ := hq; exact ⟨v, h2, ih _ h3⟩
        · rw [if_neg hw] at hq ⊢
          exact ih _ hq
    exact hmono _ _ h1

theorem RQ.mono {n : Nat} {ops : Array Oper} {i : Nat} {N N' : Env → Prop} (k : RQ P n ops i ρ h N) (hm : ∀ ρ, N ρ → N' ρ) : RQ P n ops i ρ h N' := by
  intro B a w hf ha
  have hmono : ∀ (l : List Oper) (a : Act), wpQuiet P ops (At B h) (fun a' => ∃ ρ', Fits n ρ' a' ∧ N ρ') l a → wpQuiet P ops (At B h) (fun a' => ∃ ρ', Fits n ρ' a' ∧ N' ρ') l a := by
    intro l
    induction l with
    | nil => exact fun a ⟨ρ', hf', hg⟩ => ⟨ρ', hf', hm _ hg⟩
    | cons o r ih =>
      intro a hq
      simp only [wpQuiet] at hq ⊢
      by_cases hw : Region.wanted o (yielded ops a.tmps) = true
      · rw [if_pos hw] at hq ⊢
        obtain ⟨v, h2, h3⟩ := hq; exact ⟨v, h2, ih _ h3⟩
      · rw [if_neg hw] at hq ⊢
        exact ih _ hq
  exact hmono _ _ (k B a w hf ha)

theorem G.drawQTo1 (new keep : Env) (_ : Sub keep ρ) (hfn : P.funcs[f]? = some fn) (hm : P.follows .mixedOrders = true) (hk : kind (Lw.sub (bodyOf fn) p) = 6) (hB : Region.lexB .any (opsOf (Lw.sub (bodyOf fn) p)) = true)
    (reg : RQ P fn.ntmps (opsOf (Lw.sub (bodyOf fn) p)) 0 ρ h (fun ρ' => h = h ∧ Sub (new ++ keep) ρ'))
    (next : G P f fn k (new ++ keep) h R) : G P f fn (.code p :: k) ρ h R :=
  G.drawQ hfn hm hk hB (reg.mono fun _ hs => G.sub hs.2 next)

theorem G.drawQToX {σ : Type} (E : σ → Heap → Prop) (new : σ → Env) (keep : Env) (_ : Sub keep ρ) (hfn : P.funcs[f]? = some fn) (hm : P.follows .mixedOrders = true) (hk : kind (Lw.sub (bodyOf fn) p) = 6) (hB : Region.lexB .any (opsOf (Lw.sub (bodyOf fn) p)) = true)
    (reg : RQ P fn.ntmps (opsOf (Lw.sub (bodyOf fn) p)) 0 ρ h (fun ρ' => ∃ s, E s h ∧ Sub (new s ++ keep) ρ'))
    (next : ∀ s h', E s h' → G P f fn k (new s ++ keep) h' R) : G P f fn (.code p :: k) ρ h R :=
  G.drawQ hfn hm hk hB (reg.mono fun _ ⟨s, hE, hs⟩ => G.sub hs (next s h hE))
end

end Go.Lw
