/- Plain words, the logic of walks, and walks that the statement's proof leans on (part 12). -/
import Derived.Recover
import Derived.Test.YtlegopbpofofgaaDoorQa
import Derived.Test.YtlegopbpofofgaaDoorQb
import Derived.Test.YtlegopbpofofgaaDoorQc
import Derived.Test.YtlegopbpofofgaaDoorQd
import Derived.Test.YtlegopbpofofgaaDoorQe
import Derived.Test.YtlegopbpofofgaaDoorQf
import Derived.Test.YtlegopbpofofgaaDoorQg
import Derived.Test.YtlegopbpofofgaaDoorQh
import Derived.Test.YtlegopbpofofgaaDoorQi
import Derived.Test.YtlegopbpofofgaaDoorQj
import Derived.Test.YtlegopbpofofgaaDoorQk

/- A function that puts one call off: behind its 'defer' the frame is about to make that call when it leaves. -/
namespace Go.Lw
open Go.RowKit

/-- A frame with its calls put off. -/
structure FitD (D : List Deferred) (n : Nat) (ρ : Env) (a : Act) : Prop where
  size : a.tmps.size = n
  ok : ∀ i v, ρ.at i = some v → a.tmps[i]? = some v
  nd : a.defers = D

theorem FitD.zero {D : List Deferred} {n : Nat} {ρ : Env} {a : Act} (f : FitD D n ρ a) : Fits n ρ { a with defers := [] } := ⟨f.size, f.ok, rfl⟩
theorem FitD.of {n : Nat} {ρ : Env} {a : Act} {D : List Deferred} (f : Fits n ρ a) : FitD D n ρ { a with defers := D } := ⟨f.size, f.ok, rfl⟩
theorem FitD.put {D : List Deferred} {n : Nat} {ρ : Env} {a : Act} (f : FitD D n ρ a) {dst : Option Nat} (hd : dstOk n dst = true) (v : Value) : FitD D n (ρ.put dst v) (a.put dst v) := by
  have h := f.zero.put hd v
  cases dst with
  | none => exact ⟨h.size, h.ok, f.nd⟩
  | some d => exact ⟨h.size, h.ok, f.nd⟩
theorem FitD.sub {D : List Deferred} {n : Nat} {ρ ρ' : Env} {a : Act} (f : FitD D n ρ a) (h : Sub ρ' ρ) : FitD D n ρ' a := ⟨f.size, fun i v hi => f.ok i v (h.at i v hi), f.nd⟩

theorem OpX.atD {P : Program} {o : Oper} {ρ : Env} {h : Heap} {Φ : Value → Heap → Prop} {X : List PanicEntry → Heap → Prop} (k : OpX P o ρ h Φ X) {n : Nat} {D : List Deferred} {B : World} {a : Act} {w : World} (hf : FitD D n ρ a) (ha : At B h w)
    {next : Act → World → Prop} {Q : Exit → Act → World → Prop} (hn : ∀ v h' w', At B h' w' → Φ v h' → next (a.put o.dst v) w') (hx : ∀ ch h' w', At B h' w' → X ch h' → Q (.panic ch) a w') : o.wp P a w next Q := by
  have hput : ∀ v, ({ (({ a with defers := [] } : Act).put o.dst v) with defers := a.defers } : Act) = a.put o.dst v := fun v => by cases hd : o.dst <;> simp [Act.put]
  have hput0 : ∀ v, (({ a with defers := [] } : Act).put o.dst v).defers = [] := fun v => by cases hd : o.dst <;> simp [Act.put]
  have h0 := k n B { a with defers := [] } w hf.zero ha (fun a' w' => a'.defers = [] ∧ next { a' with defers := a.defers } w')
    (fun e a' w' => match e with | .panic ch => Q (.panic ch) { a' with defers := a.defers } w' | _ => False)
    (fun v h' w' ha' hv => ⟨hput0 v, by rw [hput v]; exact hn v h' w' ha' hv⟩) (fun ch h' w' ha' hv => hx ch h' w' ha' hv)
  unfold Oper.wp at *
  have he : execOp ({ a with defers := [] } : Act).eval o = execOp a.eval o := rfl
  rw [he] at h0
  generalize (execOp a.eval o).run P w = r at *
  cases r with
  | ok x w' =>
    cases x <;> simp only [Oper.upon] at h0 ⊢
    case value v => have := h0.2; rwa [hput v] at this
    case skip => have := h0.2; rwa [hput undef] at this
    case defer d => have := h0.1; cases hd : o.dst <;> simp [Act.put, hd] at this
    case enter g args =>
      refine h0.mono fun e w'' hr => ?_
      cases e with
      | returned v => have := hr.2; rwa [hput v] at this
      | panicked c => exact hr
      | outgrown => obtain ⟨a₁, w₁, h3⟩ := hr; exact h3.elim
    case row row args => exact h0.mono fun v w'' hr => by have := hr.2; rwa [hput v] at this
  | halt x w' => cases x <;> simp only [Oper.upon] at h0 ⊢; exact h0

/-- A region in its own order, behind the 'defer'. -/
def RWD (P : Program) (D : List Deferred) (n : Nat) (ops : Array Oper) (i : Nat) (ρ : Env) (h : Heap) (N : Env → Heap → Prop) (X : List PanicEntry → Env → Heap → Prop) : Prop :=
  ∀ B a w, FitD D n ρ a → At B h w → ∀ Q : Exit → Act → World → Prop, (∀ ρ' h' a' w', FitD D n ρ' a' → At B h' w' → N ρ' h' → Q .normal a' w') →
    (∀ ch ρ' h' a' w', FitD D n ρ' a' → At B h' w' → X ch ρ' h' → Q (.panic ch) a' w') → wpOps P ops Q ((List.range ops.size).drop i) a w

section
variable {P : Program} {D : List Deferred} {n : Nat} {ops : Array Oper} {i : Nat} {ρ : Env} {h : Heap} {N : Env → Heap → Prop} {X : List PanicEntry → Env → Heap → Prop}

theorem RWD.op {o : Oper} {Φ : Value → Heap → Prop} (ho' : nth ops.toList i = some o) (hg : o.guard = none) {od : Option Nat} (hod : o.dst = od) (hd : dstOk n od = true) (k : OpX P o ρ h Φ (fun ch h' => X ch ρ h'))
    (next : ∀ v h', Φ v h' → RWD P D n ops (i + 1) (ρ.put od v) h' N X) : RWD P D n ops i ρ h N X := by
  subst hod
  have ho := nth_get ho'
  intro B a w hf ha Q hN hX
  rw [range_drop (lt_of_get ho)]
  simp only [wpOps, ho]
  have hw : Region.wanted o (yielded ops a.tmps) = true := by unfold Region.wanted; rw [hg]
  rw [hw, if_pos rfl]
  refine .inl (k.atD hf ha (fun v h' w' ha' hv => ?_) (fun ch h' w' ha' hx => hX ch ρ h' a w' hf ha' hx))
  exact next v h' hv B _ w' (hf.put hd v) ha' Q hN hX

theorem RWD.opS {o : Oper} {Φ : Value → Heap → Prop} {d : Nat} (ho : nth ops.toList i = some o) (hg : o.guard = none) (hod : o.dst = some d) (hd : Nat.blt d n = true) (k : OpX P o ρ h Φ (fun ch h' => X ch ρ h'))
    (next : ∀ v h', Φ v h' → RWD P D n ops (i + 1) ((d, v) :: ρ) h' N X) : RWD P D n ops i ρ h N X := RWD.op ho hg hod hd k next
theorem RWD.op0 {o : Oper} {Φ : Value → Heap → Prop} (ho : nth ops.toList i = some o) (hg : o.guard = none) (hod : o.dst = none) (k : OpX P o ρ h Φ (fun ch h' => X ch ρ h'))
    (next : ∀ v h', Φ v h' → RWD P D n ops (i + 1) ρ h' N X) : RWD P D n ops i ρ h N X := RWD.op ho hg hod rfl k next
theorem RWD.pureS {o : Oper} {v : Value} {d : Nat} (ho : nth ops.toList i = some o) (hg : o.guard = none) (hod : o.dst = some d) (hd : Nat.blt d n = true) (k : OpP P o ρ h v)
    (next : RWD P D n ops (i + 1) ((d, v) :: ρ) h N X) : RWD P D n ops i ρ h N X := RWD.opS ho hg hod hd k.toX (fun _ _ ⟨hv, hh⟩ => by subst hv; subst hh; exact next)
theorem RWD.done (hi : Nat.ble ops.size i = true) (next : N ρ h) : RWD P D n ops i ρ h N X := by
  intro B a w hf ha Q hN _
  have : ops.size ≤ i := Nat.le_of_ble_eq_true hi
  rw [List.drop_eq_nil_of_le (by simpa using this)]
  exact hN ρ h a w hf ha next
end

/-- What is left of a body, behind the 'defer'. -/
def GD (P : Program) (D : List Deferred) (f : FuncId) (fn : Func) (k : List It) (ρ : Env) (h : Heap) (R : Ending → Heap → Prop) : Prop :=
  ∀ B a w, FitD D fn.ntmps ρ a → At B h w → ∀ b : Frame, b.fn = f → b.kind = .normal → ∀ cs, ∃ e w' fr h', At B h' w' ∧ R e h' ∧
    Comes P (lone (b.at a (k.map (It.item (bodyOf fn)))) cs w) (lone fr cs w') e ∧ fr.fn = f ∧ fr.leaving P w' e

/-- It leaves in this mode, from these slots. -/
def LeavesH (P : Program) (fn : Func) (D : List Deferred) (u : FrameMode) (ρ : Env) (h : Heap) (R : Ending → Heap → Prop) : Prop :=
  ∀ B a w, FitD D fn.ntmps ρ a → At B h w → Leaves P fn a.tmps (lift B R) D u w

section
variable {P : Program} {D : List Deferred} {f : FuncId} {fn : Func} {k : List It} {ρ : Env} {h : Heap} {R : Ending → Heap → Prop} {p : List Nat}

theorem GD.step {k' : List It} (hs : ∀ (b : Frame) (a : Act) cs w, Go.step P (lone (b.at a (k.map (It.item (bodyOf fn)))) cs w) = .next (lone (b.at a (k'.map (It.item (bodyOf fn)))) cs w))
    (next : GD P D f fn k' ρ h R) : GD P D f fn k ρ h R := by
  intro B a w hf ha b hb hk cs
  obtain ⟨e, w', fr, h', h1, h2, h3, h4, h5⟩ := next B a w hf ha b hb hk cs
  exact ⟨e, w', fr, h', h1, h2, .of_steps (.one (hs b a cs w)) h3, h4, h5⟩

theorem GD.skip (hk : kind (sub (bodyOf fn) p) = 0) (next : GD P D f fn k ρ h R) : GD P D f fn (.code p :: k) ρ h R := by
  refine GD.step (fun b a cs w => ?_) next
  simp only [List.map_cons, It.item]
  cases hc : sub (bodyOf fn) p <;> simp [hc, kind] at hk
  · exact step_skip
  · rename_i d; cases d <;> simp at hk

theorem GD.seq (hk : kind (sub (bodyOf fn) p) = 1) (next : GD P D f fn (.code (0 :: p) :: .code (1 :: p) :: k) ρ h R) : GD P D f fn (.code p :: k) ρ h R := by
  refine GD.step (fun b a cs w => ?_) next
  simp only [List.map_cons, It.item, sub]
  cases hc : sub (bodyOf fn) p <;> simp [hc, kind] at hk
  · rename_i d; cases d <;> simp at hk
  · exact step_seq

theorem GD.sub {ρ' : Env} (hs : Sub ρ' ρ) (next : GD P D f fn k ρ' h R) : GD P D f fn k ρ h R :=
  fun B a w hf ha => next B a w (hf.sub hs) ha

theorem GD.cond {t : Bool} (hk : kind (Lw.sub (bodyOf fn) p) = 7) (hc : opd ρ (condOf (Lw.sub (bodyOf fn) p)) = some (.bool t))
    (ht : t = true → GD P D f fn (.code (0 :: p) :: k) ρ h R) (hn : t = false → GD P D f fn (.code (1 :: p) :: k) ρ h R) : GD P D f fn (.code p :: k) ρ h R := by
  intro B a w hf ha b hb hkk cs
  have hstep : Go.step P (lone (b.at a ((It.code p :: k).map (It.item (bodyOf fn)))) cs w) = .next (lone (b.at a ((It.code ((if t then 0 else 1) :: p) :: k).map (It.item (bodyOf fn)))) cs w) := by
    simp only [List.map_cons, It.item, Lw.sub]
    cases hcc : Lw.sub (bodyOf fn) p <;> simp [hcc, kind] at hk
    · rename_i d; cases d <;> simp at hk
    · rw [hcc] at hc
      refine (step_cond (P := P) (b := b) (a := a) (k := k.map (It.item (bodyOf fn))) (cs := cs) (w := w) (hf.zero.eval hc)).trans ?_
      cases t <;> rfl
  cases t with
  | true =>
    obtain ⟨e, w', fr, h', h1, h2, h3, h4, h5⟩ := ht rfl B a w hf ha b hb hkk cs
    exact ⟨e, w', fr, h', h1, h2, .of_steps (.one hstep) h3, h4, h5⟩
  | false =>
    obtain ⟨e, w', fr, h', h1, h2, h3, h4, h5⟩ := hn rfl B a w hf ha b hb hkk cs
    exact ⟨e, w', fr, h', h1, h2, .of_steps (.one hstep) h3, h4, h5⟩

theorem GD.ite {φ : Prop} [Decidable φ] (hk : kind (Lw.sub (bodyOf fn) p) = 7) (hc : opd ρ (condOf (Lw.sub (bodyOf fn) p)) = some (.bool (decide φ)))
    (ht : φ → GD P D f fn (.code (0 :: p) :: k) ρ h R) (hn : ¬ φ → GD P D f fn (.code (1 :: p) :: k) ρ h R) : GD P D f fn (.code p :: k) ρ h R :=
  GD.cond hk hc (fun e => ht (of_decide_eq_true e)) (fun e => hn (of_decide_eq_false e))

/-- From a frame that leaves with its calls put off. -/
theorem leave_mode {u : FrameMode} {B : World} {a : Act} {w : World} (hfn : P.funcs[f]? = some fn) (hf : FitD D fn.ntmps ρ a) (ha : At B h w) (hL : LeavesH P fn D u ρ h R) (b : Frame) (hb : b.fn = f) (hk : b.kind = .normal) (cs : List Frame) (todo : List Item) :
    ∃ e w' fr h', At B h' w' ∧ R e h' ∧ Comes P (lone { b.at a todo with mode := u } cs w) (lone fr cs w') e ∧ fr.fn = f ∧ fr.leaving P w' e := by
  obtain ⟨e, w', fr, ⟨h', h1, h2⟩, h3, h4, h5⟩ := leaves_steps (P := P) (fn := fn) (tmps := a.tmps) (R := lift B R) D u w { b.at a todo with mode := u } cs rfl hf.nd rfl (by rw [show ({ b.at a todo with mode := u } : Frame).fn = f from hb]; exact hfn) hk (hL B a w hf ha)
  exact ⟨e, w', fr, h', h1, h2, h3, h4.trans hb, h5⟩

theorem GD.reg (hfn : P.funcs[f]? = some fn) (hk : kind (Lw.sub (bodyOf fn) p) = 5)
    (next : RWD P D fn.ntmps (opsOf (Lw.sub (bodyOf fn) p)) 0 ρ h (fun ρ' h' => GD P D f fn k ρ' h' R) (fun ch ρ' h' => LeavesH P fn D (.panicking ch) ρ' h' R)) : GD P D f fn (.code p :: k) ρ h R := by
  intro B a w hf ha b hb hkk cs
  cases hc : Lw.sub (bodyOf fn) p <;> simp [hc, kind] at hk
  rename_i id ops d
  cases d <;> simp at hk
  rw [hc] at next
  let Q : Exit → Act → World → Prop := fun e a' w' => match e with
      | .normal => ∃ ρ' h', FitD D fn.ntmps ρ' a' ∧ At B h' w' ∧ GD P D f fn k ρ' h' R
      | .panic ch => ∃ ρ' h', FitD D fn.ntmps ρ' a' ∧ At B h' w' ∧ LeavesH P fn D (.panicking ch) ρ' h' R
      | _ => False
  have hw : (Code.region id ops false).wp P Q a w := wp_region (by
    have := next B a w hf ha Q (fun ρ' h' a' w' f' a'' hn => ⟨ρ', h', f', a'', hn⟩) (fun ch ρ' h' a' w' f' a'' hx => ⟨ρ', h', f', a'', hx⟩)
    simpa [opsOf] using this)
  obtain ⟨e, a', w', hq, harr⟩ := hw b (k.map (It.item (bodyOf fn))) cs
  have hit : (It.code p :: k).map (It.item (bodyOf fn)) = Item.code (Code.region id ops false) :: k.map (It.item (bodyOf fn)) := by simp [It.item, hc]
  rw [hit]
  cases e with
  | normal =>
    obtain ⟨ρ', h', f', a'', hg⟩ := hq
    obtain ⟨e, w'', fr, h'', h1, h2, h3, h4, h5⟩ := hg B a' w' f' a'' b hb hkk cs
    exact ⟨e, w'', fr, h'', h1, h2, .of_steps harr h3, h4, h5⟩
  | panic ch =>
    obtain ⟨ρ', h', f', a'', hl⟩ := hq
    obtain ⟨todo, hs⟩ := harr
    obtain ⟨e, w'', fr, h'', h1, h2, h3, h4, h5⟩ := leave_mode hfn f' a'' hl b hb hkk cs todo
    exact ⟨e, w'', fr, h'', h1, h2, .of_steps hs h3, h4, h5⟩
  | exit id => exact hq.elim
  | goto l => exact hq.elim
  | ret => exact hq.elim
  | outgrown => exact hq.elim

theorem GD.ret (hfn : P.funcs[f]? = some fn) (hk : kind (Lw.sub (bodyOf fn) p) = 4) (hL : LeavesH P fn D .returning ρ h R) : GD P D f fn (.code p :: k) ρ h R := by
  intro B a w hf ha b hb hkk cs
  have hstep : Go.step P (lone (b.at a ((It.code p :: k).map (It.item (bodyOf fn)))) cs w) = .next (lone { b.at a ((It.code p :: k).map (It.item (bodyOf fn))) with mode := .returning } cs w) := by
    simp only [List.map_cons, It.item]
    cases hc : Lw.sub (bodyOf fn) p <;> simp [hc, kind] at hk
    · rename_i d; cases d <;> simp at hk
    · exact step_ret
  obtain ⟨e, w'', fr, h'', h1, h2, h3, h4, h5⟩ := leave_mode hfn hf ha hL b hb hkk cs ((It.code p :: k).map (It.item (bodyOf fn)))
  exact ⟨e, w'', fr, h'', h1, h2, .of_steps (.one hstep) h3, h4, h5⟩

/-- A closure is made and put off, in a region of these two operations. -/
theorem G.defer1 {o1 o2 : Oper} {g : FuncId} {caps : List Value} {xs : Array Operand} {d : Nat} (_hfn : P.funcs[f]? = some fn) (hk : kind (Lw.sub (bodyOf fn) p) = 5) (hops : opsOf (Lw.sub (bodyOf fn) p) = #[o1, o2])
    (h1 : o1.op = .makeFunc (.func g) #[] xs) (hg1 : o1.guard = none) (hd1 : o1.dst = some d) (hdn : Nat.blt d fn.ntmps = true) (hx : xs.toList.map (opd ρ) = caps.map some)
    (hnd : ρ.at d = none) (h2 : o2.op = .defer ⟨.value (.tmp d), #[], #[]⟩) (hg2 : o2.guard = none) (hd2 : o2.dst = none)
    (next : GD P [{ target := .fn (.func g) caps.toArray, args := #[] }] f fn k ρ h R) : G P f fn (.code p :: k) ρ h R := by
  intro B a w hf ha b hb hkk cs
  cases hc : Lw.sub (bodyOf fn) p <;> simp [hc, kind] at hk
  rename_i id ops dr
  cases dr <;> simp at hk
  rw [hc] at hops
  have hops' : ops = #[o1, o2] := hops
  subst hops'
  let D : List Deferred := [{ target := .fn (.func g) caps.toArray, args := #[] }]
  let Q : Exit → Act → World → Prop := fun e a' w' => match e with
      | .normal => FitD D fn.ntmps ρ a' ∧ At B h w'
      | _ => False
  have hargs : xs.map a.eval = caps.toArray := by
    apply Array.ext'
    simp only [Array.toList_map]
    have key : ∀ (l : List Operand) (us : List Value), l.map (opd ρ) = us.map some → l.map a.eval = us := by
      intro l
      induction l with
      | nil => intro us hu; cases us <;> simp_all
      | cons x r ih =>
        intro us hu
        cases us with
        | nil => simp at hu
        | cons u us =>
          simp only [List.map_cons, List.cons.injEq] at hu ⊢
          exact ⟨hf.eval hu.1, ih us hu.2⟩
    exact key _ _ hx
  have hlt : d < a.tmps.size := by rw [hf.size]; exact Nat.blt_eq.mp hdn
  have hget : ∀ v, (a.tmps.setIfInBounds d v).getD d undef = v := fun v => by
    rw [Array.getD_eq_getD_getElem?, Array.getElem?_setIfInBounds_self_of_lt hlt]; rfl
  have hw : (Code.region id #[o1, o2] false).wp P Q a w := wp_region (by
    show wpOps P #[o1, o2] Q [0, 1] a w
    simp only [wpOps, List.getElem?_toArray, List.getElem?_cons_zero, List.getElem?_cons_succ]
    rw [show Region.wanted o1 (yielded #[o1, o2] a.tmps) = true by unfold Region.wanted; rw [hg1], if_pos rfl]
    refine .inl ?_
    unfold Oper.wp
    rw [show (execOp a.eval o1).run P w = .ok (.value (.func (.func g) #[] caps.toArray)) w by simp [execOp, h1, Instr.makeFunc, hargs]]
    simp only [Oper.upon, hd1, Act.put]
    rw [show ∀ t, Region.wanted o2 (yielded #[o1, o2] t) = true from fun t => by unfold Region.wanted; rw [hg2], if_pos rfl]
    refine .inl ?_
    try unfold Oper.wp
    rw [show (execOp (Act.eval { a with tmps := a.tmps.setIfInBounds d (.func (.func g) #[] caps.toArray) }) o2).run P w = .ok (.defer { target := .fn (.func g) caps.toArray, args := #[] }) w by
      simp [execOp, h2, resolve, Act.eval, hget, Deferred.ofValue]]
    simp only [hd2]
    have hput := hf.put (dst := some d) hdn (.func (.func g) #[] caps.toArray)
    exact ⟨⟨hput.size, fun i v hi => by
      by_cases e : d = i
      · subst e; rw [hnd] at hi; cases hi
      · have := hf.ok i v hi
        rw [Array.getElem?_setIfInBounds_ne e]; exact this, by rw [hf.nd]⟩, ha⟩)
  obtain ⟨e, a', w', hq, harr⟩ := hw b (k.map (It.item (bodyOf fn))) cs
  have hit : (It.code p :: k).map (It.item (bodyOf fn)) = Item.code (Code.region id #[o1, o2] false) :: k.map (It.item (bodyOf fn)) := by simp [It.item, hc]
  rw [hit]
  cases e with
  | normal =>
    obtain ⟨f', a''⟩ := hq
    obtain ⟨e, w'', fr, h'', h1, h2, h3, h4, h5⟩ := next B a' w' f' a'' b hb hkk cs
    exact ⟨e, w'', fr, h'', h1, h2, .of_steps harr h3, h4, h5⟩
  | panic ch => exact hq.elim
  | exit id => exact hq.elim
  | goto l => exact hq.elim
  | ret => exact hq.elim
  | outgrown => exact hq.elim
end


theorem fits_enter {fn : Func} (vs : List Value) (hle : vs.length ≤ fn.ntmps) : Fits fn.ntmps (argEnv 0 vs) { tmps := vs.toArray ++ Array.replicate (fn.ntmps - vs.toArray.size) undef, defers := [] } := by
  refine ⟨by simp; omega, fun i v hi => ?_, rfl⟩
  obtain ⟨_, h2⟩ := argEnv_at vs 0 i v hi
  have hlt : i < vs.length := by
    rcases Nat.lt_or_ge i vs.length with hl | hl
    · exact hl
    · simp [List.getElem?_eq_none hl] at h2
  rw [Array.getElem?_append_left (by simpa using hlt)]
  simpa using h2

/-- A call that was put off, and that asks for the panic first. -/
theorem callsD_recover {P : Program} {g : FuncId} {fn : Func} {vs : List Value} {id : Nat} {o1 o2 : Oper} {rest : Code} {v : Value} {u u' : FrameMode} {d1 d2 : Nat} {ts : Array TypeId} {w : World} {R : Ending → FrameMode → World → Prop}
    (hfn : P.funcs[g]? = some fn) (hb : fn.body = some (.seq (.region id #[o1, o2] false) rest)) (hn : Nat.ble vs.length fn.ntmps = true)
    (h1 : o1.op = .call ⟨.builtin .recover, #[], ts⟩) (hg1 : o1.guard = none) (hd1 : o1.dst = some d1) (hl1 : Nat.blt d1 fn.ntmps = true)
    (h2 : o2.op = .assign (.tmp d1)) (hg2 : o2.guard = none) (hd2 : o2.dst = some d2) (hl2 : Nat.blt d2 fn.ntmps = true)
    (hrec : ∀ (c₀ : Frame) (cs : List Frame), c₀.mode = u → recoverD (c₀ :: cs) = some (v, { c₀ with mode := u' } :: cs) ∨ (recoverD (c₀ :: cs) = none ∧ v = .nilIface ∧ u' = u))
    (hw : ∀ a, Fits fn.ntmps ((d2, v) :: (d1, v) :: argEnv 0 vs) a → rest.wp P (fun e a' w' => match e with
      | .normal | .ret => a'.defers = [] ∧ ∃ r, (results fn a'.tmps).run P w' = .ok r w' ∧ R (.returned r) u' w'
      | _ => False) a w) : CallsD P g vs.toArray u w R := by
  refine callsD_of_wpS hfn hb fun c₀ cs hu => ?_
  have hf0 := fits_enter (fn := fn) vs (Nat.le_of_ble_eq_true hn)
  generalize ({ tmps := vs.toArray ++ Array.replicate (fn.ntmps - vs.toArray.size) undef, defers := [] } : Act) = a0 at hf0
  refine wpS_seq (wpS_region ?_)
  show wpOpsS P #[o1, o2] _ [0, 1] a0 (c₀ :: cs) w
  simp only [wpOpsS, List.getElem?_toArray, List.getElem?_cons_zero, List.getElem?_cons_succ]
  rw [show Region.wanted o1 (yielded #[o1, o2] a0.tmps) = true by unfold Region.wanted; rw [hg1], if_pos rfl]
  rw [show (execOp a0.eval o1).run P w = .ok .recover w by simp [execOp, h1, resolve, invoke, builtin]]
  have hf1 := hf0.put (dst := some d1) hl1 v
  have hf2 := hf1.put (dst := some d2) hl2 v
  have hwf := hw _ hf2
  have hrun : (execOp (a0.put (some d1) v).eval o2).run P w = .ok (.value v) w := by
    have he : (a0.put (some d1) v).eval (.tmp d1) = v := hf1.eval (x := .tmp d1) (by simp [opd, Env.put, Env.at_cons])
    simp [execOp, h2, he]
  have fin : ∀ (cs' : List Frame), cs' = { c₀ with mode := u' } :: cs → rest.wpS P (bodyPostS P fn c₀ cs R) ((a0.put (some d1) v).put (some d2) v) cs' w := by
    intro cs' hcs
    refine wpS_of_wp ?_
    intro b k cs2
    obtain ⟨e, a', w', hq, harr⟩ := hwf b k cs2
    refine ⟨e, a', w', ?_, harr⟩
    cases e with
    | normal => obtain ⟨q1, r, q2, q3⟩ := hq; exact ⟨q1, u', hcs, r, q2, q3⟩
    | ret => obtain ⟨q1, r, q2, q3⟩ := hq; exact ⟨q1, u', hcs, r, q2, q3⟩
    | panic ch => exact hq.elim
    | exit id => exact hq.elim
    | goto l => exact hq.elim
    | outgrown => exact hq.elim
  rcases hrec c₀ cs hu with hr | ⟨hr, rfl, rfl⟩
  · simp only [hr, hd1]
    rw [show ∀ t, Region.wanted o2 (yielded #[o1, o2] t) = true from fun t => by unfold Region.wanted; rw [hg2], if_pos rfl]
    rw [hrun]
    simp only [Oper.upon, hd2]
    exact fin _ rfl
  · simp only [hr, hd1]
    rw [show ∀ t, Region.wanted o2 (yielded #[o1, o2] t) = true from fun t => by unfold Region.wanted; rw [hg2], if_pos rfl]
    rw [hrun]
    simp only [Oper.upon, hd2]
    refine fin _ ?_
    cases c₀
    simp only at hu
    subst hu
    rfl

theorem run_invoke_fn {P : Program} {g : FuncId} {fn : Func} {caps : Array Value} {w : World} (hfn : P.funcs[g]? = some fn) (hb : fn.body.isSome = true) (hnm : (fn.name == "runtime.NumGoroutine") = false) : (invoke (.fn (.func g) caps) #[]).run P w = .ok (.enter g caps) w := by
  have hb' : fn.body ≠ none := by intro hbb; simp [hbb] at hb
  have hnm' : ¬ fn.name = "runtime.NumGoroutine" := by simpa using hnm
  simp [invoke, callFunc, hfn, hnm', hb']

theorem OpP.typeAssertHit {P : Program} {ρ : Env} {h : Heap} {dst : Option Nat} {ty : TypeId} {pos : String} {after : Array Edge} {guard : Option (Nat × Bool)} {t xt : TypeId} {fs : Array Field} {x : Operand} {v : Value} (hu : P.underlying t = some (.struct fs)) (hx : opd ρ x = some (.iface t v)) :
    OpP P ⟨dst, .typeAssert x xt t false, ty, pos, after, guard⟩ ρ h v := by
  intro n B a w hf ha
  simp [execOp, Instr.typeAssert, run_underlying hu, hf.eval hx]

end Go.Lw

/- The rule of a text. -/
namespace Go.Proofs.YtlegopbpofofgaaDoor
open Go Go.Lw Go.RowKit
set_option maxRecDepth 20000

abbrev zeroN : List Value := ndC 0 0 (.slice none 0 0)

/-- The deferred call, behind a panic of the reader's. -/
theorem catch_none {h : Heap} {nb eb : Nat} {cs : List Value} {v0 : Value} (hcs : cs.length = 6) (hk : Blk h nb 85 cs) (he : Blk h eb 25 [v0]) (hne : nb ≠ eb) (B w : World) (ha : At B h w) :
    CallsD Tryd.prog 58 #[.pointer (some ⟨nb, 0, none⟩), .pointer (some ⟨eb, 0, none⟩)] (.panicking [{ v := noneV, recovered := false }]) w fun e u' w' =>
      (∃ r, e = .returned r) ∧ u' = .panicking [{ v := noneV, recovered := true }] ∧ ∃ h', At B h' w' ∧ Blk h' nb 85 zeroN ∧ Blk h' eb 25 [.int .i64 10] ∧ Ext (fun b => b = nb ∨ b = eb) h h' := by
  refine callsD_recover (v := noneV) (vs := [.pointer (some ⟨nb, 0, none⟩), .pointer (some ⟨eb, 0, none⟩)]) (u' := .panicking [{ v := noneV, recovered := true }]) Tryd.func58 rfl rfl rfl rfl rfl rfl rfl rfl rfl rfl (fun c₀ cs hu => .inl (by simp [recoverD, hu])) (fun a hf => ?_)
  refine wp_seq (wp_region ?_)
  refine (show RW Tryd.prog Tryd.f58.ntmps _ 0 _ h (fun ρ' h' => h' = h ∧ Sub [(5, .bool true), (2, noneV), (0, .pointer (some ⟨nb, 0, none⟩)), (1, .pointer (some ⟨eb, 0, none⟩))] ρ') (fun _ _ => False) from ?_) B a w hf ha _ ?_ (fun _ _ _ _ _ _ k => k.elim)
  · refine RW.pureS rfl rfl rfl rfl (OpP.move rfl) ?_
    refine RW.pureS rfl rfl rfl rfl (OpP.neqIface Tryd.underlying20 rfl (.inr ⟨_, _, rfl⟩)) ?_
    exact RW.done rfl ⟨rfl, rfl, rfl, rfl, rfl, trivial⟩
  rintro ρ' h' a1 w1 hf1 ha1 ⟨rfl, hsub⟩
  have hf1 := hf1.sub hsub
  refine wp_cond_true (hf1.eval (x := .tmp 5) rfl) ?_
  refine wp_seq (wp_region ?_)
  refine (show RW Tryd.prog Tryd.f58.ntmps _ 0 _ h' (fun ρ' g => g = h' ∧ Sub [(0, .pointer (some ⟨nb, 0, none⟩)), (1, .pointer (some ⟨eb, 0, none⟩))] ρ') (fun _ _ => False) from ?_) B a1 w1 hf1 ha1 _ ?_ (fun _ _ _ _ _ _ k => k.elim)
  · refine RW.pureS rfl rfl rfl rfl (OpP.move rfl) ?_
    refine RW.pureS rfl rfl rfl rfl (OpP.typeAssertHit Tryd.underlying112 rfl) ?_
    exact RW.done rfl ⟨rfl, rfl, rfl, trivial⟩
  rintro ρ'' h'' a2 w2 hf2 ha2 ⟨rfl, hsub2⟩
  have hf2 := hf2.sub hsub2
  refine wp_region ?_
  refine (show RW Tryd.prog Tryd.f58.ntmps _ 0 _ h'' (fun _ g => Blk g nb 85 zeroN ∧ Blk g eb 25 [.int .i64 10] ∧ Ext (fun b => b = nb ∨ b = eb) h'' g) (fun _ _ => False) from ?_) B a2 w2 hf2 ha2 _ ?_ (fun _ _ _ _ _ _ k => k.elim)
  · refine RW.pureS rfl rfl rfl rfl (OpP.build (H.bd85_ ) rfl) ?_
    refine RW.op0 rfl rfl rfl (OpX.storeBlk H.sz85 rfl rfl hk rfl (by rw [hcs]; decide) (by first | decide | simp [Value.oneCell'])) ?_
    rintro _ h3 ⟨rfl, hk3, hx3, hz3⟩
    have hk3 : Blk h3 nb 85 zeroN := by
      rw [over_all (by rw [hcs]; rfl)] at hk3; exact hk3
    refine RW.op0 rfl rfl rfl (OpX.storeOne H.sz25 rfl rfl (he.ext hx3 (fun e => hne e.symm)) (by simp) rfl) ?_
    rintro _ h4 ⟨rfl, hk4, hx4, hz4⟩
    exact RW.done rfl ⟨hk3.ext hx4 (fun e => hne e), hk4, (hx3.mono fun _ _ k => .inl k).trans (hx4.mono fun _ _ k => .inr k)⟩
  rintro _ h5 a5 w5 hf5 ha5 ⟨hq1, hq2, hq3⟩
  exact ⟨hf5.nd, _, results_all hf5 ha5 .nil, ⟨_, rfl⟩, rfl, h5, ha5, hq1, hq2, hq3⟩

/-- .. and behind nothing. -/
theorem catch_idle {h : Heap} {nb eb : Nat} (B w : World) (ha : At B h w) :
    CallsD Tryd.prog 58 #[.pointer (some ⟨nb, 0, none⟩), .pointer (some ⟨eb, 0, none⟩)] .returning w fun e u' w' => (∃ r, e = .returned r) ∧ u' = .returning ∧ At B h w' := by
  refine callsD_recover (v := .nilIface) (vs := [.pointer (some ⟨nb, 0, none⟩), .pointer (some ⟨eb, 0, none⟩)]) (u' := .returning) Tryd.func58 rfl rfl rfl rfl rfl rfl rfl rfl rfl rfl (fun c₀ cs hu => .inr ⟨by simp [recoverD, hu], rfl, rfl⟩) (fun a hf => ?_)
  refine wp_seq (wp_region ?_)
  refine (show RW Tryd.prog Tryd.f58.ntmps _ 0 _ h (fun ρ' h' => h' = h ∧ Sub [(5, .bool false)] ρ') (fun _ _ => False) from ?_) B a w hf ha _ ?_ (fun _ _ _ _ _ _ k => k.elim)
  · refine RW.pureS rfl rfl rfl rfl (OpP.move rfl) ?_
    refine RW.pureS rfl rfl rfl rfl (OpP.neqIface Tryd.underlying20 rfl (.inl rfl)) ?_
    exact RW.done rfl ⟨rfl, rfl, trivial⟩
  rintro ρ' h' a1 w1 hf1 ha1 ⟨rfl, hsub⟩
  have hf1 := hf1.sub hsub
  refine wp_cond_false (hf1.eval (x := .tmp 5) rfl) (wp_skip ?_)
  exact ⟨hf1.nd, _, results_all hf1 ha1 .nil, ⟨_, rfl⟩, rfl, ha1⟩

theorem leave_none {h : Heap} {nb eb : Nat} {cs : List Value} {v0 : Value} {ρ : Env} {R : Ending → Heap → Prop} (h2 : ρ.at 2 = some (.pointer (some ⟨nb, 0, none⟩))) (h3 : ρ.at 3 = some (.pointer (some ⟨eb, 0, none⟩))) (hcs : cs.length = 6) (hk : Blk h nb 85 cs) (he : Blk h eb 25 [v0]) (hne : nb ≠ eb)
    (hR : ∀ h', Ext (fun b => b = nb ∨ b = eb) h h' → R (.returned (.tuple #[.agg zeroN.toArray, .int .i64 10])) h') :
    LeavesH Tryd.prog Tryd.f39 [{ target := .fn (.func 58) #[.pointer (some ⟨nb, 0, none⟩), .pointer (some ⟨eb, 0, none⟩)], args := #[] }] (.panicking [{ v := noneV, recovered := false }]) ρ h R := by
  intro B a w hf ha
  refine leaves_cons (f := 58) (args := #[.pointer (some ⟨nb, 0, none⟩), .pointer (some ⟨eb, 0, none⟩)]) (by simp) (run_invoke_fn Tryd.func58 rfl (by decide +kernel)) ?_
  refine (catch_none hcs hk he hne B w ha).mono ?_
  rintro e u' w' ⟨⟨r, rfl⟩, rfl, h', ha', hk', he', hx'⟩
  refine ⟨_, results_all hf.zero ha' (.cons (ResOk.rowN H.ag85 H.sz85 h2 hk'.row rfl) (.cons (ResOk.cell H.ag25 h3 (he'.cell (i := 0) rfl)) .nil)), h', ha', hR h' hx'⟩

theorem leave_idle {h : Heap} {nb eb : Nat} {x : Nd} {w0 : Value} {e0 : Int} {ρ : Env} {R : Ending → Heap → Prop} (h2 : ρ.at 2 = some (.pointer (some ⟨nb, 0, none⟩))) (h3 : ρ.at 3 = some (.pointer (some ⟨eb, 0, none⟩))) (hk : Blk h nb 85 (ndC x.kind x.set w0)) (he : Blk h eb 25 [.int .i64 e0])
    (hR : R (.returned (.tuple #[.agg (ndC x.kind x.set w0).toArray, .int .i64 e0])) h) :
    LeavesH Tryd.prog Tryd.f39 [{ target := .fn (.func 58) #[.pointer (some ⟨nb, 0, none⟩), .pointer (some ⟨eb, 0, none⟩)], args := #[] }] .returning ρ h R := by
  intro B a w hf ha
  refine leaves_cons (f := 58) (args := #[.pointer (some ⟨nb, 0, none⟩), .pointer (some ⟨eb, 0, none⟩)]) (by simp) (run_invoke_fn Tryd.func58 rfl (by decide +kernel)) ?_
  refine (catch_idle B w ha).mono ?_
  rintro e u' w' ⟨⟨r, rfl⟩, rfl, ha'⟩
  refine ⟨_, results_all hf.zero ha' (.cons (ResOk.rowN H.ag85 H.sz85 h2 hk.row rfl) (.cons (ResOk.cell H.ag25 h3 (he.cell (i := 0) rfl)) .nil)), h, ha', hR⟩

/-- What Parse hands back. -/
def ParseV (h h' : Heap) (s : By) (r : Value) : Prop := ∃ w, r = .tuple #[.agg (ndC (parseE s).1.kind (parseE s).1.set w).toArray, .int .i64 (parseE s).2] ∧ NdAt h' (blw h.size) (ndC (parseE s).1.kind (parseE s).1.set w) (parseE s).1

theorem parse_calls {h : Heap} {lim : Nat} (hg : Sg h lim) (hlim : lim ≤ h.size) (s : By) (hs : s.length ≤ 1000000) : CallsH Tryd.prog 39 #[.string (bs s)] h (Ret fun r h' => ParseV h h' s r ∧ Ext0 h h') := by
  have hsz := bs_size s
  refine CallsH.of Tryd.func39 rfl rfl ?_
  refine G.seq rfl ?_
  refine G.reg Tryd.func39 rfl ?_
  refine RW.opS rfl rfl rfl rfl (OpX.allocN H.zr85) ?_
  rintro _ h1 ⟨rfl, hk1, he1, hz1⟩
  refine RW.opS rfl rfl rfl rfl (OpX.allocN H.zr25) ?_
  rintro _ h2 ⟨rfl, hk2, he2, hz2⟩
  refine RW.done rfl ?_
  refine G.sub (ρ' := [(0, _), (2, _), (3, _)]) ⟨rfl, rfl, rfl, trivial⟩ ?_
  refine G.seq rfl ?_
  refine G.seq rfl ?_
  refine G.reg Tryd.func39 rfl ?_
  refine RW.pureS rfl rfl rfl rfl (OpP.move rfl) ?_
  refine RW.pureS rfl rfl rfl rfl (OpP.lenString Tryd.underlying9 rfl) ?_
  refine RW.pureS rfl rfl rfl rfl (OpP.gtr rfl rfl) ?_
  refine RW.done rfl ?_
  refine G.sub (ρ' := [(0, _), (2, _), (3, _), (7, _)]) ⟨rfl, rfl, rfl, rfl, trivial⟩ ?_
  have hk1 : Blk h1 h.size 85 zeroN := hk1
  have hk2 : Blk h2 h1.size 25 [.int .i64 0] := hk2
  have hk12 := hk1.ext0 he2
  have e2 := he1.trans he2
  refine G.ite rfl rfl (fun hbig => ?_) (fun hbig => ?_)
  · have hE : parseE s = (emptyNd, 3) := by unfold parseE; rw [if_pos (by omega)]
    refine G.seq rfl ?_
    refine G.reg Tryd.func39 rfl ?_
    refine RW.pureS rfl rfl rfl rfl (OpP.build (H.bd85_ ) rfl) ?_
    refine RW.op0 rfl rfl rfl (OpX.storeBlk H.sz85 rfl rfl hk12 rfl (by first | decide | exact of_decide_eq_true rfl | (simp; done) | (simp; omega)) (by first | decide | simp [Value.oneCell'])) ?_
    rintro _ h3 ⟨rfl, hk3, hx3, hz3⟩
    refine RW.op0 rfl rfl rfl (OpX.storeOne H.sz25 rfl rfl (hk2.ext hx3 (by show ¬ _ = _; omega)) (by first | decide | exact of_decide_eq_true rfl | (simp; done) | (simp; omega)) rfl) ?_
    rintro _ h4 ⟨rfl, hk4, hx4, hz4⟩
    refine RW.done rfl ?_
    refine G.sub (ρ' := [(0, _), (2, _), (3, _), (7, _)]) ⟨rfl, rfl, rfl, rfl, trivial⟩ ?_
    have hk3 : Blk h3 h.size 85 zeroN := hk3
    have hk4 : Blk h4 h1.size 25 [.int .i64 3] := hk4
    refine G.retC Tryd.func39 rfl (.cons (ResOk.rowN H.ag85 H.sz85 rfl ((hk3.ext hx4 (by show ¬ _ = _; omega)).row) (by first | rfl | simp)) (.cons (ResOk.cell H.ag25 rfl (hk4.cell (i := 0) rfl)) (.nil))) ?_
    refine ⟨_, rfl, ⟨.slice none 0 0, by rw [hE]; rfl, by rw [hE]; exact NdAt.leaf _ _ 0 0⟩, Ext0.only (Ext0.only e2 hx3 (Nat.le_refl _)) hx4 (by omega)⟩
  · refine G.skip rfl ?_
    refine G.seq rfl ?_
    refine G.defer1 (caps := [.pointer (some ⟨h.size, 0, none⟩), .pointer (some ⟨h1.size, 0, none⟩)]) Tryd.func39 rfl rfl rfl rfl rfl rfl rfl rfl rfl rfl rfl ?_
    have hE : parseE s = match parseP s with | some x => (x, 0) | none => (emptyNd, 10) := by unfold parseE; rw [if_neg (by omega)]; rfl
    refine GD.seq rfl ?_
    refine GD.reg Tryd.func39 rfl ?_
    refine RWD.pureS rfl rfl rfl rfl (OpP.move rfl) ?_
    refine RWD.pureS rfl rfl rfl rfl (OpP.build (H.bd115_0 _) rfl) ?_
    refine RWD.opS rfl rfl rfl rfl (OpX.boxN rfl) ?_
    rintro _ h3 ⟨rfl, hk3, he3, hz3⟩
    refine RWD.pureS rfl rfl rfl rfl (OpP.assign rfl) ?_
    refine RWD.done rfl ?_
    refine GD.sub (ρ' := [(0, _), (2, _), (3, _), (4, _), (7, _)]) ⟨rfl, rfl, rfl, rfl, rfl, trivial⟩ ?_
    refine GD.seq rfl ?_
    refine GD.reg Tryd.func39 rfl ?_
    refine RWD.pureS rfl rfl rfl rfl (OpP.move rfl) ?_
    have hk3 : Blk h3 h2.size 115 [.string (bs s)] := hk3
    have hg3 : Sg h3 lim := hg.ext (e2.trans he3) (fun _ k => k.elim)
    have hrows := rows_ok lim (s.length + 1) h3 h2.size s hg3 (by omega) hk3 (Nat.lt_succ_self _) hs
    have hk13 := hk12.ext0 he3
    have hk23 := hk2.ext0 he3
    have e3 := e2.trans he3
    refine RWD.opS rfl rfl rfl rfl (OpX.call (vs := [_]) Tryd.func59 rfl H.nm59 rfl (CallsH.toXP (hrows) ((fun _ h' ⟨hc, hp, hx⟩ => by rw [hc]; exact leave_none rfl rfl rfl (hk13.ext hx (by show ¬ _ = _; omega)) (hk23.ext hx (by show ¬ _ = _; omega)) (by omega) (fun h'' hx2 => ⟨_, rfl, ⟨.slice none 0 0, by rw [hE]; unfold parseP; rw [hp]; rfl, by rw [hE]; unfold parseP; rw [hp]; exact NdAt.leaf _ _ 0 0⟩, ⟨by have := hx.size; have := hx2.size; have := e3.size; omega, fun b hb _ => by rw [hx2.block b (by have := hx.size; omega) (by omega), hx.block b (by omega) (by show ¬ _ = _; omega)]; exact e3.block b hb (fun k => k)⟩⟩))))) ?_
    rintro _ h4 ⟨x, r, hp, ⟨w, rfl, hnd⟩, hs4, hx4⟩
    have hz4 := hx4.size
    have hk14 := hk13.ext hx4 (by show ¬ _ = _; omega)
    have hk24 := hk23.ext hx4 (by show ¬ _ = _; omega)
    have e4 : Ext0 h h4 := Ext0.only e3 hx4 (by omega)
    refine RWD.op0 rfl rfl rfl (OpX.storeBlk H.sz85 rfl rfl hk14 rfl (by first | decide | exact of_decide_eq_true rfl | (simp; done) | (simp; omega)) (NdAt.one hnd)) ?_
    rintro _ h5 ⟨rfl, hk5, hx5, hz5⟩
    refine RWD.done rfl ?_
    refine GD.sub (ρ' := [(0, _), (2, _), (3, _), (4, _), (7, _)]) ⟨rfl, rfl, rfl, rfl, rfl, trivial⟩ ?_
    refine GD.seq rfl ?_
    refine GD.seq rfl ?_
    refine GD.reg Tryd.func39 rfl ?_
    refine RWD.pureS rfl rfl rfl rfl (OpP.move rfl) ?_
    refine RWD.pureS rfl rfl rfl rfl (OpP.nilCheck rfl) ?_
    refine RWD.pureS rfl rfl rfl rfl (OpP.fieldAddr (off := 0) Tryd.underlying115 rfl rfl H.sz9 rfl) ?_
    have hk5 : Blk h5 h.size 85 (ndC x.kind x.set w) := hk5
    have hk25 := hk24.ext hx5 (by show ¬ _ = _; omega)
    have hs5 : St h5 h2.size r := Blk.ext hs4 hx5 (by show ¬ _ = _; omega)
    have hnd5 : NdAt h5 (blw h3.size) (ndC x.kind x.set w) x := NdAt.low hnd (Nat.le_refl _) hx5 (fun b _ (hb : b = h.size) => by omega)
    have e5 := Ext0.only e4 hx5 (Nat.le_refl _)
    refine RWD.pureS rfl rfl rfl rfl (OpP.load H.ag9 rfl hs5.cell) ?_
    refine RWD.pureS rfl rfl rfl rfl (OpP.neqStr rfl rfl) ?_
    refine RWD.done rfl ?_
    refine GD.sub (ρ' := [(0, _), (2, _), (3, _), (4, _), (7, _), (19, _)]) ⟨rfl, rfl, rfl, rfl, rfl, rfl, trivial⟩ ?_
    refine GD.ite rfl rfl (fun hr => ?_) (fun hr => ?_)
    · have hr : r ≠ [] := fun e => hr (by rw [e]; rfl)
      have hpn : parseP s = none := by
        unfold parseP; rw [hp]
        cases r with
        | nil => exact absurd rfl hr
        | cons c t => rfl
      refine GD.reg Tryd.func39 rfl ?_
      refine RWD.pureS rfl rfl rfl rfl (OpP.build (H.bd112_ ) rfl) ?_
      refine RWD.pureS rfl rfl rfl rfl (OpP.makeInterface H.cn112 rfl) ?_
      refine RWD.op0 rfl rfl rfl (OpX.panic (Φ := fun _ _ => False) rfl (leave_none rfl rfl rfl hk5 hk25 (by omega) (fun h'' hx2 => ⟨_, rfl, ⟨.slice none 0 0, by rw [hE, hpn]; rfl, by rw [hE, hpn]; exact NdAt.leaf _ _ 0 0⟩, ⟨by have := hx2.size; have := e5.size; omega, fun b hb _ => by rw [hx2.block b (by have := e5.size; omega) (by omega)]; exact e5.block b hb (fun k => k)⟩⟩))) ?_
      rintro _ _ hpn
      exact hpn.elim
    · obtain rfl : r = [] := bs_inj (Classical.not_not.1 hr)
      have hpn : parseP s = some x := by unfold parseP; rw [hp]
      refine GD.skip rfl ?_
      refine GD.seq rfl ?_
      refine GD.reg Tryd.func39 rfl ?_
      refine RWD.pureS rfl rfl rfl rfl (OpP.loadRowN H.ag85 H.sz85 rfl hk5.row (by first | rfl | simp)) ?_
      refine RWD.op0 rfl rfl rfl (OpX.storeBlk H.sz85 rfl rfl hk5 rfl (by first | decide | exact of_decide_eq_true rfl | (simp; done) | (simp; omega)) (NdAt.one hnd5)) ?_
      rintro _ h6 ⟨rfl, hk6, hx6, hz6⟩
      refine RWD.op0 rfl rfl rfl (OpX.storeOne H.sz25 rfl rfl (hk25.ext hx6 (by show ¬ _ = _; omega)) (by first | decide | exact of_decide_eq_true rfl | (simp; done) | (simp; omega)) rfl) ?_
      rintro _ h7 ⟨rfl, hk7, hx7, hz7⟩
      refine RWD.done rfl ?_
      refine GD.sub (ρ' := [(0, _), (2, _), (3, _), (4, _), (7, _), (19, _)]) ⟨rfl, rfl, rfl, rfl, rfl, rfl, trivial⟩ ?_
      have hk6 : Blk h6 h.size 85 (ndC x.kind x.set w) := hk6
      have hk7 : Blk h7 h1.size 25 [.int .i64 0] := hk7
      have hk17 := hk6.ext hx7 (by show ¬ _ = _; omega)
      have e7 := Ext0.only (Ext0.only e5 hx6 (Nat.le_refl _)) hx7 (by omega)
      have hnd7 : NdAt h7 (blw h.size) (ndC x.kind x.set w) x := NdAt.low (NdAt.low hnd5 (Nat.le_refl _) hx6 (fun b _ (hb : b = h.size) => by omega)) (by omega) hx7 (fun b _ (hb : b = h1.size) => by omega)
      refine GD.ret Tryd.func39 rfl ?_
      exact leave_idle rfl rfl hk17 hk7 ⟨_, rfl, ⟨w, by rw [hE, hpn], by rw [hE, hpn]; exact hnd7⟩, e7⟩

end Go.Proofs.YtlegopbpofofgaaDoor

/- The document's reader of rules: bytes, letters. -/
namespace Go.Proofs.YtlegopbpofofgaaDoor
open Go Go.Lw
set_option maxRecDepth 20000

theorem specR_calls {h : Heap} (x : UInt8) : CallsH Tryd.prog 93 #[.int .u8 (x.toNat : Nat)] h (Ret fun r h' => r = .bool (decide (x ∈ specialB)) ∧ h' = h) := by
  refine CallsH.of Tryd.func93 rfl rfl ?_
  refine G.seq rfl ?_
  refine G.reg Tryd.func93 rfl ?_
  refine RW.pureS rfl rfl rfl rfl (OpP.assign rfl) ?_
  refine RW.done rfl ?_
  refine G.sub (ρ' := [(0, _), (2, _)]) ⟨rfl, rfl, trivial⟩ ?_
  refine G.seq rfl ?_
  refine G.reg Tryd.func93 rfl ?_
  refine RW.pureS rfl rfl rfl rfl (OpP.assign rfl) ?_
  refine RW.done rfl ?_
  refine G.sub (ρ' := [(0, _), (2, _), (3, _)]) ⟨rfl, rfl, rfl, trivial⟩ ?_
  refine G.seq rfl ?_
  refine G.seq rfl ?_
  refine G.reg Tryd.func93 rfl ?_
  refine RW.pureS rfl rfl rfl rfl (OpP.assign rfl) ?_
  refine RW.done rfl ?_
  refine G.sub (ρ' := [(0, _), (2, _), (3, _), (4, _)]) ⟨rfl, rfl, rfl, rfl, trivial⟩ ?_
  refine G.block rfl rfl ?_
  refine G.loop (σ := Nat) (fun i => [(0, .int .u8 (x.toNat : Nat)), (3, .string (bs specialB)), (4, .int .i64 i)]) (fun i h' => h' = h ∧ i ≤ 12 ∧ x ∉ specialB.take i) (fun i => 12 - i) (0) rfl ⟨rfl, rfl, rfl, trivial⟩ ⟨rfl, by decide, by simp⟩ ?_
  rintro i h1 ⟨rfl, hi, hno⟩ ih
  have hz : (bs specialB).size = 12 := rfl
  refine G.seq rfl ?_
  refine G.seq rfl ?_
  refine G.reg Tryd.func93 rfl ?_
  refine RW.pureS rfl rfl rfl rfl (OpP.move rfl) ?_
  refine RW.pureS rfl rfl rfl rfl (OpP.move rfl) ?_
  refine RW.pureS rfl rfl rfl rfl (OpP.lenString Tryd.underlying9 rfl) ?_
  refine RW.pureS rfl rfl rfl rfl (OpP.lss rfl rfl) ?_
  refine RW.done rfl ?_
  refine G.sub (ρ' := [(0, _), (3, _), (4, _), (8, _)]) ⟨rfl, rfl, rfl, rfl, trivial⟩ ?_
  refine G.ite rfl rfl (fun hlt => ?_) (fun hlt => ?_)
  · have hlt' : i < specialB.length := by show i < 12; omega
    have hat : specialB[i]? = some specialB[i] := List.getElem?_eq_getElem hlt'
    refine G.skip rfl ?_
    refine G.seq rfl ?_
    refine G.block rfl rfl ?_
    refine G.seq rfl ?_
    refine G.reg Tryd.func93 rfl ?_
    refine RW.pureS rfl rfl rfl rfl (OpP.move rfl) ?_
    refine RW.pureS rfl rfl rfl rfl (OpP.move rfl) ?_
    refine RW.pureS rfl rfl rfl rfl (OpP.indexStr Tryd.underlying9 rfl rfl i rfl (bs_at hat)) ?_
    refine RW.pureS rfl rfl rfl rfl (OpP.move rfl) ?_
    refine RW.pureS rfl rfl rfl rfl (OpP.eqlInt rfl rfl) ?_
    refine RW.done rfl ?_
    refine G.sub (ρ' := [(0, _), (3, _), (4, _), (8, _), (15, _)]) ⟨rfl, rfl, rfl, rfl, rfl, trivial⟩ ?_
    refine G.ite rfl rfl (fun he => ?_) (fun he => ?_)
    · have he : specialB[i] = x := (u8_is rfl).1 he
      refine G.seq rfl ?_
      refine G.reg Tryd.func93 rfl ?_
      refine RW.pureS rfl rfl rfl rfl (OpP.assign rfl) ?_
      refine RW.done rfl ?_
      refine G.sub (ρ' := [(0, _), (2, _), (3, _), (4, _), (8, _), (15, _)]) ⟨rfl, rfl, rfl, rfl, rfl, rfl, trivial⟩ ?_
      refine G.ret Tryd.func93 rfl rfl ?_
      exact ⟨_, rfl, by rw [show decide (x ∈ specialB) = true by rw [← he]; simp]; rfl, rfl⟩
    · have he : ¬ specialB[i] = x := fun e => he ((u8_is rfl).2 e)
      refine G.skip rfl ?_
      refine G.blkEnd ?_
      refine G.reg Tryd.func93 rfl ?_
      refine RW.pureS rfl rfl rfl rfl (OpP.move rfl) ?_
      refine RW.pureS rfl rfl rfl rfl (OpP.add64 rfl rfl ⟨by omega, by omega⟩) ?_
      refine RW.pureS rfl rfl rfl rfl (OpP.assign rfl) ?_
      refine RW.done rfl ?_
      refine G.sub (ρ' := [(0, _), (3, _), (4, _), (8, _), (15, _)]) ⟨rfl, rfl, rfl, rfl, rfl, trivial⟩ ?_
      exact ih (i + 1) _ _ ⟨rfl, rfl, rfl, trivial⟩ ⟨rfl, by omega, by rw [List.take_add_one, hat]; simp only [List.mem_append, not_or]; exact ⟨hno, by simp; exact fun e => he e.symm⟩⟩ (by omega)
  · obtain rfl : i = 12 := by omega
    have hno : x ∉ specialB := hno
    refine G.exit rfl rfl ?_
    refine G.seq rfl ?_
    refine G.reg Tryd.func93 rfl ?_
    refine RW.pureS rfl rfl rfl rfl (OpP.assign rfl) ?_
    refine RW.done rfl ?_
    refine G.sub (ρ' := [(0, _), (2, _), (3, _), (4, _), (8, _)]) ⟨rfl, rfl, rfl, rfl, rfl, trivial⟩ ?_
    refine G.ret Tryd.func93 rfl rfl ?_
    exact ⟨_, rfl, by rw [show decide (x ∈ specialB) = false by simp [hno]]; rfl, rfl⟩

def hexI (x : UInt8) : Int := match hexVal x with | some n => n | none => -1
theorem hexI_some {x : UInt8} : (0 ≤ hexI x) ↔ ∃ n, hexVal x = some n ∧ n < 16 ∧ hexI x = n := by
  unfold hexI
  cases hv : hexVal x with
  | none => simp
  | some n => exact ⟨fun _ => ⟨n, rfl, hexVal_lt hv, rfl⟩, fun _ => Int.natCast_nonneg _⟩
theorem hexI_none {x : UInt8} (h : ¬ 0 ≤ hexI x) : hexVal x = none := by
  unfold hexI at h
  cases hv : hexVal x with
  | none => rfl
  | some n => rw [hv] at h; exact absurd (Int.natCast_nonneg n) h

theorem digR_calls {h : Heap} (x : UInt8) : CallsH Tryd.prog 94 #[.int .u8 (x.toNat : Nat)] h (Ret fun r h' => r = .int .i64 (hexI x) ∧ h' = h) := by
  have hx := x.toNat_lt
  refine CallsH.of Tryd.func94 rfl rfl ?_
  refine G.seq rfl ?_
  refine G.reg Tryd.func94 rfl ?_
  refine RW.pureS rfl rfl rfl rfl (OpP.assign rfl) ?_
  refine RW.done rfl ?_
  refine G.sub (ρ' := [(0, _), (2, _)]) ⟨rfl, rfl, trivial⟩ ?_
  refine G.seq rfl ?_
  refine G.seq rfl ?_
  refine G.regTo1 [(8, .bool (decide (48 ≤ x.toNat ∧ x.toNat ≤ 57)))] [(0, _), (2, _)] ⟨rfl, rfl, trivial⟩ Tryd.func94 rfl ?_ ?_
  · refine RW.pureS rfl rfl rfl rfl (OpP.move rfl) ?_
    refine RW.pureS rfl rfl rfl rfl (OpP.geq rfl rfl) ?_
    refine RW.pureS rfl rfl rfl rfl (OpP.move rfl) ?_
    refine RW.split (d := 5) rfl (fun hg => ?_) (fun hg => ?_)
    · refine RW.pureS rfl rfl rfl rfl (OpP.move rfl) ?_
      refine RW.pureS rfl rfl rfl rfl (OpP.leq rfl rfl) ?_
      refine RW.pureS rfl rfl rfl rfl (OpP.pickT rfl rfl) ?_
      refine RW.done rfl ?_
      exact ⟨rfl, at_bool rfl (by have := of_decide_eq_true hg; simp only [decide_eq_decide]; omega), rfl, rfl, trivial⟩
    · refine RW.skipS rfl rfl rfl rfl ?_
      refine RW.skipS rfl rfl rfl rfl ?_
      refine RW.pureS rfl rfl rfl rfl (OpP.pickF rfl rfl) ?_
      refine RW.done rfl ?_
      exact ⟨rfl, at_bool rfl (by have := of_decide_eq_false hg; simp; omega), rfl, rfl, trivial⟩
  · refine G.ite rfl rfl (fun h1 => ?_) (fun h1 => ?_)
    · refine G.seq rfl ?_
      refine G.reg Tryd.func94 rfl ?_
      refine RW.pureS rfl rfl rfl rfl (OpP.move rfl) ?_
      refine RW.pureS rfl rfl rfl rfl (OpP.sub rfl rfl) ?_
      refine RW.pureS rfl rfl rfl rfl (OpP.convIn Tryd.underlying5 Tryd.underlying3 rfl (wrap_i64 ⟨by rw [wrap_u8 (by omega)]; omega, by rw [wrap_u8 (by omega)]; omega⟩)) ?_
      refine RW.pureS rfl rfl rfl rfl (OpP.assign rfl) ?_
      refine RW.done rfl ?_
      refine G.sub (ρ' := [(0, _), (2, _), (8, _)]) ⟨rfl, rfl, rfl, trivial⟩ ?_
      refine G.ret Tryd.func94 rfl rfl ?_
      refine ⟨_, rfl, ?_, rfl⟩
      have : hexVal x = some (x.toNat - 48) := by unfold hexVal; rw [if_pos h1]
      unfold hexI
      rw [this]
      show Value.int _ _ = Value.int _ _
      rw [wrap_u8 (by omega)]; congr 1; simp only; omega
    · refine G.skip rfl ?_
      refine G.seq rfl ?_
      refine G.seq rfl ?_
      refine G.regTo1 [(17, .bool (decide (97 ≤ x.toNat ∧ x.toNat ≤ 102)))] [(0, _), (2, _), (8, _)] ⟨rfl, rfl, rfl, trivial⟩ Tryd.func94 rfl ?_ ?_
      · refine RW.pureS rfl rfl rfl rfl (OpP.move rfl) ?_
        refine RW.pureS rfl rfl rfl rfl (OpP.geq rfl rfl) ?_
        refine RW.pureS rfl rfl rfl rfl (OpP.move rfl) ?_
        refine RW.split (d := 14) rfl (fun hg => ?_) (fun hg => ?_)
        · refine RW.pureS rfl rfl rfl rfl (OpP.move rfl) ?_
          refine RW.pureS rfl rfl rfl rfl (OpP.leq rfl rfl) ?_
          refine RW.pureS rfl rfl rfl rfl (OpP.pickT rfl rfl) ?_
          refine RW.done rfl ?_
          exact ⟨rfl, at_bool rfl (by have := of_decide_eq_true hg; simp only [decide_eq_decide]; omega), rfl, rfl, rfl, trivial⟩
        · refine RW.skipS rfl rfl rfl rfl ?_
          refine RW.skipS rfl rfl rfl rfl ?_
          refine RW.pureS rfl rfl rfl rfl (OpP.pickF rfl rfl) ?_
          refine RW.done rfl ?_
          exact ⟨rfl, at_bool rfl (by have := of_decide_eq_false hg; simp; omega), rfl, rfl, rfl, trivial⟩
      · refine G.ite rfl rfl (fun h2 => ?_) (fun h2 => ?_)
        · have hw : IntKind.u8.wrap ((x.toNat : Int) - 97) = (x.toNat : Int) - 97 := wrap_u8 (by omega)
          refine G.seq rfl ?_
          refine G.reg Tryd.func94 rfl ?_
          refine RW.pureS rfl rfl rfl rfl (OpP.move rfl) ?_
          refine RW.pureS rfl rfl rfl rfl (OpP.sub rfl rfl) ?_
          refine RW.pureS rfl rfl rfl rfl (OpP.convIn Tryd.underlying5 Tryd.underlying3 rfl (wrap_i64 ⟨by rw [hw]; omega, by rw [hw]; omega⟩)) ?_
          refine RW.pureS rfl rfl rfl rfl (OpP.add64 rfl rfl ⟨by rw [hw]; omega, by rw [hw]; omega⟩) ?_
          refine RW.pureS rfl rfl rfl rfl (OpP.assign rfl) ?_
          refine RW.done rfl ?_
          refine G.sub (ρ' := [(0, _), (2, _), (8, _), (17, _)]) ⟨rfl, rfl, rfl, rfl, trivial⟩ ?_
          refine G.ret Tryd.func94 rfl rfl ?_
          refine ⟨_, rfl, ?_, rfl⟩
          have : hexVal x = some (x.toNat - 87) := by unfold hexVal; rw [if_neg h1, if_pos h2]
          unfold hexI
          rw [this]
          show Value.int _ _ = Value.int _ _
          rw [hw]; congr 1; simp only; omega
        · refine G.skip rfl ?_
          refine G.seq rfl ?_
          refine G.seq rfl ?_
          refine G.regTo1 [(27, .bool (decide (65 ≤ x.toNat ∧ x.toNat ≤ 70)))] [(0, _), (2, _), (8, _), (17, _)] ⟨rfl, rfl, rfl, rfl, trivial⟩ Tryd.func94 rfl ?_ ?_
          · refine RW.pureS rfl rfl rfl rfl (OpP.move rfl) ?_
            refine RW.pureS rfl rfl rfl rfl (OpP.geq rfl rfl) ?_
            refine RW.pureS rfl rfl rfl rfl (OpP.move rfl) ?_
            refine RW.split (d := 24) rfl (fun hg => ?_) (fun hg => ?_)
            · refine RW.pureS rfl rfl rfl rfl (OpP.move rfl) ?_
              refine RW.pureS rfl rfl rfl rfl (OpP.leq rfl rfl) ?_
              refine RW.pureS rfl rfl rfl rfl (OpP.pickT rfl rfl) ?_
              refine RW.done rfl ?_
              exact ⟨rfl, at_bool rfl (by have := of_decide_eq_true hg; simp only [decide_eq_decide]; omega), rfl, rfl, rfl, rfl, trivial⟩
            · refine RW.skipS rfl rfl rfl rfl ?_
              refine RW.skipS rfl rfl rfl rfl ?_
              refine RW.pureS rfl rfl rfl rfl (OpP.pickF rfl rfl) ?_
              refine RW.done rfl ?_
              exact ⟨rfl, at_bool rfl (by have := of_decide_eq_false hg; simp; omega), rfl, rfl, rfl, rfl, trivial⟩
          · refine G.ite rfl rfl (fun h3 => ?_) (fun h3 => ?_)
            · have hw : IntKind.u8.wrap ((x.toNat : Int) - 65) = (x.toNat : Int) - 65 := wrap_u8 (by omega)
              refine G.seq rfl ?_
              refine G.reg Tryd.func94 rfl ?_
              refine RW.pureS rfl rfl rfl rfl (OpP.move rfl) ?_
              refine RW.pureS rfl rfl rfl rfl (OpP.sub rfl rfl) ?_
              refine RW.pureS rfl rfl rfl rfl (OpP.convIn Tryd.underlying5 Tryd.underlying3 rfl (wrap_i64 ⟨by rw [hw]; omega, by rw [hw]; omega⟩)) ?_
              refine RW.pureS rfl rfl rfl rfl (OpP.add64 rfl rfl ⟨by rw [hw]; omega, by rw [hw]; omega⟩) ?_
              refine RW.pureS rfl rfl rfl rfl (OpP.assign rfl) ?_
              refine RW.done rfl ?_
              refine G.sub (ρ' := [(0, _), (2, _), (8, _), (17, _), (27, _)]) ⟨rfl, rfl, rfl, rfl, rfl, trivial⟩ ?_
              refine G.ret Tryd.func94 rfl rfl ?_
              refine ⟨_, rfl, ?_, rfl⟩
              have : hexVal x = some (x.toNat - 55) := by unfold hexVal; rw [if_neg h1, if_neg h2, if_pos h3]
              unfold hexI
              rw [this]
              show Value.int _ _ = Value.int _ _
              rw [hw]; congr 1; simp only; omega
            · refine G.skip rfl ?_
              refine G.seq rfl ?_
              refine G.reg Tryd.func94 rfl ?_
              refine RW.pureS rfl rfl rfl rfl (OpP.assign rfl) ?_
              refine RW.done rfl ?_
              refine G.sub (ρ' := [(0, _), (2, _), (8, _), (17, _), (27, _)]) ⟨rfl, rfl, rfl, rfl, rfl, trivial⟩ ?_
              refine G.ret Tryd.func94 rfl rfl ?_
              have : hexVal x = none := by unfold hexVal; rw [if_neg h1, if_neg h2, if_neg h3]
              exact ⟨_, rfl, by unfold hexI; rw [this]; rfl, rfl⟩

/-- The byte at a place; -1 behind the end. -/
def atI (s : By) (i : Nat) : Int := match s[i]? with | some c => c.toNat | none => -1

theorem atI_cases (s : By) (i : Nat) : (s.length ≤ i ∧ s.drop i = [] ∧ atI s i = -1) ∨ ∃ c, s[i]? = some c ∧ i < s.length ∧ s.drop i = c :: s.drop (i + 1) ∧ atI s i = (c.toNat : Nat) := by
  rcases Nat.lt_or_ge i s.length with h | h
  · refine .inr ⟨s[i], List.getElem?_eq_getElem h, h, List.drop_eq_getElem_cons h, ?_⟩
    unfold atI; rw [List.getElem?_eq_getElem h]
  · refine .inl ⟨h, List.drop_of_length_le h, ?_⟩
    unfold atI; rw [List.getElem?_eq_none h]

theorem at_calls {h : Heap} (s : By) (i : Nat) : CallsH Tryd.prog 77 #[.string (bs s), .int .i64 (i : Nat)] h (Ret fun r h' => r = .int .i64 (atI s i) ∧ h' = h) := by
  have hz := bs_size s
  refine CallsH.of Tryd.func77 rfl rfl ?_
  refine G.seq rfl ?_
  refine G.reg Tryd.func77 rfl ?_
  refine RW.pureS rfl rfl rfl rfl (OpP.assign rfl) ?_
  refine RW.done rfl ?_
  refine G.sub (ρ' := [(0, _), (1, _), (4, _)]) ⟨rfl, rfl, rfl, trivial⟩ ?_
  refine G.seq rfl ?_
  refine G.seq rfl ?_
  refine G.reg Tryd.func77 rfl ?_
  refine RW.pureS rfl rfl rfl rfl (OpP.move rfl) ?_
  refine RW.pureS rfl rfl rfl rfl (OpP.move rfl) ?_
  refine RW.pureS rfl rfl rfl rfl (OpP.lenString Tryd.underlying9 rfl) ?_
  refine RW.pureS rfl rfl rfl rfl (OpP.geq rfl rfl) ?_
  refine RW.done rfl ?_
  refine G.sub (ρ' := [(0, _), (1, _), (4, _), (8, _)]) ⟨rfl, rfl, rfl, rfl, trivial⟩ ?_
  refine G.ite rfl rfl (fun hge => ?_) (fun hge => ?_)
  · have e : atI s i = -1 := by unfold atI; rw [List.getElem?_eq_none (by omega)]
    refine G.seq rfl ?_
    refine G.reg Tryd.func77 rfl ?_
    refine RW.pureS rfl rfl rfl rfl (OpP.assign rfl) ?_
    refine RW.done rfl ?_
    refine G.sub (ρ' := [(0, _), (1, _), (4, _), (8, _)]) ⟨rfl, rfl, rfl, rfl, trivial⟩ ?_
    refine G.ret Tryd.func77 rfl rfl ?_
    exact ⟨_, rfl, by rw [e]; rfl, rfl⟩
  · obtain ⟨c, hc⟩ : ∃ c, s[i]? = some c := ⟨s[i]'(by omega), List.getElem?_eq_getElem (by omega)⟩
    have hcl := c.toNat_lt
    have e : atI s i = (c.toNat : Nat) := by unfold atI; rw [hc]
    refine G.skip rfl ?_
    refine G.seq rfl ?_
    refine G.reg Tryd.func77 rfl ?_
    refine RW.pureS rfl rfl rfl rfl (OpP.move rfl) ?_
    refine RW.pureS rfl rfl rfl rfl (OpP.move rfl) ?_
    refine RW.pureS rfl rfl rfl rfl (OpP.indexStr Tryd.underlying9 rfl rfl i rfl (bs_at hc)) ?_
    refine RW.pureS rfl rfl rfl rfl (OpP.convIn Tryd.underlying5 Tryd.underlying3 rfl (wrap_i64 ⟨by omega, by omega⟩)) ?_
    refine RW.pureS rfl rfl rfl rfl (OpP.assign rfl) ?_
    refine RW.done rfl ?_
    refine G.sub (ρ' := [(0, _), (1, _), (4, _), (8, _)]) ⟨rfl, rfl, rfl, rfl, trivial⟩ ?_
    refine G.ret Tryd.func77 rfl rfl ?_
    exact ⟨_, rfl, by rw [e]; rfl, rfl⟩

theorem at_at {h : Heap} (s : By) (i : Nat) {j : Int} (hj : j = i) : CallsH Tryd.prog 77 #[.string (bs s), .int .i64 j] h (Ret fun r h' => r = .int .i64 (atI s i) ∧ h' = h) := by subst hj; exact at_calls s i

/-- A letter; in brackets - and ^ are none. -/
def letR (inb : Bool) : By → Option (UInt8 × By)
  | [] => none
  | b :: r => if b = 92 then escP r else if b ∈ specialB ∧ (inb = true ∨ (b ≠ 45 ∧ b ≠ 94)) then none else some (b, r)

theorem letR_true (l : By) : letR true l = letP l := by
  cases l with
  | nil => rfl
  | cons b r => simp [letR, letP]

/-- What a reader answers that goes by places: the byte, and the place behind it. -/
def LetV (s : By) (p : Option (UInt8 × By)) (r : Value) : Prop :=
  match p with
  | none => ∃ b : Int, r = .tuple #[.int .u8 b, .int .i64 (-1)]
  | some (c, t) => ∃ k : Nat, k ≤ s.length ∧ t = s.drop k ∧ r = .tuple #[.int .u8 (c.toNat : Nat), .int .i64 (k : Nat)]

theorem u8_conv (c : UInt8) : IntKind.u8.wrap (((c.toNat : Nat) : Int)) = ((c.toNat : Nat) : Int) := wrap_u8 (by have := c.toNat_lt; omega)

theorem hexN_fin : ∀ m n : Fin 16, IntKind.u8.wrap ((m.val : Int) * 16 + (n.val : Int)) = ((UInt8.ofNat (m.val * 16 + n.val)).toNat : Nat) := by decide +kernel
theorem hexN {m n : Nat} (hm : m < 16) (hn : n < 16) : IntKind.u8.wrap ((m : Int) * 16 + (n : Int)) = ((UInt8.ofNat (m * 16 + n)).toNat : Nat) := hexN_fin ⟨m, hm⟩ ⟨n, hn⟩

end Go.Proofs.YtlegopbpofofgaaDoor

/- The document's reader of rules: letters; sets. -/
namespace Go.Proofs.YtlegopbpofofgaaDoor
open Go Go.Lw
set_option maxRecDepth 20000

theorem letR_cons (inb : Bool) (b : UInt8) (r : By) : letR inb (b :: r) = if b = 92 then escP r else if b ∈ specialB ∧ (inb = true ∨ (b ≠ 45 ∧ b ≠ 94)) then none else some (b, r) := rfl

theorem letterR_calls {h : Heap} (s : By) (i : Nat) (_hi : i ≤ s.length) (hs : s.length ≤ 1000000) (inb : Bool) : CallsH Tryd.prog 87 #[.string (bs s), .int .i64 (i : Nat), .bool inb] h (Ret fun r h' => LetV s (letR inb (s.drop i)) r ∧ h' = h) := by
  have hz := bs_size s
  refine CallsH.of Tryd.func87 rfl rfl ?_
  refine G.seq rfl ?_
  refine G.reg Tryd.func87 rfl ?_
  refine RW.pureS rfl rfl rfl rfl (OpP.assign rfl) ?_
  refine RW.pureS rfl rfl rfl rfl (OpP.assign rfl) ?_
  refine RW.done rfl ?_
  refine G.sub (ρ' := [(0, _), (1, _), (2, _), (6, _), (7, _)]) ⟨rfl, rfl, rfl, rfl, rfl, trivial⟩ ?_
  refine G.seq rfl ?_
  refine G.reg Tryd.func87 rfl ?_
  refine RW.pureS rfl rfl rfl rfl (OpP.move rfl) ?_
  refine RW.pureS rfl rfl rfl rfl (OpP.move rfl) ?_
  refine RW.opS rfl rfl rfl rfl (OpX.call (vs := [_, _]) Tryd.func77 rfl H.nm77 rfl (CallsH.toX (at_calls s i))) ?_
  rintro _ _ ⟨rfl, rfl⟩
  refine RW.pureS rfl rfl rfl rfl (OpP.assign rfl) ?_
  refine RW.done rfl ?_
  refine G.sub (ρ' := [(0, _), (1, _), (2, _), (6, _), (7, _), (8, _)]) ⟨rfl, rfl, rfl, rfl, rfl, rfl, trivial⟩ ?_
  refine G.seq rfl ?_
  refine G.seq rfl ?_
  refine G.reg Tryd.func87 rfl ?_
  refine RW.pureS rfl rfl rfl rfl (OpP.move rfl) ?_
  refine RW.pureS rfl rfl rfl rfl (OpP.lss rfl rfl) ?_
  refine RW.done rfl ?_
  refine G.sub (ρ' := [(0, _), (1, _), (2, _), (6, _), (7, _), (8, _), (14, _)]) ⟨rfl, rfl, rfl, rfl, rfl, rfl, rfl, trivial⟩ ?_
  refine G.ite rfl rfl (fun hneg => ?_) (fun hneg => ?_)
  · have hd : s.drop i = [] := by
      rcases atI_cases s i with ⟨_, hd, _⟩ | ⟨c, _, _, _, ha⟩
      · exact hd
      · omega
    rw [hd]
    refine G.seq rfl ?_
    refine G.reg Tryd.func87 rfl ?_
    refine RW.pureS rfl rfl rfl rfl (OpP.assign rfl) ?_
    refine RW.pureS rfl rfl rfl rfl (OpP.assign rfl) ?_
    refine RW.done rfl ?_
    refine G.sub (ρ' := [(0, _), (1, _), (2, _), (6, _), (7, _), (8, _), (14, _)]) ⟨rfl, rfl, rfl, rfl, rfl, rfl, rfl, trivial⟩ ?_
    refine G.ret Tryd.func87 rfl rfl ?_
    exact ⟨_, rfl, ⟨0, rfl⟩, rfl⟩
  · obtain ⟨c, hc, hlt, hd, ha⟩ : ∃ c, s[i]? = some c ∧ i < s.length ∧ s.drop i = c :: s.drop (i + 1) ∧ atI s i = (c.toNat : Nat) := by
      rcases atI_cases s i with ⟨_, _, ha⟩ | k
      · omega
      · exact k
    have hcl := c.toNat_lt
    rw [hd, ha]
    rw [ha] at hneg
    refine G.skip rfl ?_
    refine G.seq rfl ?_
    refine G.seq rfl ?_
    refine G.reg Tryd.func87 rfl ?_
    refine RW.pureS rfl rfl rfl rfl (OpP.move rfl) ?_
    refine RW.pureS rfl rfl rfl rfl (OpP.neqInt rfl rfl) ?_
    refine RW.done rfl ?_
    refine G.sub (ρ' := [(0, _), (1, _), (2, _), (6, _), (7, _), (8, _), (14, _), (16, _)]) ⟨rfl, rfl, rfl, rfl, rfl, rfl, rfl, rfl, trivial⟩ ?_
    refine G.ite rfl rfl (fun hne => ?_) (fun hne => ?_)
    · have hne : ¬ c = 92 := fun e => hne (by rw [e]; rfl)
      refine G.seq rfl ?_
      refine G.seq rfl ?_
      refine G.regTo1 [(30, .bool (decide (c ∈ specialB ∧ (inb = true ∨ (c ≠ 45 ∧ c ≠ 94)))))] [(0, _), (1, _), (2, _), (6, _), (7, _), (8, _), (14, _), (16, _)] ⟨rfl, rfl, rfl, rfl, rfl, rfl, rfl, rfl, trivial⟩ Tryd.func87 rfl ?_ ?_
      · refine RW.pureS rfl rfl rfl rfl (OpP.move rfl) ?_
        refine RW.pureS rfl rfl rfl rfl (OpP.convInt Tryd.underlying3 Tryd.underlying5 rfl) ?_
        refine RW.opS rfl rfl rfl rfl (OpX.call (vs := [_]) Tryd.func93 rfl H.nm93 rfl (CallsH.toX (u8_conv c ▸ specR_calls c))) ?_
        rintro _ _ ⟨rfl, rfl⟩
        refine RW.pureS rfl rfl rfl rfl (OpP.move rfl) ?_
        refine RW.split (d := 20) rfl (fun hsp => ?_) (fun hsp => ?_)
        · have hsp : c ∈ specialB := of_decide_eq_true hsp
          refine RW.pureS rfl rfl rfl rfl (OpP.move rfl) ?_
          refine RW.pureS rfl rfl rfl rfl (OpP.move rfl) ?_
          refine RW.split (d := 22) rfl (fun hin => ?_) (fun hin => ?_)
          · refine RW.skipS rfl rfl rfl rfl ?_
            refine RW.skipS rfl rfl rfl rfl ?_
            refine RW.skipS rfl rfl rfl rfl ?_
            refine RW.skipS rfl rfl rfl rfl ?_
            refine RW.skipS rfl rfl rfl rfl ?_
            refine RW.skipS rfl rfl rfl rfl ?_
            refine RW.pureS rfl rfl rfl rfl (OpP.pickT rfl rfl) ?_
            refine RW.pureS rfl rfl rfl rfl (OpP.pickT rfl rfl) ?_
            refine RW.done rfl ?_
            exact ⟨rfl, at_bool rfl (by simp [hsp, hin]), rfl, rfl, rfl, rfl, rfl, rfl, rfl, rfl, trivial⟩
          · refine RW.pureS rfl rfl rfl rfl (OpP.move rfl) ?_
            refine RW.pureS rfl rfl rfl rfl (OpP.neqInt rfl rfl) ?_
            refine RW.pureS rfl rfl rfl rfl (OpP.move rfl) ?_
            refine RW.split (d := 25) rfl (fun h45 => ?_) (fun h45 => ?_)
            · have h45 : c ≠ 45 := fun e => (of_decide_eq_true h45) ((u8_is rfl).2 e)
              refine RW.pureS rfl rfl rfl rfl (OpP.move rfl) ?_
              refine RW.pureS rfl rfl rfl rfl (OpP.neqInt rfl rfl) ?_
              refine RW.pureS rfl rfl rfl rfl (OpP.pickT rfl rfl) ?_
              refine RW.pureS rfl rfl rfl rfl (OpP.pickF rfl rfl) ?_
              refine RW.pureS rfl rfl rfl rfl (OpP.pickT rfl rfl) ?_
              refine RW.done rfl ?_
              exact ⟨rfl, at_bool rfl (by simp only [hin, hsp, true_and]; simp only [Bool.false_eq_true, false_or, ne_eq, h45, not_false_eq_true, true_and]; exact decide_eq_decide.2 (not_congr (u8_is rfl))), rfl, rfl, rfl, rfl, rfl, rfl, rfl, rfl, trivial⟩
            · have h45 : c = 45 := (u8_is rfl).1 (Classical.not_not.1 (of_decide_eq_false h45))
              refine RW.skipS rfl rfl rfl rfl ?_
              refine RW.skipS rfl rfl rfl rfl ?_
              refine RW.pureS rfl rfl rfl rfl (OpP.pickF rfl rfl) ?_
              refine RW.pureS rfl rfl rfl rfl (OpP.pickF rfl rfl) ?_
              refine RW.pureS rfl rfl rfl rfl (OpP.pickT rfl rfl) ?_
              refine RW.done rfl ?_
              exact ⟨rfl, at_bool rfl (by simp [hin, h45]), rfl, rfl, rfl, rfl, rfl, rfl, rfl, rfl, trivial⟩
        · have hsp : ¬ c ∈ specialB := of_decide_eq_false hsp
          refine RW.skipS rfl rfl rfl rfl ?_
          refine RW.skipS rfl rfl rfl rfl ?_
          refine RW.skipS rfl rfl rfl rfl ?_
          refine RW.skipS rfl rfl rfl rfl ?_
          refine RW.skipS rfl rfl rfl rfl ?_
          refine RW.skipS rfl rfl rfl rfl ?_
          refine RW.skipS rfl rfl rfl rfl ?_
          refine RW.skipS rfl rfl rfl rfl ?_
          refine RW.skipS rfl rfl rfl rfl ?_
          refine RW.pureS rfl rfl rfl rfl (OpP.pickF rfl rfl) ?_
          refine RW.done rfl ?_
          exact ⟨rfl, at_bool rfl (by simp [hsp]), rfl, rfl, rfl, rfl, rfl, rfl, rfl, rfl, trivial⟩
      · refine G.ite rfl rfl (fun hno => ?_) (fun hno => ?_)
        · have hl : letR inb (c :: s.drop (i + 1)) = none := by rw [letR_cons, if_neg hne, if_pos hno]
          refine G.seq rfl ?_
          refine G.reg Tryd.func87 rfl ?_
          refine RW.pureS rfl rfl rfl rfl (OpP.assign rfl) ?_
          refine RW.pureS rfl rfl rfl rfl (OpP.assign rfl) ?_
          refine RW.done rfl ?_
          refine G.sub (ρ' := [(0, _), (1, _), (2, _), (6, _), (7, _), (8, _), (14, _), (16, _), (30, _)]) ⟨rfl, rfl, rfl, rfl, rfl, rfl, rfl, rfl, rfl, trivial⟩ ?_
          refine G.ret Tryd.func87 rfl rfl ?_
          exact ⟨_, rfl, by rw [hl]; exact ⟨0, rfl⟩, rfl⟩
        · have hl : letR inb (c :: s.drop (i + 1)) = some (c, s.drop (i + 1)) := by rw [letR_cons, if_neg hne, if_neg hno]
          refine G.skip rfl ?_
          refine G.seq rfl ?_
          refine G.reg Tryd.func87 rfl ?_
          refine RW.pureS rfl rfl rfl rfl (OpP.move rfl) ?_
          refine RW.pureS rfl rfl rfl rfl (OpP.convInt Tryd.underlying3 Tryd.underlying5 rfl) ?_
          refine RW.pureS rfl rfl rfl rfl (OpP.move rfl) ?_
          refine RW.pureS rfl rfl rfl rfl (OpP.add64 rfl rfl ⟨by omega, by omega⟩) ?_
          refine RW.pureS rfl rfl rfl rfl (OpP.assign rfl) ?_
          refine RW.pureS rfl rfl rfl rfl (OpP.assign rfl) ?_
          refine RW.done rfl ?_
          refine G.sub (ρ' := [(0, _), (1, _), (2, _), (6, _), (7, _), (8, _), (14, _), (16, _), (30, _)]) ⟨rfl, rfl, rfl, rfl, rfl, rfl, rfl, rfl, rfl, trivial⟩ ?_
          refine G.ret Tryd.func87 rfl rfl ?_
          exact ⟨_, rfl, by rw [hl]; exact ⟨i + 1, by omega, rfl, by rw [u8_conv]; rfl⟩, rfl⟩
    · have he92 : c = 92 := (u8_is rfl).1 (Classical.not_not.1 hne)
      have hl : letR inb (c :: s.drop (i + 1)) = escP (s.drop (i + 1)) := by rw [letR_cons, if_pos he92]
      rw [hl]
      refine G.skip rfl ?_
      refine G.seq rfl ?_
      refine G.reg Tryd.func87 rfl ?_
      refine RW.pureS rfl rfl rfl rfl (OpP.move rfl) ?_
      refine RW.pureS rfl rfl rfl rfl (OpP.move rfl) ?_
      refine RW.pureS rfl rfl rfl rfl (OpP.add64 rfl rfl ⟨by omega, by omega⟩) ?_
      refine RW.opS rfl rfl rfl rfl (OpX.call (vs := [_, _]) Tryd.func77 rfl H.nm77 rfl (CallsH.toX (at_at s (i + 1) rfl))) ?_
      rintro _ _ ⟨rfl, rfl⟩
      refine RW.pureS rfl rfl rfl rfl (OpP.assign rfl) ?_
      refine RW.done rfl ?_
      refine G.sub (ρ' := [(0, _), (1, _), (2, _), (6, _), (7, _), (8, _), (9, _), (14, _), (16, _)]) ⟨rfl, rfl, rfl, rfl, rfl, rfl, rfl, rfl, rfl, trivial⟩ ?_
      refine G.seq rfl ?_
      refine G.seq rfl ?_
      refine G.reg Tryd.func87 rfl ?_
      refine RW.pureS rfl rfl rfl rfl (OpP.move rfl) ?_
      refine RW.pureS rfl rfl rfl rfl (OpP.eqlInt rfl rfl) ?_
      refine RW.done rfl ?_
      refine G.sub (ρ' := [(0, _), (1, _), (2, _), (6, _), (7, _), (8, _), (9, _), (14, _), (16, _), (40, _)]) ⟨rfl, rfl, rfl, rfl, rfl, rfl, rfl, rfl, rfl, rfl, trivial⟩ ?_
      rcases atI_cases s (i + 1) with ⟨hlen, hd1, ha1⟩ | ⟨d, hdc, hlt1, hd1, ha1⟩
      · rw [hd1, ha1]
        refine G.cond rfl rfl (fun hc => absurd hc (by decide)) (fun _ => ?_)
        refine G.skip rfl ?_
        refine G.seq rfl ?_
        refine G.seq rfl ?_
        refine G.reg Tryd.func87 rfl ?_
        refine RW.pureS rfl rfl rfl rfl (OpP.move rfl) ?_
        refine RW.pureS rfl rfl rfl rfl (OpP.eqlInt rfl rfl) ?_
        refine RW.done rfl ?_
        refine G.sub (ρ' := [(0, _), (1, _), (2, _), (6, _), (7, _), (8, _), (9, _), (14, _), (16, _), (40, _), (44, _)]) ⟨rfl, rfl, rfl, rfl, rfl, rfl, rfl, rfl, rfl, rfl, rfl, trivial⟩ ?_
        refine G.cond rfl rfl (fun hc => absurd hc (by decide)) (fun _ => ?_)
        refine G.skip rfl ?_
        refine G.seq rfl ?_
        refine G.seq rfl ?_
        refine G.reg Tryd.func87 rfl ?_
        refine RW.pureS rfl rfl rfl rfl (OpP.move rfl) ?_
        refine RW.pureS rfl rfl rfl rfl (OpP.eqlInt rfl rfl) ?_
        refine RW.done rfl ?_
        refine G.sub (ρ' := [(0, _), (1, _), (2, _), (6, _), (7, _), (8, _), (9, _), (14, _), (16, _), (40, _), (44, _), (48, _)]) ⟨rfl, rfl, rfl, rfl, rfl, rfl, rfl, rfl, rfl, rfl, rfl, rfl, trivial⟩ ?_
        refine G.cond rfl rfl (fun hc => absurd hc (by decide)) (fun _ => ?_)
        refine G.skip rfl ?_
        refine G.seq rfl ?_
        refine G.seq rfl ?_
        refine G.regTo1 [(75, .bool false)] [(0, _), (1, _), (2, _), (6, _), (7, _), (8, _), (9, _), (14, _), (16, _), (40, _), (44, _), (48, _)] ⟨rfl, rfl, rfl, rfl, rfl, rfl, rfl, rfl, rfl, rfl, rfl, rfl, trivial⟩ Tryd.func87 rfl ?_ ?_
        · refine RW.pureS rfl rfl rfl rfl (OpP.move rfl) ?_
          refine RW.pureS rfl rfl rfl rfl (OpP.eqlInt rfl rfl) ?_
          refine RW.pureS rfl rfl rfl rfl (OpP.move rfl) ?_
          refine RW.know (d := 53) (b' := false) rfl (decide_eq_false (by decide)) ?_
          refine RW.skipS rfl rfl rfl rfl ?_
          refine RW.skipS rfl rfl rfl rfl ?_
          refine RW.skipS rfl rfl rfl rfl ?_
          refine RW.skipS rfl rfl rfl rfl ?_
          refine RW.skipS rfl rfl rfl rfl ?_
          refine RW.pureS rfl rfl rfl rfl (OpP.pickF rfl rfl) ?_
          refine RW.pureS rfl rfl rfl rfl (OpP.move rfl) ?_
          refine RW.skipS rfl rfl rfl rfl ?_
          refine RW.skipS rfl rfl rfl rfl ?_
          refine RW.skipS rfl rfl rfl rfl ?_
          refine RW.skipS rfl rfl rfl rfl ?_
          refine RW.skipS rfl rfl rfl rfl ?_
          refine RW.skipS rfl rfl rfl rfl ?_
          refine RW.pureS rfl rfl rfl rfl (OpP.pickF rfl rfl) ?_
          refine RW.pureS rfl rfl rfl rfl (OpP.move rfl) ?_
          refine RW.skipS rfl rfl rfl rfl ?_
          refine RW.skipS rfl rfl rfl rfl ?_
          refine RW.skipS rfl rfl rfl rfl ?_
          refine RW.skipS rfl rfl rfl rfl ?_
          refine RW.skipS rfl rfl rfl rfl ?_
          refine RW.skipS rfl rfl rfl rfl ?_
          refine RW.pureS rfl rfl rfl rfl (OpP.pickF rfl rfl) ?_
          refine RW.done rfl ?_
          exact ⟨rfl, at_bool rfl (rfl), rfl, rfl, rfl, rfl, rfl, rfl, rfl, rfl, rfl, rfl, rfl, rfl, trivial⟩
        · refine G.cond rfl rfl (fun hc => absurd hc (by decide)) (fun _ => ?_)
          refine G.skip rfl ?_
          refine G.seq rfl ?_
          refine G.seq rfl ?_
          refine G.regTo1 [(97, .bool false)] [(0, _), (1, _), (2, _), (6, _), (7, _), (8, _), (9, _), (14, _), (16, _), (40, _), (44, _), (48, _), (75, _)] ⟨rfl, rfl, rfl, rfl, rfl, rfl, rfl, rfl, rfl, rfl, rfl, rfl, rfl, trivial⟩ Tryd.func87 rfl ?_ ?_
          · refine RW.pureS rfl rfl rfl rfl (OpP.move rfl) ?_
            refine RW.pureS rfl rfl rfl rfl (OpP.geq rfl rfl) ?_
            refine RW.pureS rfl rfl rfl rfl (OpP.move rfl) ?_
            refine RW.know (d := 93) (b' := false) rfl (decide_eq_false (by decide)) ?_
            refine RW.skipS rfl rfl rfl rfl ?_
            refine RW.skipS rfl rfl rfl rfl ?_
            refine RW.skipS rfl rfl rfl rfl ?_
            refine RW.pureS rfl rfl rfl rfl (OpP.pickF rfl rfl) ?_
            refine RW.done rfl ?_
            exact ⟨rfl, at_bool rfl (rfl), rfl, rfl, rfl, rfl, rfl, rfl, rfl, rfl, rfl, rfl, rfl, rfl, rfl, trivial⟩
          · refine G.cond rfl rfl (fun hc => absurd hc (by decide)) (fun _ => ?_)
            refine G.skip rfl ?_
            refine G.seq rfl ?_
            refine G.reg Tryd.func87 rfl ?_
            refine RW.pureS rfl rfl rfl rfl (OpP.assign rfl) ?_
            refine RW.pureS rfl rfl rfl rfl (OpP.assign rfl) ?_
            refine RW.done rfl ?_
            refine G.sub (ρ' := [(0, _), (1, _), (2, _), (6, _), (7, _), (8, _), (9, _), (14, _), (16, _), (40, _), (44, _), (48, _), (75, _), (97, _)]) ⟨rfl, rfl, rfl, rfl, rfl, rfl, rfl, rfl, rfl, rfl, rfl, rfl, rfl, rfl, trivial⟩ ?_
            refine G.ret Tryd.func87 rfl rfl ?_
            exact ⟨_, rfl, ⟨0, rfl⟩, rfl⟩
      · have hdl := d.toNat_lt
        rw [hd1, ha1, show i + 1 + 1 = i + 2 from rfl]
        refine G.ite rfl rfl (fun e1 => ?_) (fun e1 => ?_)
        · have e1 : d = 110 := (u8_is rfl).1 e1
          refine G.seq rfl ?_
          refine G.reg Tryd.func87 rfl ?_
          refine RW.pureS rfl rfl rfl rfl (OpP.move rfl) ?_
          refine RW.pureS rfl rfl rfl rfl (OpP.add64 rfl rfl ⟨by omega, by omega⟩) ?_
          refine RW.pureS rfl rfl rfl rfl (OpP.assign rfl) ?_
          refine RW.pureS rfl rfl rfl rfl (OpP.assign rfl) ?_
          refine RW.done rfl ?_
          refine G.sub (ρ' := [(0, _), (1, _), (2, _), (6, _), (7, _), (8, _), (9, _), (14, _), (16, _), (40, _)]) ⟨rfl, rfl, rfl, rfl, rfl, rfl, rfl, rfl, rfl, rfl, trivial⟩ ?_
          refine G.ret Tryd.func87 rfl rfl ?_
          exact ⟨_, rfl, by rw [show escP (d :: s.drop (i + 2)) = some (10, s.drop (i + 2)) by unfold escP; simp [e1]]; exact ⟨i + 2, by omega, rfl, rfl⟩, rfl⟩
        · have e1 : ¬ d = 110 := fun e => e1 ((u8_is rfl).2 e)
          refine G.skip rfl ?_
          refine G.seq rfl ?_
          refine G.seq rfl ?_
          refine G.reg Tryd.func87 rfl ?_
          refine RW.pureS rfl rfl rfl rfl (OpP.move rfl) ?_
          refine RW.pureS rfl rfl rfl rfl (OpP.eqlInt rfl rfl) ?_
          refine RW.done rfl ?_
          refine G.sub (ρ' := [(0, _), (1, _), (2, _), (6, _), (7, _), (8, _), (9, _), (14, _), (16, _), (40, _), (44, _)]) ⟨rfl, rfl, rfl, rfl, rfl, rfl, rfl, rfl, rfl, rfl, rfl, trivial⟩ ?_
          refine G.ite rfl rfl (fun e2 => ?_) (fun e2 => ?_)
          · have e2 : d = 116 := (u8_is rfl).1 e2
            refine G.seq rfl ?_
            refine G.reg Tryd.func87 rfl ?_
            refine RW.pureS rfl rfl rfl rfl (OpP.move rfl) ?_
            refine RW.pureS rfl rfl rfl rfl (OpP.add64 rfl rfl ⟨by omega, by omega⟩) ?_
            refine RW.pureS rfl rfl rfl rfl (OpP.assign rfl) ?_
            refine RW.pureS rfl rfl rfl rfl (OpP.assign rfl) ?_
            refine RW.done rfl ?_
            refine G.sub (ρ' := [(0, _), (1, _), (2, _), (6, _), (7, _), (8, _), (9, _), (14, _), (16, _), (40, _), (44, _)]) ⟨rfl, rfl, rfl, rfl, rfl, rfl, rfl, rfl, rfl, rfl, rfl, trivial⟩ ?_
            refine G.ret Tryd.func87 rfl rfl ?_
            exact ⟨_, rfl, by rw [show escP (d :: s.drop (i + 2)) = some (9, s.drop (i + 2)) by unfold escP; simp [e2]]; exact ⟨i + 2, by omega, rfl, rfl⟩, rfl⟩
          · have e2 : ¬ d = 116 := fun e => e2 ((u8_is rfl).2 e)
            refine G.skip rfl ?_
            refine G.seq rfl ?_
            refine G.seq rfl ?_
            refine G.reg Tryd.func87 rfl ?_
            refine RW.pureS rfl rfl rfl rfl (OpP.move rfl) ?_
            refine RW.pureS rfl rfl rfl rfl (OpP.eqlInt rfl rfl) ?_
            refine RW.done rfl ?_
            refine G.sub (ρ' := [(0, _), (1, _), (2, _), (6, _), (7, _), (8, _), (9, _), (14, _), (16, _), (40, _), (44, _), (48, _)]) ⟨rfl, rfl, rfl, rfl, rfl, rfl, rfl, rfl, rfl, rfl, rfl, rfl, trivial⟩ ?_
            refine G.ite rfl rfl (fun e3 => ?_) (fun e3 => ?_)
            · have e3 : d = 114 := (u8_is rfl).1 e3
              refine G.seq rfl ?_
              refine G.reg Tryd.func87 rfl ?_
              refine RW.pureS rfl rfl rfl rfl (OpP.move rfl) ?_
              refine RW.pureS rfl rfl rfl rfl (OpP.add64 rfl rfl ⟨by omega, by omega⟩) ?_
              refine RW.pureS rfl rfl rfl rfl (OpP.assign rfl) ?_
              refine RW.pureS rfl rfl rfl rfl (OpP.assign rfl) ?_
              refine RW.done rfl ?_
              refine G.sub (ρ' := [(0, _), (1, _), (2, _), (6, _), (7, _), (8, _), (9, _), (14, _), (16, _), (40, _), (44, _), (48, _)]) ⟨rfl, rfl, rfl, rfl, rfl, rfl, rfl, rfl, rfl, rfl, rfl, rfl, trivial⟩ ?_
              refine G.ret Tryd.func87 rfl rfl ?_
              exact ⟨_, rfl, by rw [show escP (d :: s.drop (i + 2)) = some (13, s.drop (i + 2)) by unfold escP; simp [e3]]; exact ⟨i + 2, by omega, rfl, rfl⟩, rfl⟩
            · have e3 : ¬ d = 114 := fun e => e3 ((u8_is rfl).2 e)
              refine G.skip rfl ?_
              refine G.seq rfl ?_
              refine G.seq rfl ?_
              refine G.regTo1 [(75, .bool (decide (d = 120 ∧ ((s[i + 2]?).bind hexVal).isSome = true ∧ ((s[i + 3]?).bind hexVal).isSome = true)))] [(0, _), (1, _), (2, _), (6, _), (7, _), (8, _), (9, _), (14, _), (16, _), (40, _), (44, _), (48, _)] ⟨rfl, rfl, rfl, rfl, rfl, rfl, rfl, rfl, rfl, rfl, rfl, rfl, trivial⟩ Tryd.func87 rfl ?_ ?_
              · refine RW.pureS rfl rfl rfl rfl (OpP.move rfl) ?_
                refine RW.pureS rfl rfl rfl rfl (OpP.eqlInt rfl rfl) ?_
                refine RW.pureS rfl rfl rfl rfl (OpP.move rfl) ?_
                refine RW.split (d := 53) rfl (fun h120 => ?_) (fun h120 => ?_)
                · have h120 : d = 120 := (u8_is rfl).1 (of_decide_eq_true h120)
                  refine RW.pureS rfl rfl rfl rfl (OpP.move rfl) ?_
                  refine RW.pureS rfl rfl rfl rfl (OpP.add64 rfl rfl ⟨by omega, by omega⟩) ?_
                  refine RW.pureS rfl rfl rfl rfl (OpP.move rfl) ?_
                  refine RW.pureS rfl rfl rfl rfl (OpP.lenString Tryd.underlying9 rfl) ?_
                  refine RW.pureS rfl rfl rfl rfl (OpP.lss rfl rfl) ?_
                  refine RW.pureS rfl rfl rfl rfl (OpP.pickT rfl rfl) ?_
                  refine RW.pureS rfl rfl rfl rfl (OpP.move rfl) ?_
                  refine RW.split (d := 60) rfl (fun hlen3 => ?_) (fun hlen3 => ?_)
                  · have hlen3 : i + 3 < s.length := by have := of_decide_eq_true hlen3; omega
                    have hx : s[i + 2]? = some s[i + 2] := List.getElem?_eq_getElem (by omega)
                    have hy : s[i + 3]? = some s[i + 3] := List.getElem?_eq_getElem hlen3
                    generalize s[i + 2] = x at hx
                    generalize s[i + 3] = y at hy
                    refine RW.pureS rfl rfl rfl rfl (OpP.move rfl) ?_
                    refine RW.pureS rfl rfl rfl rfl (OpP.move rfl) ?_
                    refine RW.pureS rfl rfl rfl rfl (OpP.add64 rfl rfl ⟨by omega, by omega⟩) ?_
                    refine RW.pureS rfl rfl rfl rfl (OpP.indexStr Tryd.underlying9 rfl rfl (i + 2) rfl (bs_at hx)) ?_
                    refine RW.opS rfl rfl rfl rfl (OpX.call (vs := [_]) Tryd.func94 rfl H.nm94 rfl (CallsH.toX (digR_calls x))) ?_
                    rintro _ _ ⟨rfl, rfl⟩
                    refine RW.pureS rfl rfl rfl rfl (OpP.geq rfl rfl) ?_
                    refine RW.pureS rfl rfl rfl rfl (OpP.pickT rfl rfl) ?_
                    refine RW.pureS rfl rfl rfl rfl (OpP.move rfl) ?_
                    refine RW.split (d := 68) rfl (fun hdx => ?_) (fun hdx => ?_)
                    · obtain ⟨m, hm, _, _⟩ := hexI_some.1 (of_decide_eq_true hdx)
                      refine RW.pureS rfl rfl rfl rfl (OpP.move rfl) ?_
                      refine RW.pureS rfl rfl rfl rfl (OpP.move rfl) ?_
                      refine RW.pureS rfl rfl rfl rfl (OpP.add64 rfl rfl ⟨by omega, by omega⟩) ?_
                      refine RW.pureS rfl rfl rfl rfl (OpP.indexStr Tryd.underlying9 rfl rfl (i + 3) rfl (bs_at hy)) ?_
                      refine RW.opS rfl rfl rfl rfl (OpX.call (vs := [_]) Tryd.func94 rfl H.nm94 rfl (CallsH.toX (digR_calls y))) ?_
                      rintro _ _ ⟨rfl, rfl⟩
                      refine RW.pureS rfl rfl rfl rfl (OpP.geq rfl rfl) ?_
                      refine RW.pureS rfl rfl rfl rfl (OpP.pickT rfl rfl) ?_
                      refine RW.done rfl ?_
                      exact ⟨rfl, at_bool rfl (by rw [decide_eq_decide]; rw [hx, hy]; exact ⟨fun k => by obtain ⟨n, hn, _, _⟩ := hexI_some.1 k; exact ⟨h120, by simp [hm], by simp [hn]⟩, fun ⟨_, _, a3⟩ => by obtain ⟨n', a4⟩ := Option.isSome_iff_exists.1 a3; exact hexI_some.2 ⟨n', a4, hexVal_lt a4, by unfold hexI; rw [show hexVal y = some n' from a4]⟩⟩), rfl, rfl, rfl, rfl, rfl, rfl, rfl, rfl, rfl, rfl, rfl, rfl, trivial⟩
                    · have hdx := hexI_none (of_decide_eq_false hdx)
                      refine RW.skipS rfl rfl rfl rfl ?_
                      refine RW.skipS rfl rfl rfl rfl ?_
                      refine RW.skipS rfl rfl rfl rfl ?_
                      refine RW.skipS rfl rfl rfl rfl ?_
                      refine RW.skipS rfl rfl rfl rfl ?_
                      refine RW.skipS rfl rfl rfl rfl ?_
                      refine RW.pureS rfl rfl rfl rfl (OpP.pickF rfl rfl) ?_
                      refine RW.done rfl ?_
                      exact ⟨rfl, at_bool rfl (by rw [eq_comm, decide_eq_false_iff_not, hx]; rintro ⟨_, a2, _⟩; simp [hdx] at a2), rfl, rfl, rfl, rfl, rfl, rfl, rfl, rfl, rfl, rfl, rfl, rfl, trivial⟩
                  · have hlen3 : ¬ i + 3 < s.length := by have := of_decide_eq_false hlen3; omega
                    refine RW.skipS rfl rfl rfl rfl ?_
                    refine RW.skipS rfl rfl rfl rfl ?_
                    refine RW.skipS rfl rfl rfl rfl ?_
                    refine RW.skipS rfl rfl rfl rfl ?_
                    refine RW.skipS rfl rfl rfl rfl ?_
                    refine RW.skipS rfl rfl rfl rfl ?_
                    refine RW.pureS rfl rfl rfl rfl (OpP.pickF rfl rfl) ?_
                    refine RW.pureS rfl rfl rfl rfl (OpP.move rfl) ?_
                    refine RW.skipS rfl rfl rfl rfl ?_
                    refine RW.skipS rfl rfl rfl rfl ?_
                    refine RW.skipS rfl rfl rfl rfl ?_
                    refine RW.skipS rfl rfl rfl rfl ?_
                    refine RW.skipS rfl rfl rfl rfl ?_
                    refine RW.skipS rfl rfl rfl rfl ?_
                    refine RW.pureS rfl rfl rfl rfl (OpP.pickF rfl rfl) ?_
                    refine RW.done rfl ?_
                    exact ⟨rfl, at_bool rfl (by rw [eq_comm, decide_eq_false_iff_not]; rintro ⟨_, _, a3⟩; rw [List.getElem?_eq_none (by omega)] at a3; cases a3), rfl, rfl, rfl, rfl, rfl, rfl, rfl, rfl, rfl, rfl, rfl, rfl, trivial⟩
                · have h120 : ¬ d = 120 := fun e => (of_decide_eq_false h120) ((u8_is rfl).2 e)
                  refine RW.skipS rfl rfl rfl rfl ?_
                  refine RW.skipS rfl rfl rfl rfl ?_
                  refine RW.skipS rfl rfl rfl rfl ?_
                  refine RW.skipS rfl rfl rfl rfl ?_
                  refine RW.skipS rfl rfl rfl rfl ?_
                  refine RW.pureS rfl rfl rfl rfl (OpP.pickF rfl rfl) ?_
                  refine RW.pureS rfl rfl rfl rfl (OpP.move rfl) ?_
                  refine RW.skipS rfl rfl rfl rfl ?_
                  refine RW.skipS rfl rfl rfl rfl ?_
                  refine RW.skipS rfl rfl rfl rfl ?_
                  refine RW.skipS rfl rfl rfl rfl ?_
                  refine RW.skipS rfl rfl rfl rfl ?_
                  refine RW.skipS rfl rfl rfl rfl ?_
                  refine RW.pureS rfl rfl rfl rfl (OpP.pickF rfl rfl) ?_
                  refine RW.pureS rfl rfl rfl rfl (OpP.move rfl) ?_
                  refine RW.skipS rfl rfl rfl rfl ?_
                  refine RW.skipS rfl rfl rfl rfl ?_
                  refine RW.skipS rfl rfl rfl rfl ?_
                  refine RW.skipS rfl rfl rfl rfl ?_
                  refine RW.skipS rfl rfl rfl rfl ?_
                  refine RW.skipS rfl rfl rfl rfl ?_
                  refine RW.pureS rfl rfl rfl rfl (OpP.pickF rfl rfl) ?_
                  refine RW.done rfl ?_
                  exact ⟨rfl, at_bool rfl (by simp [h120]), rfl, rfl, rfl, rfl, rfl, rfl, rfl, rfl, rfl, rfl, rfl, rfl, trivial⟩
              · refine G.ite rfl rfl (fun hx => ?_) (fun hx => ?_)
                · obtain ⟨h120, x, y, m, n, hx, hy, hm, hn⟩ : d = 120 ∧ ∃ x y m n, s[i + 2]? = some x ∧ s[i + 3]? = some y ∧ hexVal x = some m ∧ hexVal y = some n := by
                    obtain ⟨a1, a2, a3⟩ := hx
                    cases hx2 : s[i + 2]? with
                    | none => rw [hx2] at a2; cases a2
                    | some x =>
                      cases hx3 : s[i + 3]? with
                      | none => rw [hx3] at a3; cases a3
                      | some y =>
                        rw [hx2] at a2; rw [hx3] at a3
                        obtain ⟨m, hm⟩ := Option.isSome_iff_exists.1 a2
                        obtain ⟨n, hn⟩ := Option.isSome_iff_exists.1 a3
                        exact ⟨a1, x, y, m, n, rfl, rfl, hm, hn⟩
                  have hm16 := hexVal_lt hm
                  have hn16 := hexVal_lt hn
                  have hix : hexI x = m := by unfold hexI; rw [hm]
                  have hiy : hexI y = n := by unfold hexI; rw [hn]
                  have hlx := (List.getElem?_eq_some_iff.1 hx)
                  have hly := (List.getElem?_eq_some_iff.1 hy)
                  have hdx : s.drop (i + 2) = x :: s.drop (i + 3) := by rw [List.drop_eq_getElem_cons hlx.1, hlx.2]
                  have hdy : s.drop (i + 3) = y :: s.drop (i + 4) := by rw [List.drop_eq_getElem_cons hly.1, hly.2]
                  have hl2 := hly.1
                  refine G.seq rfl ?_
                  refine G.drawQ Tryd.func87 H.mixed rfl (by kernel_rfl) ?_
                  refine RQ.pureS rfl rfl rfl rfl (OpP.move rfl) ?_
                  refine RQ.pureS rfl rfl rfl rfl (OpP.move rfl) ?_
                  refine RQ.pureS rfl rfl rfl rfl (OpP.add64 rfl rfl ⟨by omega, by omega⟩) ?_
                  refine RQ.pureS rfl rfl rfl rfl (OpP.indexStr Tryd.underlying9 rfl rfl (i + 2) rfl (bs_at hx)) ?_
                  refine RQ.callS (vs := [_]) rfl rfl rfl rfl rfl Tryd.func94 rfl H.nm94 rfl (digR_calls x) ?_
                  refine RQ.pureS rfl rfl rfl rfl (OpP.mul64 rfl rfl ⟨by rw [hix]; omega, by rw [hix]; omega⟩) ?_
                  refine RQ.pureS rfl rfl rfl rfl (OpP.move rfl) ?_
                  refine RQ.pureS rfl rfl rfl rfl (OpP.move rfl) ?_
                  refine RQ.pureS rfl rfl rfl rfl (OpP.add64 rfl rfl ⟨by omega, by omega⟩) ?_
                  refine RQ.pureS rfl rfl rfl rfl (OpP.indexStr Tryd.underlying9 rfl rfl (i + 3) rfl (bs_at hy)) ?_
                  refine RQ.callS (vs := [_]) rfl rfl rfl rfl rfl Tryd.func94 rfl H.nm94 rfl (digR_calls y) ?_
                  refine RQ.pureS rfl rfl rfl rfl (OpP.add64 rfl rfl ⟨by rw [hix, hiy]; omega, by rw [hix, hiy]; omega⟩) ?_
                  refine RQ.pureS rfl rfl rfl rfl (OpP.convInt Tryd.underlying3 Tryd.underlying5 rfl) ?_
                  refine RQ.pureS rfl rfl rfl rfl (OpP.move rfl) ?_
                  refine RQ.pureS rfl rfl rfl rfl (OpP.add64 rfl rfl ⟨by omega, by omega⟩) ?_
                  refine RQ.pureS rfl rfl rfl rfl (OpP.assign rfl) ?_
                  refine RQ.pureS rfl rfl rfl rfl (OpP.assign rfl) ?_
                  refine RQ.done rfl ?_
                  refine G.sub (ρ' := [(0, _), (1, _), (2, _), (6, _), (7, _), (8, _), (9, _), (14, _), (16, _), (40, _), (44, _), (48, _), (75, _)]) ⟨rfl, rfl, rfl, rfl, rfl, rfl, rfl, rfl, rfl, rfl, rfl, rfl, rfl, trivial⟩ ?_
                  refine G.ret Tryd.func87 rfl rfl ?_
                  exact ⟨_, rfl, by rw [show escP (d :: s.drop (i + 2)) = some (UInt8.ofNat (m * 16 + n), s.drop (i + 4)) by rw [hdx, hdy]; unfold escP; simp [h120, hm, hn]]; exact ⟨i + 4, by omega, rfl, by rw [hix, hiy, hexN hm16 hn16]; rfl⟩, rfl⟩
                · refine G.skip rfl ?_
                  refine G.seq rfl ?_
                  refine G.seq rfl ?_
                  refine G.regTo1 [(97, .bool (decide (d ∈ specialB)))] [(0, _), (1, _), (2, _), (6, _), (7, _), (8, _), (9, _), (14, _), (16, _), (40, _), (44, _), (48, _), (75, _)] ⟨rfl, rfl, rfl, rfl, rfl, rfl, rfl, rfl, rfl, rfl, rfl, rfl, rfl, trivial⟩ Tryd.func87 rfl ?_ ?_
                  · refine RW.pureS rfl rfl rfl rfl (OpP.move rfl) ?_
                    refine RW.pureS rfl rfl rfl rfl (OpP.geq rfl rfl) ?_
                    refine RW.pureS rfl rfl rfl rfl (OpP.move rfl) ?_
                    refine RW.know (d := 93) (b' := true) rfl (decide_eq_true (by omega)) ?_
                    refine RW.pureS rfl rfl rfl rfl (OpP.move rfl) ?_
                    refine RW.pureS rfl rfl rfl rfl (OpP.convInt Tryd.underlying3 Tryd.underlying5 rfl) ?_
                    refine RW.opS rfl rfl rfl rfl (OpX.call (vs := [_]) Tryd.func93 rfl H.nm93 rfl (CallsH.toX (u8_conv d ▸ specR_calls d))) ?_
                    rintro _ _ ⟨rfl, rfl⟩
                    refine RW.pureS rfl rfl rfl rfl (OpP.pickT rfl rfl) ?_
                    refine RW.done rfl ?_
                    exact ⟨rfl, at_bool rfl (rfl), rfl, rfl, rfl, rfl, rfl, rfl, rfl, rfl, rfl, rfl, rfl, rfl, rfl, trivial⟩
                  · have hno : d = 120 → escP (d :: s.drop (i + 2)) = none := fun h120 => by
                      subst h120
                      unfold escP
                      simp only [show ¬ ((120 : UInt8) = 110) by decide, show ¬ ((120 : UInt8) = 116) by decide, show ¬ ((120 : UInt8) = 114) by decide, if_false, if_true]
                      split
                      · rename_i x y t ht
                        have h2 : s[i + 2]? = some x := by have := congrArg (·[0]?) ht; simpa using this
                        have h3 : s[i + 3]? = some y := by have := congrArg (·[1]?) ht; simpa using this
                        split
                        · rename_i m n hm hn
                          exact absurd ⟨rfl, by rw [h2]; simp [hm], by rw [h3]; simp [hn]⟩ hx
                        · rfl
                      · rfl
                    refine G.ite rfl rfl (fun hsp => ?_) (fun hsp => ?_)
                    · refine G.seq rfl ?_
                      refine G.reg Tryd.func87 rfl ?_
                      refine RW.pureS rfl rfl rfl rfl (OpP.move rfl) ?_
                      refine RW.pureS rfl rfl rfl rfl (OpP.convInt Tryd.underlying3 Tryd.underlying5 rfl) ?_
                      refine RW.pureS rfl rfl rfl rfl (OpP.move rfl) ?_
                      refine RW.pureS rfl rfl rfl rfl (OpP.add64 rfl rfl ⟨by omega, by omega⟩) ?_
                      refine RW.pureS rfl rfl rfl rfl (OpP.assign rfl) ?_
                      refine RW.pureS rfl rfl rfl rfl (OpP.assign rfl) ?_
                      refine RW.done rfl ?_
                      refine G.sub (ρ' := [(0, _), (1, _), (2, _), (6, _), (7, _), (8, _), (9, _), (14, _), (16, _), (40, _), (44, _), (48, _), (75, _), (97, _)]) ⟨rfl, rfl, rfl, rfl, rfl, rfl, rfl, rfl, rfl, rfl, rfl, rfl, rfl, rfl, trivial⟩ ?_
                      refine G.ret Tryd.func87 rfl rfl ?_
                      have h120 : ¬ d = 120 := fun e => by rw [e] at hsp; revert hsp; decide
                      exact ⟨_, rfl, by rw [show escP (d :: s.drop (i + 2)) = some (d, s.drop (i + 2)) by unfold escP; simp [e1, e2, e3, h120, hsp]]; exact ⟨i + 2, by omega, rfl, by rw [u8_conv]; rfl⟩, rfl⟩
                    · have hfin : escP (d :: s.drop (i + 2)) = none := by
                        by_cases h120 : d = 120
                        · exact hno h120
                        · unfold escP; simp [e1, e2, e3, h120, hsp]
                      refine G.skip rfl ?_
                      refine G.seq rfl ?_
                      refine G.reg Tryd.func87 rfl ?_
                      refine RW.pureS rfl rfl rfl rfl (OpP.assign rfl) ?_
                      refine RW.pureS rfl rfl rfl rfl (OpP.assign rfl) ?_
                      refine RW.done rfl ?_
                      refine G.sub (ρ' := [(0, _), (1, _), (2, _), (6, _), (7, _), (8, _), (9, _), (14, _), (16, _), (40, _), (44, _), (48, _), (75, _), (97, _)]) ⟨rfl, rfl, rfl, rfl, rfl, rfl, rfl, rfl, rfl, rfl, rfl, rfl, rfl, rfl, trivial⟩ ?_
                      refine G.ret Tryd.func87 rfl rfl ?_
                      exact ⟨_, rfl, by rw [hfin]; exact ⟨0, rfl⟩, rfl⟩

end Go.Proofs.YtlegopbpofofgaaDoor

/- The document's reader of rules: sets, brackets. -/
namespace Go.Proofs.YtlegopbpofofgaaDoor
open Go Go.Lw
set_option maxRecDepth 20000

theorem tmod2 (x : Nat) : ((x : Nat) : Int).tmod 2 = ((x % 2 : Nat) : Int) := by rw [Int.tmod_eq_emod_of_nonneg (Int.natCast_nonneg _)]; omega
theorem encSet_one (s : Nat) : ∀ v ∈ encSet s, v.oneCell' = true := by
  intro v hv
  simp [encSet, encW] at hv
  rcases hv with rfl | rfl | rfl | rfl <;> rfl

theorem encSet_word (s q : Nat) (hq : q < 4) : (encSet s)[0 + q * 1]? = some (encW s q) := by
  match q, hq with
  | 0, _ => rfl
  | 1, _ => rfl
  | 2, _ => rfl
  | 3, _ => rfl

theorem encSet_with (s : Nat) (i : Nat) (hi : i < 256) : (encSet s).set (0 + i / 64 * 1) (.int .u64 ((wrd s (i / 64) ||| 2 ^ (i % 64) : Nat) : Int)) = encSet (s ||| (1 <<< i)) := by
  have h := ndC_with 0 s (.bool true) i hi
  have h2 := congrArg (fun l => (l.drop 1).take 4) h
  have h4 : i / 64 < 4 := by omega
  generalize i / 64 = q at *
  match q, h4 with
  | 0, _ => exact h2
  | 1, _ => exact h2
  | 2, _ => exact h2
  | 3, _ => exact h2

theorem hasR_calls {h : Heap} (s : Nat) (b : UInt8) : CallsH Tryd.prog 65 #[.agg (encSet s).toArray, .int .u8 (b.toNat : Nat)] h (Ret fun r h' => r = .bool (s.testBit b.toNat) ∧ Ext0 h h') := by
  have hb := b.toNat_lt
  have hq : b.toNat / 64 < 4 := by omega
  have hcv : IntKind.i64.wrap ((b.toNat : Nat) : Int) = ((b.toNat : Nat) : Int) := wrap_i64 ⟨by omega, by omega⟩
  have hdiv : IntKind.i64.wrap (((b.toNat : Int)).tdiv 64) = ((b.toNat / 64 : Nat) : Int) := by
    rw [Int.tdiv_eq_ediv_of_nonneg (by omega), wrap_i64 ⟨by omega, by omega⟩]; omega
  have hmod : ((b.toNat : Int)).tmod 64 = ((b.toNat % 64 : Nat) : Int) := by rw [Int.tmod_eq_emod_of_nonneg (by omega)]; omega
  have hm64 : b.toNat % 64 < 64 := Nat.mod_lt _ (by decide)
  refine CallsH.of Tryd.func65 rfl rfl ?_
  refine G.seq rfl ?_
  refine G.reg Tryd.func65 rfl ?_
  refine RW.opS rfl rfl rfl rfl (OpX.boxN rfl) ?_
  rintro _ h1 ⟨rfl, hk, he, hz⟩
  have hk : Blk h1 h.size 60 (encSet s) := hk
  refine RW.pureS rfl rfl rfl rfl (OpP.assign rfl) ?_
  refine RW.done rfl ?_
  refine G.sub (ρ' := [(0, _), (1, _), (2, _), (4, _)]) ⟨rfl, rfl, rfl, rfl, trivial⟩ ?_
  refine G.seq rfl ?_
  refine G.reg Tryd.func65 rfl ?_
  refine RW.pureS rfl rfl rfl rfl (OpP.move rfl) ?_
  refine RW.pureS rfl rfl rfl rfl (OpP.convIn Tryd.underlying5 Tryd.underlying3 rfl hcv) ?_
  refine RW.pureS rfl rfl rfl rfl (OpP.quo rfl rfl (by decide)) ?_
  refine RW.pureS rfl rfl rfl rfl (OpP.indexArr Tryd.underlying60 H.sz59 rfl rfl (b.toNat / 64) hdiv hq) ?_
  refine RW.pureS rfl rfl rfl rfl (OpP.load H.ag59 rfl (hk.cell (encSet_word s _ hq))) ?_
  refine RW.pureS rfl rfl rfl rfl (OpP.move rfl) ?_
  refine RW.pureS rfl rfl rfl rfl (OpP.convIn Tryd.underlying5 Tryd.underlying3 rfl hcv) ?_
  refine RW.pureS rfl rfl rfl rfl (OpP.rem rfl rfl (by decide)) ?_
  refine RW.pureS rfl rfl rfl rfl (OpP.shr rfl rfl (by rw [hmod]; omega)) ?_
  refine RW.pureS rfl rfl rfl rfl (OpP.rem rfl rfl (by decide)) ?_
  refine RW.pureS rfl rfl rfl rfl (OpP.eqlInt rfl rfl) ?_
  refine RW.pureS rfl rfl rfl rfl (OpP.assign rfl) ?_
  refine RW.done rfl ?_
  refine G.sub (ρ' := [(0, _), (1, _), (2, _), (4, _)]) ⟨rfl, rfl, rfl, rfl, trivial⟩ ?_
  refine G.ret Tryd.func65 rfl rfl ?_
  refine ⟨_, rfl, ?_, he⟩
  show Value.bool _ = _
  rw [hmod, shr64 _ _ hm64, tmod2, wrd_has]
  cases s.testBit b.toNat <;> rfl

theorem add_or {x k : Nat} (hx : x < 2 ^ 64) (hk : k < 64) (hb : x.testBit k = false) : x + 2 ^ k = x ||| 2 ^ k := by
  have h2 : 2 ^ k < 2 ^ 64 := Nat.pow_lt_pow_right (by decide) hk
  have hand : (BitVec.ofNat 65 x) &&& (BitVec.ofNat 65 (2 ^ k)) = 0#65 := by
    apply BitVec.eq_of_toNat_eq
    rw [BitVec.toNat_and, BitVec.toNat_ofNat, BitVec.toNat_ofNat, Nat.mod_eq_of_lt (by omega), Nat.mod_eq_of_lt (by omega)]
    apply Nat.eq_of_testBit_eq
    intro i
    rw [Nat.testBit_and, Nat.testBit_two_pow]
    by_cases e : k = i
    · subst e; simp [hb]
    · simp [e]
  have h := congrArg BitVec.toNat (BitVec.add_eq_or_of_and_eq_zero _ _ hand)
  rw [BitVec.toNat_add, BitVec.toNat_or, BitVec.toNat_ofNat, BitVec.toNat_ofNat, Nat.mod_eq_of_lt (show x < 2 ^ 65 by omega), Nat.mod_eq_of_lt (show 2 ^ k < 2 ^ 65 by omega), Nat.mod_eq_of_lt (by omega)] at h
  exact h

theorem or_same {s i : Nat} (h : s.testBit i = true) : s ||| (1 <<< i) = s := by
  apply Nat.eq_of_testBit_eq
  intro j
  rw [Nat.testBit_or, Nat.one_shiftLeft, Nat.testBit_two_pow]
  by_cases e : i = j
  · subst e; simp [h]
  · simp [e]

theorem with_calls {h : Heap} (s a b : Nat) (hb : b ≤ 255) (ha : a ≤ 256) : CallsH Tryd.prog 86 #[.agg (encSet s).toArray, .int .i64 (a : Nat), .int .i64 (b : Nat)] h (Ret fun r h' => r = .agg (encSet (spanN s a (b + 1 - a))).toArray ∧ Ext0 h h') := by
  refine CallsH.of Tryd.func86 rfl rfl ?_
  refine G.seq rfl ?_
  refine G.reg Tryd.func86 rfl ?_
  refine RW.opS rfl rfl rfl rfl (OpX.boxN rfl) ?_
  rintro _ h1 ⟨rfl, hk, he, hz⟩
  refine RW.opS rfl rfl rfl rfl (OpX.allocN H.zr60) ?_
  rintro _ h2 ⟨rfl, hk2, he2, hz2⟩
  have hk : Blk h1 h.size 60 (encSet s) := hk
  have hk1 := hk.ext0 he2
  have hk2 : Blk h2 h1.size 60 (encSet 0) := hk2
  refine RW.done rfl ?_
  refine G.sub (ρ' := [(0, _), (1, _), (2, _), (3, _), (6, _)]) ⟨rfl, rfl, rfl, rfl, rfl, trivial⟩ ?_
  refine G.seq rfl ?_
  refine G.seq rfl ?_
  refine G.reg Tryd.func86 rfl ?_
  refine RW.pureS rfl rfl rfl rfl (OpP.move rfl) ?_
  refine RW.pureS rfl rfl rfl rfl (OpP.assign rfl) ?_
  refine RW.done rfl ?_
  refine G.sub (ρ' := [(0, _), (1, _), (2, _), (3, _), (6, _), (7, _)]) ⟨rfl, rfl, rfl, rfl, rfl, rfl, trivial⟩ ?_
  refine G.block rfl rfl ?_
  refine G.loop (σ := Nat × Nat) (fun q => [(2, .int .i64 (b : Nat)), (3, .pointer (some ⟨h.size, 0, none⟩)), (6, .pointer (some ⟨h1.size, 0, none⟩)), (7, .int .i64 (q.1 : Nat))]) (fun q h' => Blk h' h.size 60 (encSet q.2) ∧ Blk h' h1.size 60 (encSet 0) ∧ Ext0 h h' ∧ q.1 ≤ 256 ∧ spanN q.2 q.1 (b + 1 - q.1) = spanN s a (b + 1 - a)) (fun q => b + 1 - q.1) ((a, s)) rfl ⟨rfl, rfl, rfl, rfl, trivial⟩ ⟨hk1, hk2, he.trans he2, ha, rfl⟩ ?_
  rintro ⟨i, s'⟩ h3 ⟨hk3, hk33, he3, hi, hsp⟩ ih
  try dsimp only
  dsimp only at hk3 hi hsp
  refine G.seq rfl ?_
  refine G.seq rfl ?_
  refine G.reg Tryd.func86 rfl ?_
  refine RW.pureS rfl rfl rfl rfl (OpP.move rfl) ?_
  refine RW.pureS rfl rfl rfl rfl (OpP.move rfl) ?_
  refine RW.pureS rfl rfl rfl rfl (OpP.leq rfl rfl) ?_
  refine RW.done rfl ?_
  refine G.sub (ρ' := [(2, _), (3, _), (6, _), (7, _), (11, _)]) ⟨rfl, rfl, rfl, rfl, rfl, trivial⟩ ?_
  refine G.ite rfl rfl (fun hle => ?_) (fun hle => ?_)
  · rw [spanN_step _ _ _ (by omega)] at hsp
    have hi8 : i < 256 := by omega
    have hub : (UInt8.ofNat i).toNat = i := by simp; omega
    have hcv : IntKind.u8.wrap ((i : Nat) : Int) = (((UInt8.ofNat i).toNat : Nat) : Int) := by rw [hub]; exact wrap_u8 (by omega)
    have hq : i / 64 < 4 := by omega
    have hdiv : IntKind.i64.wrap (((i : Int)).tdiv 64) = ((i / 64 : Nat) : Int) := by
      rw [Int.tdiv_eq_ediv_of_nonneg (by omega), wrap_i64 ⟨by omega, by omega⟩]; omega
    have hmod : ((i : Int)).tmod 64 = ((i % 64 : Nat) : Int) := by rw [Int.tmod_eq_emod_of_nonneg (by omega)]; omega
    refine G.skip rfl ?_
    refine G.seq rfl ?_
    refine G.block rfl rfl ?_
    refine G.seq rfl ?_
    refine G.reg Tryd.func86 rfl ?_
    refine RW.pureS rfl rfl rfl rfl (OpP.loadRowN H.ag60 H.sz60 rfl hk3.row (by first | rfl | simp)) ?_
    refine RW.pureS rfl rfl rfl rfl (OpP.move rfl) ?_
    refine RW.pureS rfl rfl rfl rfl (OpP.convInt Tryd.underlying3 Tryd.underlying5 rfl) ?_
    refine RW.opS rfl rfl rfl rfl (OpX.call (vs := [_, _]) Tryd.func65 rfl H.nm65 rfl (CallsH.toX (hcv ▸ hasR_calls s' (UInt8.ofNat i)))) ?_
    rintro _ h4 ⟨rfl, he4⟩
    refine RW.pureS rfl rfl rfl rfl (OpP.notB rfl) ?_
    refine RW.done rfl ?_
    refine G.sub (ρ' := [(2, _), (3, _), (6, _), (7, _), (11, _), (18, _)]) ⟨rfl, rfl, rfl, rfl, rfl, rfl, trivial⟩ ?_
    have hk4 := hk3.ext0 he4
    have hk44 := hk33.ext0 he4
    rw [hub]
    refine G.cond rfl rfl (fun hnot => ?_) (fun hnot => ?_)
    · have hbit : s'.testBit i = false := by simpa using hnot
      have hw := wrd_lt s' (i / 64)
      have hk4' : Blk h4 h.size 60 [encW s' 0, encW s' 1, encW s' 2, encW s' 3] := hk4
      refine G.draw (fun b => Array.size h4 ≤ b) (fun i => Nat.blt i 11) (sz := 12) (listed := #[false, false, false, false, false, false, false, false, false, false, false, false]) Tryd.func86 H.mixed rfl rfl rfl ?_
      refine RD.takeS 0 (listed' := #[true, false, false, false, false, false, false, false, false, false, false, false]) rfl (by kernel_rfl) (by kernel_rfl) (by kernel_rfl) rfl rfl rfl (fun h' e => OpP.move rfl) rfl ?_
      refine RD.takeS 1 (listed' := #[true, true, false, false, false, false, false, false, false, false, false, false]) rfl (by kernel_rfl) (by kernel_rfl) (by kernel_rfl) rfl rfl rfl (fun h' e => OpP.quo rfl rfl (by decide)) rfl ?_
      refine RD.takeS 2 (listed' := #[true, true, true, false, false, false, false, false, false, false, false, false]) rfl (by kernel_rfl) (by kernel_rfl) (by kernel_rfl) rfl rfl rfl (fun h' e => OpP.move rfl) rfl ?_
      refine RD.takeS 3 (listed' := #[true, true, true, true, false, false, false, false, false, false, false, false]) rfl (by kernel_rfl) (by kernel_rfl) (by kernel_rfl) rfl rfl rfl (fun h' e => OpP.quo rfl rfl (by decide)) rfl ?_
      refine RD.takeS 4 (listed' := #[true, true, true, true, true, false, false, false, false, false, false, false]) rfl (by kernel_rfl) (by kernel_rfl) (by kernel_rfl) rfl rfl rfl (fun h' e => OpP.indexArr Tryd.underlying60 H.sz59 rfl rfl (i / 64) hdiv hq) rfl ?_
      refine RD.takeS 5 (listed' := #[true, true, true, true, true, true, false, false, false, false, false, false]) rfl (by kernel_rfl) (by kernel_rfl) (by kernel_rfl) rfl rfl rfl (fun h' e => OpP.load H.ag59 rfl (e.old (hk4.cell (encSet_word s' _ hq)))) rfl ?_
      refine RD.takeS 6 (listed' := #[true, true, true, true, true, true, true, false, false, false, false, false]) rfl (by kernel_rfl) (by kernel_rfl) (by kernel_rfl) rfl rfl rfl (fun h' e => OpP.move rfl) rfl ?_
      refine RD.takeS 7 (listed' := #[true, true, true, true, true, true, true, true, false, false, false, false]) rfl (by kernel_rfl) (by kernel_rfl) (by kernel_rfl) rfl rfl rfl (fun h' e => OpP.rem rfl rfl (by decide)) rfl ?_
      refine RD.takeS 8 (listed' := #[true, true, true, true, true, true, true, true, true, false, false, false]) rfl (by kernel_rfl) (by kernel_rfl) (by kernel_rfl) rfl rfl rfl (fun h' e => OpP.shl rfl rfl (by rw [hmod]; omega)) rfl ?_
      refine RD.takeS 9 (listed' := #[true, true, true, true, true, true, true, true, true, true, false, false]) rfl (by kernel_rfl) (by kernel_rfl) (by kernel_rfl) rfl rfl rfl (fun h' e => OpP.add rfl rfl) rfl ?_
      refine RD.takeS 10 (listed' := #[true, true, true, true, true, true, true, true, true, true, true, false]) rfl (by kernel_rfl) (by kernel_rfl) (by kernel_rfl) rfl rfl rfl (fun h' e => OpP.indexArr Tryd.underlying60 H.sz59 rfl rfl (i / 64) hdiv hq) rfl ?_
      refine RD.one0 11 (listed' := #[true, true, true, true, true, true, true, true, true, true, true, true]) rfl (by kernel_rfl) rfl rfl (OpX.storeOne H.sz59 rfl rfl hk4' (by first | decide | exact of_decide_eq_true rfl | (simp; done) | (simp; omega)) rfl) rfl ?_
      rintro _ h5 ⟨rfl, hk5, hx5, hz5⟩
      refine ⟨fun hk => (nomatch hk), ?_⟩
      refine RD.done (by kernel_rfl) ?_
      refine G.sub (ρ' := [(2, _), (3, _), (6, _), (7, _), (11, _), (18, _)]) ⟨rfl, rfl, rfl, rfl, rfl, rfl, trivial⟩ ?_
      refine G.blkEnd ?_
      refine G.reg Tryd.func86 rfl ?_
      refine RW.pureS rfl rfl rfl rfl (OpP.move rfl) ?_
      refine RW.pureS rfl rfl rfl rfl (OpP.add64 rfl rfl ⟨by omega, by omega⟩) ?_
      refine RW.pureS rfl rfl rfl rfl (OpP.assign rfl) ?_
      refine RW.done rfl ?_
      refine G.sub (ρ' := [(2, _), (3, _), (6, _), (7, _), (11, _), (18, _)]) ⟨rfl, rfl, rfl, rfl, rfl, rfl, trivial⟩ ?_
      have hval : IntKind.u64.wrap (((wrd s' (i / 64) : Nat) : Int) + IntKind.u64.wrap (1 * 2 ^ min (((i : Int)).tmod 64).toNat IntKind.u64.bits)) = ((wrd s' (i / 64) ||| 2 ^ (i % 64) : Nat) : Int) := by
        have hm64 : i % 64 < 64 := Nat.mod_lt _ (by decide)
        have hbw : (wrd s' (i / 64)).testBit (i % 64) = false := by
          rw [wrd_bit, show 64 * (i / 64) + i % 64 = i from Nat.div_add_mod i 64, hbit]; simp
        rw [hmod, shl64, ← add_or hw hm64 hbw]
        have h2 : 2 ^ (i % 64) < 2 ^ 64 := Nat.pow_lt_pow_right (by decide) hm64
        have h3 : wrd s' (i / 64) ||| 2 ^ (i % 64) < 2 ^ 64 := Nat.or_lt_two_pow hw h2
        rw [← add_or hw hm64 hbw] at h3
        generalize 2 ^ (i % 64) = p at *
        rw [wrap_u64' ⟨by omega, by omega⟩]; omega
      have hk5 : Blk h5 h.size 60 (encSet (s' ||| (1 <<< i))) := by rw [← encSet_with s' i hi8, ← hval]; exact hk5
      exact ih (i + 1, s' ||| (1 <<< i)) _ _ ⟨rfl, rfl, rfl, rfl, trivial⟩ ⟨hk5, hk44.ext hx5 (by show ¬ _ = _; omega), Ext0.only (he3.trans he4) hx5 (Nat.le_refl _), by show i + 1 ≤ 256; omega, by show spanN _ (i + 1) (b + 1 - (i + 1)) = _; rw [← hsp]; rfl⟩ (by show b + 1 - (i + 1) < b + 1 - i; omega)
    · have hbit : s'.testBit i = true := by simpa using hnot
      rw [or_same hbit] at hsp
      refine G.skip rfl ?_
      refine G.blkEnd ?_
      refine G.reg Tryd.func86 rfl ?_
      refine RW.pureS rfl rfl rfl rfl (OpP.move rfl) ?_
      refine RW.pureS rfl rfl rfl rfl (OpP.add64 rfl rfl ⟨by omega, by omega⟩) ?_
      refine RW.pureS rfl rfl rfl rfl (OpP.assign rfl) ?_
      refine RW.done rfl ?_
      refine G.sub (ρ' := [(2, _), (3, _), (6, _), (7, _), (11, _), (18, _)]) ⟨rfl, rfl, rfl, rfl, rfl, rfl, trivial⟩ ?_
      exact ih (i + 1, s') _ _ ⟨rfl, rfl, rfl, rfl, trivial⟩ ⟨hk4, hk44, he3.trans he4, by show i + 1 ≤ 256; omega, by show spanN _ (i + 1) (b + 1 - (i + 1)) = _; rw [← hsp]; rfl⟩ (by show b + 1 - (i + 1) < b + 1 - i; omega)
  · have h0 : b + 1 - i = 0 := by omega
    rw [h0] at hsp
    have hsp : s' = spanN s a (b + 1 - a) := hsp
    subst hsp
    refine G.exit rfl rfl ?_
    refine G.seq rfl ?_
    refine G.reg Tryd.func86 rfl ?_
    refine RW.pureS rfl rfl rfl rfl (OpP.loadRowN H.ag60 H.sz60 rfl hk3.row (by first | rfl | simp)) ?_
    refine RW.op0 rfl rfl rfl (OpX.storeBlk H.sz60 rfl rfl hk33 rfl (by first | decide | exact of_decide_eq_true rfl | (simp; done) | (simp; omega)) (encSet_one _)) ?_
    rintro _ h4 ⟨rfl, hk4, hx4, hz4⟩
    refine RW.done rfl ?_
    refine G.sub (ρ' := [(2, _), (3, _), (6, _), (7, _), (11, _)]) ⟨rfl, rfl, rfl, rfl, rfl, trivial⟩ ?_
    have hk4 : Blk h4 h1.size 60 (encSet (spanN s a (b + 1 - a))) := hk4
    refine G.retC Tryd.func86 rfl (.cons (ResOk.rowN H.ag60 H.sz60 rfl (hk4.row) (by first | rfl | simp)) (.nil)) ?_
    exact ⟨_, rfl, rfl, Ext0.only he3 hx4 (by omega)⟩

theorem spanN_lt : ∀ (n s a : Nat), s < 2 ^ 256 → a + n ≤ 256 → spanN s a n < 2 ^ 256
  | 0, s, a, h, _ => h
  | n + 1, s, a, h, hn => spanN_lt n _ _ (Nat.or_lt_two_pow h (by rw [Nat.one_shiftLeft]; exact Nat.pow_lt_pow_right (by decide) (by omega))) (by omega)

/-- What a reader of trees answers that goes by places. -/
def NodV (n0 : Nat) (h' : Heap) (s : By) (p : Option (Nd × By)) (r : Value) : Prop :=
  match p with
  | none => ∃ (k st : Nat) (w : Value), w.oneCell' = true ∧ r = .tuple #[.agg (ndC k st w).toArray, .int .i64 (-1)]
  | some (x, t) => ∃ (w : Value) (k : Nat), k ≤ s.length ∧ t = s.drop k ∧ r = .tuple #[.agg (ndC x.kind x.set w).toArray, .int .i64 (k : Nat)] ∧ NdAt h' (blw n0) (ndC x.kind x.set w) x

end Go.Proofs.YtlegopbpofofgaaDoor

/- The document's reader of rules: what stands in brackets. -/
namespace Go.Proofs.YtlegopbpofofgaaDoor
open Go Go.Lw
set_option maxRecDepth 20000

theorem spanB_lt {acc : Nat} (a b : UInt8) (h : acc < 2 ^ 256) (hab : a.toNat ≤ b.toNat + 1) : spanB acc a b < 2 ^ 256 := spanN_lt _ _ _ h (by have := a.toNat_lt; have := b.toNat_lt; omega)

theorem notSet_eq {acc o : Nat} (ha : acc < 2 ^ 256) (ho : ∀ i, o.testBit i = (decide (i < 256) && !acc.testBit i)) : o = notSet acc := by
  apply Nat.eq_of_testBit_eq
  intro i
  unfold notSet
  rw [ho, Nat.testBit_xor, show allSet = 2 ^ 256 - 1 from rfl, Nat.testBit_two_pow_sub_one]
  by_cases hi : i < 256
  · simp [hi]
  · have : acc.testBit i = false := Nat.testBit_lt_two_pow (Nat.lt_of_lt_of_le ha (Nat.pow_le_pow_right (by decide) (by omega)))
    simp [hi, this]

theorem from_le {l r : By} {a b : UInt8} (h : fromToP l = some ((a, b), r)) : a.toNat ≤ b.toNat := by
  unfold fromToP at h
  split at h
  · cases h
  · split at h
    · split at h
      · cases h
      · split at h
        · cases h
        · cases h; omega
    · cases h; omega

theorem head_at (s : By) (j : Nat) (c : UInt8) : (atI s j = (c.toNat : Nat)) ↔ (s.drop j).head? = some c := by
  rcases atI_cases s j with ⟨_, hd, ha⟩ | ⟨d, _, _, hd, ha⟩
  · rw [hd, ha]; constructor
    · intro e; omega
    · intro e; cases e
  · rw [hd, ha]
    simp only [List.head?_cons, Option.some.injEq]
    exact ⟨fun e => UInt8.toNat_inj.1 (by omega), fun e => by rw [e]⟩

theorem tail_drop (s : By) (j : Nat) : (s.drop j).tail = s.drop (j + 1) := by rw [List.tail_drop]

theorem ndC_part (k s : Nat) (w : Value) : ∀ (j : Nat) (v : Value), (encSet s)[j]? = some v → (ndC k s w)[1 + j]? = some v
  | 0, _, h => h
  | 1, _, h => h
  | 2, _, h => h
  | 3, _, h => h
  | _ + 4, _, h => by simp [encSet] at h

theorem bits_with {o acc b : Nat} (h : ∀ i, o.testBit i = (decide (i < b) && !acc.testBit i)) (hb : acc.testBit b = false) (i : Nat) : (o ||| (1 <<< b)).testBit i = (decide (i < b + 1) && !acc.testBit i) := by
  rw [Nat.testBit_or, h, Nat.one_shiftLeft, Nat.testBit_two_pow]
  by_cases e : b = i
  · subst e; simp [hb]
  · by_cases e2 : i < b
    · simp [e, e2, show i < b + 1 by omega]
    · simp [e, e2, show ¬ i < b + 1 by omega]

theorem bits_keep {o acc b : Nat} (h : ∀ i, o.testBit i = (decide (i < b) && !acc.testBit i)) (hb : acc.testBit b = true) (i : Nat) : o.testBit i = (decide (i < b + 1) && !acc.testBit i) := by
  rw [h]
  by_cases e : b = i
  · subst e; simp [hb]
  · by_cases e2 : i < b
    · simp [e2, show i < b + 1 by omega]
    · simp [e2, show ¬ i < b + 1 by omega]

theorem bracketR_calls {h : Heap} (s : By) (i : Nat) (hi : i ≤ s.length) (hs : s.length ≤ 1000000) : CallsH Tryd.prog 85 #[.string (bs s), .int .i64 (i : Nat)] h (Ret fun r h' => NodV h.size h' s (bracketP (s.drop i)) r ∧ Ext0 h h') := by
  have hbr := bracketP_cont (s.drop i)
  refine CallsH.of Tryd.func85 rfl rfl ?_
  refine G.seq rfl ?_
  refine G.reg Tryd.func85 rfl ?_
  refine RW.opS rfl rfl rfl rfl (OpX.allocN H.zr94) ?_
  rintro _ h1 ⟨rfl, hkr, he1, hz1⟩
  refine RW.pureS rfl rfl rfl rfl (OpP.assign rfl) ?_
  refine RW.done rfl ?_
  refine G.sub (ρ' := [(0, _), (1, _), (4, _), (5, _)]) ⟨rfl, rfl, rfl, rfl, trivial⟩ ?_
  refine G.seq rfl ?_
  refine G.reg Tryd.func85 rfl ?_
  refine RW.pureS rfl rfl rfl rfl (OpP.build (H.bd94_0 _) rfl) ?_
  refine RW.opS rfl rfl rfl rfl (OpX.allocN H.zr94) ?_
  rintro _ h2 ⟨rfl, hk2, he2, hz2⟩
  refine RW.op0 rfl rfl rfl (OpX.storeBlk H.sz94 rfl rfl hk2 rfl (by first | decide | exact of_decide_eq_true rfl | (simp; done) | (simp; omega)) (by first | decide | simp [Value.oneCell'])) ?_
  rintro _ h3 ⟨rfl, hk3, hx3, hz3⟩
  have hk3 : Blk h3 h1.size 94 (ndC 1 0 (.slice none 0 0)) := hk3
  have hkr : Blk h1 h.size 94 (ndC 0 0 (.slice none 0 0)) := hkr
  have e3 : Ext0 h h3 := Ext0.only (he1.trans he2) hx3 (by omega)
  have hkr3 : Blk h3 h.size 94 (ndC 0 0 (.slice none 0 0)) := (hkr.ext0 he2).ext hx3 (by show ¬ _ = _; omega)
  refine RW.done rfl ?_
  refine G.sub (ρ' := [(0, _), (1, _), (4, _), (5, _), (6, _)]) ⟨rfl, rfl, rfl, rfl, rfl, trivial⟩ ?_
  refine G.seq rfl ?_
  refine G.reg Tryd.func85 rfl ?_
  refine RW.pureS rfl rfl rfl rfl (OpP.move rfl) ?_
  refine RW.pureS rfl rfl rfl rfl (OpP.move rfl) ?_
  refine RW.opS rfl rfl rfl rfl (OpX.call (vs := [_, _]) Tryd.func77 rfl H.nm77 rfl (CallsH.toX (at_calls s i))) ?_
  rintro _ h3 ⟨rfl, rfl⟩
  refine RW.pureS rfl rfl rfl rfl (OpP.eqlInt rfl rfl) ?_
  refine RW.pureS rfl rfl rfl rfl (OpP.assign rfl) ?_
  refine RW.done rfl ?_
  refine G.sub (ρ' := [(0, _), (1, _), (4, _), (5, _), (6, _), (7, _)]) ⟨rfl, rfl, rfl, rfl, rfl, rfl, trivial⟩ ?_
  refine G.seq rfl ?_
  refine G.seq rfl ?_
  refine G.reg Tryd.func85 rfl ?_
  refine RW.pureS rfl rfl rfl rfl (OpP.move rfl) ?_
  refine RW.done rfl ?_
  refine G.sub (ρ' := [(0, _), (1, _), (4, _), (5, _), (6, _), (7, _), (19, _)]) ⟨rfl, rfl, rfl, rfl, rfl, rfl, rfl, trivial⟩ ?_
  have go : ∀ (nt : Bool) (i1 : Nat) (h' : Heap) (ρ' : Env), Sub [(0, .string (bs s)), (1, .int .i64 (i1 : Nat)), (4, .pointer (some ⟨h.size, 0, none⟩)), (6, .pointer (some ⟨h1.size, 0, none⟩)), (7, .bool nt)] ρ' → h' = h3 → nt = decide ((s.drop i).head? = some 94) → i1 ≤ s.length → s.drop i1 = (if (s.drop i).head? = some 94 then (s.drop i).tail else s.drop i) → G Tryd.prog 85 Tryd.f85 [.code [1, 1, 1, 1]] ρ' h' (Ret fun r h' => NodV h.size h' s (bracketP (s.drop i)) r ∧ Ext0 h h') := by
    rintro nt i1 h3 ρ' hsub rfl hnt hi1 hd1
    rw [← hd1] at hbr
    generalize htg : contP true 0 (s.drop i1) = tgt at hbr
    refine G.sub (ρ' := [(0, .string (bs s)), (1, .int .i64 (i1 : Nat)), (4, .pointer (some ⟨h.size, 0, none⟩)), (6, .pointer (some ⟨h1.size, 0, none⟩)), (7, .bool nt)]) hsub ?_
    refine G.seq rfl ?_
    refine G.seq rfl ?_
    refine G.reg Tryd.func85 rfl ?_
    refine RW.pureS rfl rfl rfl rfl (OpP.assign rfl) ?_
    refine RW.done rfl ?_
    refine G.sub (ρ' := [(0, _), (1, _), (4, _), (6, _), (7, _), (8, _)]) ⟨rfl, rfl, rfl, rfl, rfl, rfl, trivial⟩ ?_
    refine G.block rfl rfl ?_
    refine G.loop (σ := Nat × Nat × Nat) (fun q => [(0, .string (bs s)), (1, .int .i64 (q.2.2 : Nat)), (4, .pointer (some ⟨h.size, 0, none⟩)), (6, .pointer (some ⟨h1.size, 0, none⟩)), (7, .bool nt), (8, .int .i64 (q.1 : Nat))]) (fun q h' => Blk h' h1.size 94 (ndC 1 q.2.1 (.slice none 0 0)) ∧ Blk h' h.size 94 (ndC 0 0 (.slice none 0 0)) ∧ Ext0 h h' ∧ (q.2.2 ≤ s.length ∧ q.1 ≤ q.2.2 ∧ q.2.1 < 2 ^ 256) ∧ contP (q.1 == 0) q.2.1 (s.drop q.2.2) = tgt) (fun q => s.length - q.2.2) ((0, 0, i1)) rfl ⟨rfl, rfl, rfl, rfl, rfl, rfl, trivial⟩ ⟨hk3, hkr3, e3, ⟨hi1, Nat.zero_le _, by show (0 : Nat) < 2 ^ 256; decide⟩, htg⟩ ?_
    rintro ⟨many, acc, j⟩ h5 ⟨hk5, hkr5, e5, ⟨hj, hmj, hacc⟩, hcon⟩ ih
    try dsimp only
    dsimp only at hk5 hj hmj hacc hcon
    have hlt5 := hk5.lt
    refine G.seq rfl ?_
    refine G.seq rfl ?_
    refine G.regTo1 [(29, .bool (decide (¬((many == 0) = false ∧ (s.drop j).head? = some 93))))] [(0, _), (1, _), (4, _), (6, _), (7, _), (8, _)] ⟨rfl, rfl, rfl, rfl, rfl, rfl, trivial⟩ Tryd.func85 rfl ?_ ?_
    · refine RW.pureS rfl rfl rfl rfl (OpP.move rfl) ?_
      refine RW.pureS rfl rfl rfl rfl (OpP.eqlInt rfl rfl) ?_
      refine RW.pureS rfl rfl rfl rfl (OpP.move rfl) ?_
      refine RW.split (d := 24) rfl (fun hm => ?_) (fun hm => ?_)
      · have hm : many = 0 := by have := of_decide_eq_true hm; omega
        refine RW.skipS rfl rfl rfl rfl ?_
        refine RW.skipS rfl rfl rfl rfl ?_
        refine RW.skipS rfl rfl rfl rfl ?_
        refine RW.skipS rfl rfl rfl rfl ?_
        refine RW.pureS rfl rfl rfl rfl (OpP.pickT rfl rfl) ?_
        refine RW.done rfl ?_
        exact ⟨rfl, at_bool rfl (by simp [hm]), rfl, rfl, rfl, rfl, rfl, rfl, trivial⟩
      · have hm : ¬ many = 0 := by have := of_decide_eq_false hm; omega
        refine RW.pureS rfl rfl rfl rfl (OpP.move rfl) ?_
        refine RW.pureS rfl rfl rfl rfl (OpP.move rfl) ?_
        refine RW.opS rfl rfl rfl rfl (OpX.call (vs := [_, _]) Tryd.func77 rfl H.nm77 rfl (CallsH.toX (at_calls s j))) ?_
        rintro _ h5 ⟨rfl, rfl⟩
        refine RW.pureS rfl rfl rfl rfl (OpP.neqInt rfl rfl) ?_
        refine RW.pureS rfl rfl rfl rfl (OpP.pickF rfl rfl) ?_
        refine RW.done rfl ?_
        exact ⟨rfl, at_bool rfl (by simp only [show (many == 0) = false by simpa using hm, true_and]; exact decide_eq_decide.2 (not_congr (head_at s j 93))), rfl, rfl, rfl, rfl, rfl, rfl, trivial⟩
    · refine G.ite rfl rfl (fun hgo => ?_) (fun hgo => ?_)
      · refine G.skip rfl ?_
        refine G.seq rfl ?_
        refine G.block rfl rfl ?_
        refine G.seq rfl ?_
        refine G.reg Tryd.func85 rfl ?_
        refine RW.pureS rfl rfl rfl rfl (OpP.move rfl) ?_
        refine RW.pureS rfl rfl rfl rfl (OpP.move rfl) ?_
        refine RW.opS rfl rfl rfl rfl (OpX.call (vs := [_, _, _]) Tryd.func87 rfl H.nm87 rfl (CallsH.toX (letterR_calls s j hj hs true))) ?_
        rintro _ h5 ⟨hl, rfl⟩
        rw [letR_true] at hl
        rcases hp : letP (s.drop j) with _ | ⟨a, r⟩ <;> rw [hp] at hl
        · obtain ⟨b0, rfl⟩ := hl
          have hnone : bracketP (s.drop i) = none := by rw [hbr, ← hcon, contP_none hgo (from1 hp)]; rfl
          refine RW.pureS rfl rfl rfl rfl (OpP.move rfl) ?_
          refine RW.pureS rfl rfl rfl rfl (OpP.extract rfl rfl) ?_
          refine RW.pureS rfl rfl rfl rfl (OpP.extract rfl rfl) ?_
          refine RW.pureS rfl rfl rfl rfl (OpP.assign rfl) ?_
          refine RW.pureS rfl rfl rfl rfl (OpP.assign rfl) ?_
          refine RW.done rfl ?_
          refine G.sub (ρ' := [(0, _), (1, _), (4, _), (6, _), (7, _), (8, _), (9, _), (10, _), (29, _)]) ⟨rfl, rfl, rfl, rfl, rfl, rfl, rfl, rfl, rfl, trivial⟩ ?_
          refine G.seq rfl ?_
          refine G.seq rfl ?_
          refine G.reg Tryd.func85 rfl ?_
          refine RW.pureS rfl rfl rfl rfl (OpP.move rfl) ?_
          refine RW.pureS rfl rfl rfl rfl (OpP.lss rfl rfl) ?_
          refine RW.done rfl ?_
          refine G.sub (ρ' := [(0, _), (1, _), (4, _), (6, _), (7, _), (8, _), (9, _), (10, _), (29, _), (39, _)]) ⟨rfl, rfl, rfl, rfl, rfl, rfl, rfl, rfl, rfl, rfl, trivial⟩ ?_
          refine G.cond rfl rfl (fun _ => ?_) (fun hc => absurd hc (by decide))
          refine G.seq rfl ?_
          refine G.reg Tryd.func85 rfl ?_
          refine RW.pureS rfl rfl rfl rfl (OpP.loadRowN H.ag94 H.sz94 rfl hk5.row (by first | rfl | simp)) ?_
          refine RW.op0 rfl rfl rfl (OpX.storeBlk H.sz94 rfl rfl hkr5 rfl (by first | decide | exact of_decide_eq_true rfl | (simp; done) | (simp; omega)) (NdAt.one (NdAt.leaf h5 (fun _ => False) 1 acc))) ?_
          rintro _ h6 ⟨rfl, hk6, hx6, hz6⟩
          refine RW.pureS rfl rfl rfl rfl (OpP.assign rfl) ?_
          refine RW.done rfl ?_
          refine G.sub (ρ' := [(0, _), (1, _), (4, _), (5, _), (6, _), (7, _), (8, _), (9, _), (10, _), (29, _), (39, _)]) ⟨rfl, rfl, rfl, rfl, rfl, rfl, rfl, rfl, rfl, rfl, rfl, trivial⟩ ?_
          have hk6 : Blk h6 h.size 94 (ndC 1 acc (.slice none 0 0)) := hk6
          refine G.retC Tryd.func85 rfl (.cons (ResOk.rowN H.ag94 H.sz94 rfl (hk6.row) (by first | rfl | simp)) (.cons (ResOk.tmp rfl) (.nil))) ?_
          exact ⟨_, rfl, by rw [hnone]; exact ⟨1, acc, _, rfl, rfl⟩, Ext0.only e5 hx6 (Nat.le_refl _)⟩
        · obtain ⟨k, hk, rfl, rfl⟩ := hl
          have hrl := letP_len hp
          simp only [List.length_drop] at hrl
          refine RW.pureS rfl rfl rfl rfl (OpP.move rfl) ?_
          refine RW.pureS rfl rfl rfl rfl (OpP.extract rfl rfl) ?_
          refine RW.pureS rfl rfl rfl rfl (OpP.extract rfl rfl) ?_
          refine RW.pureS rfl rfl rfl rfl (OpP.assign rfl) ?_
          refine RW.pureS rfl rfl rfl rfl (OpP.assign rfl) ?_
          refine RW.done rfl ?_
          refine G.sub (ρ' := [(0, _), (1, _), (4, _), (6, _), (7, _), (8, _), (9, _), (10, _), (29, _)]) ⟨rfl, rfl, rfl, rfl, rfl, rfl, rfl, rfl, rfl, trivial⟩ ?_
          refine G.seq rfl ?_
          refine G.seq rfl ?_
          refine G.reg Tryd.func85 rfl ?_
          refine RW.pureS rfl rfl rfl rfl (OpP.move rfl) ?_
          refine RW.pureS rfl rfl rfl rfl (OpP.lss rfl rfl) ?_
          refine RW.done rfl ?_
          refine G.sub (ρ' := [(0, _), (1, _), (4, _), (6, _), (7, _), (8, _), (9, _), (10, _), (29, _), (39, _)]) ⟨rfl, rfl, rfl, rfl, rfl, rfl, rfl, rfl, rfl, rfl, trivial⟩ ?_
          refine G.cond rfl rfl (fun hc => absurd hc (by simp)) (fun _ => ?_)
          refine G.skip rfl ?_
          refine G.seq rfl ?_
          refine G.reg Tryd.func85 rfl ?_
          refine RW.pureS rfl rfl rfl rfl (OpP.move rfl) ?_
          refine RW.pureS rfl rfl rfl rfl (OpP.assign rfl) ?_
          refine RW.done rfl ?_
          refine G.sub (ρ' := [(0, _), (1, _), (4, _), (6, _), (7, _), (8, _), (9, _), (10, _), (11, _), (29, _), (39, _)]) ⟨rfl, rfl, rfl, rfl, rfl, rfl, rfl, rfl, rfl, rfl, rfl, trivial⟩ ?_
          refine G.seq rfl ?_
          refine G.seq rfl ?_
          refine G.reg Tryd.func85 rfl ?_
          refine RW.pureS rfl rfl rfl rfl (OpP.move rfl) ?_
          refine RW.pureS rfl rfl rfl rfl (OpP.move rfl) ?_
          refine RW.opS rfl rfl rfl rfl (OpX.call (vs := [_, _]) Tryd.func77 rfl H.nm77 rfl (CallsH.toX (at_calls s k))) ?_
          rintro _ h5 ⟨rfl, rfl⟩
          refine RW.pureS rfl rfl rfl rfl (OpP.eqlInt rfl rfl) ?_
          refine RW.done rfl ?_
          refine G.sub (ρ' := [(0, _), (1, _), (4, _), (6, _), (7, _), (8, _), (9, _), (10, _), (11, _), (29, _), (39, _), (45, _)]) ⟨rfl, rfl, rfl, rfl, rfl, rfl, rfl, rfl, rfl, rfl, rfl, rfl, trivial⟩ ?_
          refine G.ite rfl rfl (fun h45 => ?_) (fun h45 => ?_)
          · have a1 := (head_at s k 45).1 h45
            have hk1 : k + 1 ≤ s.length := by
              rcases atI_cases s k with ⟨_, hd, _⟩ | ⟨_, _, hlt, _, _⟩
              · rw [hd] at a1; cases a1
              · exact hlt
            refine G.seq rfl ?_
            refine G.reg Tryd.func85 rfl ?_
            refine RW.pureS rfl rfl rfl rfl (OpP.move rfl) ?_
            refine RW.pureS rfl rfl rfl rfl (OpP.move rfl) ?_
            refine RW.pureS rfl rfl rfl rfl (OpP.add64 rfl rfl ⟨by omega, by omega⟩) ?_
            refine RW.opS rfl rfl rfl rfl (OpX.call (vs := [_, _, _]) Tryd.func87 rfl H.nm87 rfl (CallsH.toX (letterR_calls s (k + 1) hk1 hs true))) ?_
            rintro _ h5 ⟨hl2, rfl⟩
            rw [letR_true] at hl2
            rcases hp2 : letP (s.drop (k + 1)) with _ | ⟨b, r2⟩ <;> rw [hp2] at hl2
            · obtain ⟨b0, rfl⟩ := hl2
              have hnone : bracketP (s.drop i) = none := by rw [hbr, ← hcon, contP_none hgo (from3 hp a1 (by rw [tail_drop]; exact hp2))]; rfl
              refine RW.pureS rfl rfl rfl rfl (OpP.move rfl) ?_
              refine RW.pureS rfl rfl rfl rfl (OpP.extract rfl rfl) ?_
              refine RW.pureS rfl rfl rfl rfl (OpP.extract rfl rfl) ?_
              refine RW.pureS rfl rfl rfl rfl (OpP.assign rfl) ?_
              refine RW.pureS rfl rfl rfl rfl (OpP.assign rfl) ?_
              refine RW.done rfl ?_
              refine G.sub (ρ' := [(0, _), (1, _), (4, _), (6, _), (7, _), (8, _), (9, _), (10, _), (11, _), (29, _), (39, _), (45, _)]) ⟨rfl, rfl, rfl, rfl, rfl, rfl, rfl, rfl, rfl, rfl, rfl, rfl, trivial⟩ ?_
              refine G.seq rfl ?_
              refine G.regTo1 [(59, .bool true)] [(0, _), (1, _), (4, _), (6, _), (7, _), (8, _), (9, _), (10, _), (11, _), (29, _), (39, _), (45, _)] ⟨rfl, rfl, rfl, rfl, rfl, rfl, rfl, rfl, rfl, rfl, rfl, rfl, trivial⟩ Tryd.func85 rfl ?_ ?_
              · refine RW.pureS rfl rfl rfl rfl (OpP.move rfl) ?_
                refine RW.pureS rfl rfl rfl rfl (OpP.lss rfl rfl) ?_
                refine RW.pureS rfl rfl rfl rfl (OpP.move rfl) ?_
                refine RW.know (d := 55) (b' := true) rfl (decide_eq_true (by decide)) ?_
                refine RW.skipS rfl rfl rfl rfl ?_
                refine RW.skipS rfl rfl rfl rfl ?_
                refine RW.skipS rfl rfl rfl rfl ?_
                refine RW.pureS rfl rfl rfl rfl (OpP.pickT rfl rfl) ?_
                refine RW.done rfl ?_
                exact ⟨rfl, at_bool rfl (rfl), rfl, rfl, rfl, rfl, rfl, rfl, rfl, rfl, rfl, rfl, rfl, rfl, trivial⟩
              · refine G.cond rfl rfl (fun _ => ?_) (fun hc => absurd hc (by decide))
                refine G.seq rfl ?_
                refine G.reg Tryd.func85 rfl ?_
                refine RW.pureS rfl rfl rfl rfl (OpP.loadRowN H.ag94 H.sz94 rfl hk5.row (by first | rfl | simp)) ?_
                refine RW.op0 rfl rfl rfl (OpX.storeBlk H.sz94 rfl rfl hkr5 rfl (by first | decide | exact of_decide_eq_true rfl | (simp; done) | (simp; omega)) (NdAt.one (NdAt.leaf h5 (fun _ => False) 1 acc))) ?_
                rintro _ h6 ⟨rfl, hk6, hx6, hz6⟩
                refine RW.pureS rfl rfl rfl rfl (OpP.assign rfl) ?_
                refine RW.done rfl ?_
                refine G.sub (ρ' := [(0, _), (1, _), (4, _), (5, _), (6, _), (7, _), (8, _), (9, _), (10, _), (11, _), (29, _), (39, _), (45, _), (59, _)]) ⟨rfl, rfl, rfl, rfl, rfl, rfl, rfl, rfl, rfl, rfl, rfl, rfl, rfl, rfl, trivial⟩ ?_
                have hk6 : Blk h6 h.size 94 (ndC 1 acc (.slice none 0 0)) := hk6
                refine G.retC Tryd.func85 rfl (.cons (ResOk.rowN H.ag94 H.sz94 rfl (hk6.row) (by first | rfl | simp)) (.cons (ResOk.tmp rfl) (.nil))) ?_
                exact ⟨_, rfl, by rw [hnone]; exact ⟨1, acc, _, rfl, rfl⟩, Ext0.only e5 hx6 (Nat.le_refl _)⟩
            · obtain ⟨k2, hk2', rfl, rfl⟩ := hl2
              have hbl := letP_len hp2
              simp only [List.length_drop] at hbl
              have hf4 := from4 hp a1 (by rw [tail_drop]; exact hp2)
              have hbt := b.toNat_lt
              have hat := a.toNat_lt
              refine RW.pureS rfl rfl rfl rfl (OpP.move rfl) ?_
              refine RW.pureS rfl rfl rfl rfl (OpP.extract rfl rfl) ?_
              refine RW.pureS rfl rfl rfl rfl (OpP.extract rfl rfl) ?_
              refine RW.pureS rfl rfl rfl rfl (OpP.assign rfl) ?_
              refine RW.pureS rfl rfl rfl rfl (OpP.assign rfl) ?_
              refine RW.done rfl ?_
              refine G.sub (ρ' := [(0, _), (1, _), (4, _), (6, _), (7, _), (8, _), (9, _), (10, _), (11, _), (29, _), (39, _), (45, _)]) ⟨rfl, rfl, rfl, rfl, rfl, rfl, rfl, rfl, rfl, rfl, rfl, rfl, trivial⟩ ?_
              refine G.seq rfl ?_
              refine G.regTo1 [(59, .bool (decide (b.toNat < a.toNat)))] [(0, _), (1, _), (4, _), (6, _), (7, _), (8, _), (9, _), (10, _), (11, _), (29, _), (39, _), (45, _)] ⟨rfl, rfl, rfl, rfl, rfl, rfl, rfl, rfl, rfl, rfl, rfl, rfl, trivial⟩ Tryd.func85 rfl ?_ ?_
              · refine RW.pureS rfl rfl rfl rfl (OpP.move rfl) ?_
                refine RW.pureS rfl rfl rfl rfl (OpP.lss rfl rfl) ?_
                refine RW.pureS rfl rfl rfl rfl (OpP.move rfl) ?_
                refine RW.know (d := 55) (b' := false) rfl (decide_eq_false (by simp)) ?_
                refine RW.pureS rfl rfl rfl rfl (OpP.move rfl) ?_
                refine RW.pureS rfl rfl rfl rfl (OpP.move rfl) ?_
                refine RW.pureS rfl rfl rfl rfl (OpP.lss rfl rfl) ?_
                refine RW.pureS rfl rfl rfl rfl (OpP.pickF rfl rfl) ?_
                refine RW.done rfl ?_
                exact ⟨rfl, at_bool rfl (by simp), rfl, rfl, rfl, rfl, rfl, rfl, rfl, rfl, rfl, rfl, rfl, rfl, trivial⟩
              · refine G.ite rfl rfl (fun hlow => ?_) (fun hlow => ?_)
                · rw [if_pos hlow] at hf4
                  have hnone : bracketP (s.drop i) = none := by rw [hbr, ← hcon, contP_none hgo hf4]; rfl
                  refine G.seq rfl ?_
                  refine G.reg Tryd.func85 rfl ?_
                  refine RW.pureS rfl rfl rfl rfl (OpP.loadRowN H.ag94 H.sz94 rfl hk5.row (by first | rfl | simp)) ?_
                  refine RW.op0 rfl rfl rfl (OpX.storeBlk H.sz94 rfl rfl hkr5 rfl (by first | decide | exact of_decide_eq_true rfl | (simp; done) | (simp; omega)) (NdAt.one (NdAt.leaf h5 (fun _ => False) 1 acc))) ?_
                  rintro _ h6 ⟨rfl, hk6, hx6, hz6⟩
                  refine RW.pureS rfl rfl rfl rfl (OpP.assign rfl) ?_
                  refine RW.done rfl ?_
                  refine G.sub (ρ' := [(0, _), (1, _), (4, _), (5, _), (6, _), (7, _), (8, _), (9, _), (10, _), (11, _), (29, _), (39, _), (45, _), (59, _)]) ⟨rfl, rfl, rfl, rfl, rfl, rfl, rfl, rfl, rfl, rfl, rfl, rfl, rfl, rfl, trivial⟩ ?_
                  have hk6 : Blk h6 h.size 94 (ndC 1 acc (.slice none 0 0)) := hk6
                  refine G.retC Tryd.func85 rfl (.cons (ResOk.rowN H.ag94 H.sz94 rfl (hk6.row) (by first | rfl | simp)) (.cons (ResOk.tmp rfl) (.nil))) ?_
                  exact ⟨_, rfl, by rw [hnone]; exact ⟨1, acc, _, rfl, rfl⟩, Ext0.only e5 hx6 (Nat.le_refl _)⟩
                · rw [if_neg hlow] at hf4
                  have hsp := contP_some (acc := acc) hgo hf4
                  refine G.skip rfl ?_
                  refine G.seq rfl ?_
                  refine G.reg Tryd.func85 rfl ?_
                  refine RW.pureS rfl rfl rfl rfl (OpP.fieldAddr (off := 1) Tryd.underlying94 rfl rfl H.sz60 rfl) ?_
                  refine RW.pureS rfl rfl rfl rfl (OpP.loadRowN H.ag60 H.sz60 rfl (show Lw.rowAt h5 h1.size 1 (encSet acc) from hk5.part 1 (ndC_part _ _ _)) (by first | rfl | simp)) ?_
                  refine RW.pureS rfl rfl rfl rfl (OpP.move rfl) ?_
                  refine RW.pureS rfl rfl rfl rfl (OpP.convIn Tryd.underlying5 Tryd.underlying3 rfl (wrap_i64 ⟨by omega, by omega⟩)) ?_
                  refine RW.pureS rfl rfl rfl rfl (OpP.move rfl) ?_
                  refine RW.pureS rfl rfl rfl rfl (OpP.convIn Tryd.underlying5 Tryd.underlying3 rfl (wrap_i64 ⟨by omega, by omega⟩)) ?_
                  refine RW.opS rfl rfl rfl rfl (OpX.call (vs := [_, _, _]) Tryd.func86 rfl H.nm86 rfl (CallsH.toX (with_calls acc a.toNat b.toNat (by omega) (by omega)))) ?_
                  rintro _ h6 ⟨rfl, he6⟩
                  refine RW.pureS rfl rfl rfl rfl (OpP.fieldAddr (off := 1) Tryd.underlying94 rfl rfl H.sz60 rfl) ?_
                  refine RW.op0 rfl rfl rfl (OpX.storeBlk H.sz60 rfl rfl (hk5.ext0 he6) rfl (by first | decide | exact of_decide_eq_true rfl | (simp; done) | (simp; omega)) (encSet_one _)) ?_
                  rintro _ h7 ⟨rfl, hk7, hx7, hz7⟩
                  refine RW.done rfl ?_
                  refine G.sub (ρ' := [(0, _), (1, _), (4, _), (6, _), (7, _), (8, _), (9, _), (10, _), (11, _), (29, _), (39, _), (45, _), (59, _)]) ⟨rfl, rfl, rfl, rfl, rfl, rfl, rfl, rfl, rfl, rfl, rfl, rfl, rfl, trivial⟩ ?_
                  refine G.reg Tryd.func85 rfl ?_
                  refine RW.pureS rfl rfl rfl rfl (OpP.move rfl) ?_
                  refine RW.pureS rfl rfl rfl rfl (OpP.assign rfl) ?_
                  refine RW.done rfl ?_
                  refine G.sub (ρ' := [(0, _), (1, _), (4, _), (6, _), (7, _), (8, _), (9, _), (10, _), (11, _), (29, _), (39, _), (45, _), (59, _)]) ⟨rfl, rfl, rfl, rfl, rfl, rfl, rfl, rfl, rfl, rfl, rfl, rfl, rfl, trivial⟩ ?_
                  refine G.blkEnd ?_
                  refine G.reg Tryd.func85 rfl ?_
                  refine RW.pureS rfl rfl rfl rfl (OpP.move rfl) ?_
                  refine RW.pureS rfl rfl rfl rfl (OpP.add64 rfl rfl ⟨by omega, by omega⟩) ?_
                  refine RW.pureS rfl rfl rfl rfl (OpP.assign rfl) ?_
                  refine RW.done rfl ?_
                  refine G.sub (ρ' := [(0, _), (1, _), (4, _), (6, _), (7, _), (8, _), (9, _), (10, _), (11, _), (29, _), (39, _), (45, _), (59, _)]) ⟨rfl, rfl, rfl, rfl, rfl, rfl, rfl, rfl, rfl, rfl, rfl, rfl, rfl, trivial⟩ ?_
                  have hk7 : Blk h7 h1.size 94 (ndC 1 (spanB acc a b) (.slice none 0 0)) := hk7
                  exact ih (many + 1, spanB acc a b, k2) _ _ ⟨rfl, rfl, rfl, rfl, rfl, rfl, trivial⟩ ⟨hk7, (hkr5.ext0 he6).ext hx7 (by show ¬ _ = _; omega), Ext0.only (e5.trans he6) hx7 (by omega), ⟨hk2', by show many + 1 ≤ k2; omega, spanB_lt a b hacc (by omega)⟩, by rw [← hcon, hsp]; rfl⟩ (by show s.length - k2 < s.length - j; omega)
          · have a1 : (s.drop k).head? ≠ some 45 := fun e => h45 ((head_at s k 45).2 e)
            have hf2 := from2 hp a1
            have hat := a.toNat_lt
            have hsp := contP_some (acc := acc) hgo hf2
            refine G.skip rfl ?_
            refine G.seq rfl ?_
            refine G.reg Tryd.func85 rfl ?_
            refine RW.pureS rfl rfl rfl rfl (OpP.fieldAddr (off := 1) Tryd.underlying94 rfl rfl H.sz60 rfl) ?_
            refine RW.pureS rfl rfl rfl rfl (OpP.loadRowN H.ag60 H.sz60 rfl (show Lw.rowAt h5 h1.size 1 (encSet acc) from hk5.part 1 (ndC_part _ _ _)) (by first | rfl | simp)) ?_
            refine RW.pureS rfl rfl rfl rfl (OpP.move rfl) ?_
            refine RW.pureS rfl rfl rfl rfl (OpP.convIn Tryd.underlying5 Tryd.underlying3 rfl (wrap_i64 ⟨by omega, by omega⟩)) ?_
            refine RW.pureS rfl rfl rfl rfl (OpP.move rfl) ?_
            refine RW.pureS rfl rfl rfl rfl (OpP.convIn Tryd.underlying5 Tryd.underlying3 rfl (wrap_i64 ⟨by omega, by omega⟩)) ?_
            refine RW.opS rfl rfl rfl rfl (OpX.call (vs := [_, _, _]) Tryd.func86 rfl H.nm86 rfl (CallsH.toX (with_calls acc a.toNat a.toNat (by omega) (by omega)))) ?_
            rintro _ h6 ⟨rfl, he6⟩
            refine RW.pureS rfl rfl rfl rfl (OpP.fieldAddr (off := 1) Tryd.underlying94 rfl rfl H.sz60 rfl) ?_
            refine RW.op0 rfl rfl rfl (OpX.storeBlk H.sz60 rfl rfl (hk5.ext0 he6) rfl (by first | decide | exact of_decide_eq_true rfl | (simp; done) | (simp; omega)) (encSet_one _)) ?_
            rintro _ h7 ⟨rfl, hk7, hx7, hz7⟩
            refine RW.done rfl ?_
            refine G.sub (ρ' := [(0, _), (1, _), (4, _), (6, _), (7, _), (8, _), (9, _), (10, _), (11, _), (29, _), (39, _), (45, _)]) ⟨rfl, rfl, rfl, rfl, rfl, rfl, rfl, rfl, rfl, rfl, rfl, rfl, trivial⟩ ?_
            refine G.reg Tryd.func85 rfl ?_
            refine RW.pureS rfl rfl rfl rfl (OpP.move rfl) ?_
            refine RW.pureS rfl rfl rfl rfl (OpP.assign rfl) ?_
            refine RW.done rfl ?_
            refine G.sub (ρ' := [(0, _), (1, _), (4, _), (6, _), (7, _), (8, _), (9, _), (10, _), (11, _), (29, _), (39, _), (45, _)]) ⟨rfl, rfl, rfl, rfl, rfl, rfl, rfl, rfl, rfl, rfl, rfl, rfl, trivial⟩ ?_
            refine G.blkEnd ?_
            refine G.reg Tryd.func85 rfl ?_
            refine RW.pureS rfl rfl rfl rfl (OpP.move rfl) ?_
            refine RW.pureS rfl rfl rfl rfl (OpP.add64 rfl rfl ⟨by omega, by omega⟩) ?_
            refine RW.pureS rfl rfl rfl rfl (OpP.assign rfl) ?_
            refine RW.done rfl ?_
            refine G.sub (ρ' := [(0, _), (1, _), (4, _), (6, _), (7, _), (8, _), (9, _), (10, _), (11, _), (29, _), (39, _), (45, _)]) ⟨rfl, rfl, rfl, rfl, rfl, rfl, rfl, rfl, rfl, rfl, rfl, rfl, trivial⟩ ?_
            have hk7 : Blk h7 h1.size 94 (ndC 1 (spanB acc a a) (.slice none 0 0)) := hk7
            exact ih (many + 1, spanB acc a a, k) _ _ ⟨rfl, rfl, rfl, rfl, rfl, rfl, trivial⟩ ⟨hk7, (hkr5.ext0 he6).ext hx7 (by show ¬ _ = _; omega), Ext0.only (e5.trans he6) hx7 (by omega), ⟨hk, by show many + 1 ≤ k; omega, spanB_lt a a hacc (by omega)⟩, by rw [← hcon, hsp]; rfl⟩ (by show s.length - k < s.length - j; omega)
      · have hgo := Classical.not_not.1 hgo
        have htgt : tgt = some (acc, s.drop (j + 1)) := by rw [← hcon]; unfold contP; rw [if_pos hgo, tail_drop]
        have hj1 : j + 1 ≤ s.length := by
          have a1 := hgo.2
          rcases atI_cases s j with ⟨_, hd, _⟩ | ⟨_, _, hlt, _, _⟩
          · rw [hd] at a1; cases a1
          · exact hlt
        rw [htgt] at hbr
        refine G.exit rfl rfl ?_
        refine G.seq rfl ?_
        refine G.seq rfl ?_
        refine G.reg Tryd.func85 rfl ?_
        refine RW.pureS rfl rfl rfl rfl (OpP.move rfl) ?_
        refine RW.done rfl ?_
        refine G.sub (ρ' := [(0, _), (1, _), (4, _), (6, _), (7, _), (8, _), (29, _), (70, _)]) ⟨rfl, rfl, rfl, rfl, rfl, rfl, rfl, rfl, trivial⟩ ?_
        have fin : ∀ (fs : Nat) (h' : Heap) (ρ' : Env), Sub [(1, .int .i64 (j : Nat)), (4, .pointer (some ⟨h.size, 0, none⟩)), (6, .pointer (some ⟨h1.size, 0, none⟩))] ρ' → Blk h' h1.size 94 (ndC 1 fs (.slice none 0 0)) → Blk h' h.size 94 (ndC 0 0 (.slice none 0 0)) → Ext0 h h' → bracketP (s.drop i) = some (.mk 1 fs [], s.drop (j + 1)) → G Tryd.prog 85 Tryd.f85 [.code [1, 1, 1, 1, 1, 1]] ρ' h' (Ret fun r h' => NodV h.size h' s (bracketP (s.drop i)) r ∧ Ext0 h h') := by
          rintro fs h8 ρ' hsub hk8 hkr8 e8 hb8
          refine G.sub (ρ' := [(1, .int .i64 (j : Nat)), (4, .pointer (some ⟨h.size, 0, none⟩)), (6, .pointer (some ⟨h1.size, 0, none⟩))]) hsub ?_
          refine G.seq rfl ?_
          refine G.reg Tryd.func85 rfl ?_
          refine RW.pureS rfl rfl rfl rfl (OpP.loadRowN H.ag94 H.sz94 rfl hk8.row (by first | rfl | simp)) ?_
          refine RW.pureS rfl rfl rfl rfl (OpP.move rfl) ?_
          refine RW.pureS rfl rfl rfl rfl (OpP.add64 rfl rfl ⟨by omega, by omega⟩) ?_
          refine RW.op0 rfl rfl rfl (OpX.storeBlk H.sz94 rfl rfl hkr8 rfl (by first | decide | exact of_decide_eq_true rfl | (simp; done) | (simp; omega)) (NdAt.one (NdAt.leaf h8 (fun _ => False) 1 fs))) ?_
          rintro _ h9 ⟨rfl, hk9, hx9, hz9⟩
          refine RW.pureS rfl rfl rfl rfl (OpP.assign rfl) ?_
          refine RW.done rfl ?_
          refine G.sub (ρ' := [(1, _), (4, _), (5, _), (6, _)]) ⟨rfl, rfl, rfl, rfl, trivial⟩ ?_
          have hk9 : Blk h9 h.size 94 (ndC 1 fs (.slice none 0 0)) := hk9
          refine G.retC Tryd.func85 rfl (.cons (ResOk.rowN H.ag94 H.sz94 rfl (hk9.row) (by first | rfl | simp)) (.cons (ResOk.tmp rfl) (.nil))) ?_
          exact ⟨_, rfl, by rw [hb8]; exact ⟨_, j + 1, hj1, rfl, rfl, NdAt.leaf _ _ _ _⟩, Ext0.only e8 hx9 (Nat.le_refl _)⟩
        refine G.cond rfl rfl (fun hb => ?_) (fun hb => ?_)
        · have hnt' : (s.drop i).head? = some 94 := by rw [hnt] at hb; exact of_decide_eq_true hb
          simp only [hnt', if_true] at hbr
          refine G.seq rfl ?_
          refine G.reg Tryd.func85 rfl ?_
          refine RW.opS rfl rfl rfl rfl (OpX.allocN H.zr60) ?_
          rintro _ h6 ⟨rfl, hk6, he6, hz6⟩
          refine RW.done rfl ?_
          refine G.sub (ρ' := [(0, _), (1, _), (4, _), (6, _), (7, _), (8, _), (12, _), (29, _), (70, _)]) ⟨rfl, rfl, rfl, rfl, rfl, rfl, rfl, rfl, rfl, trivial⟩ ?_
          refine G.seq rfl ?_
          refine G.seq rfl ?_
          refine G.reg Tryd.func85 rfl ?_
          refine RW.pureS rfl rfl rfl rfl (OpP.assign rfl) ?_
          refine RW.done rfl ?_
          refine G.sub (ρ' := [(0, _), (1, _), (4, _), (6, _), (7, _), (8, _), (12, _), (13, _), (29, _), (70, _)]) ⟨rfl, rfl, rfl, rfl, rfl, rfl, rfl, rfl, rfl, rfl, trivial⟩ ?_
          refine G.block rfl rfl ?_
          have hk6 : Blk h6 h5.size 60 (encSet 0) := hk6
          refine G.loop (σ := Nat × Nat) (fun q => [(1, .int .i64 (j : Nat)), (4, .pointer (some ⟨h.size, 0, none⟩)), (6, .pointer (some ⟨h1.size, 0, none⟩)), (12, .pointer (some ⟨h5.size, 0, none⟩)), (13, .int .i64 (q.1 : Nat))]) (fun q h' => Blk h' h1.size 94 (ndC 1 acc (.slice none 0 0)) ∧ Blk h' h.size 94 (ndC 0 0 (.slice none 0 0)) ∧ Blk h' h5.size 60 (encSet q.2) ∧ Ext0 h h' ∧ q.1 ≤ 256 ∧ ∀ i, q.2.testBit i = (decide (i < q.1) && !acc.testBit i)) (fun q => 256 - q.1) ((0, 0)) rfl ⟨rfl, rfl, rfl, rfl, rfl, trivial⟩ ⟨hk5.ext0 he6, hkr5.ext0 he6, hk6, e5.trans he6, by decide, by simp⟩ ?_
          rintro ⟨b, o⟩ h7 ⟨hk7, hkr7, ho7, e7, hb256, hbits⟩ ih2
          try dsimp only
          dsimp only at ho7 hb256 hbits
          refine G.seq rfl ?_
          refine G.seq rfl ?_
          refine G.reg Tryd.func85 rfl ?_
          refine RW.pureS rfl rfl rfl rfl (OpP.move rfl) ?_
          refine RW.pureS rfl rfl rfl rfl (OpP.lss rfl rfl) ?_
          refine RW.done rfl ?_
          refine G.sub (ρ' := [(1, _), (4, _), (6, _), (12, _), (13, _), (72, _)]) ⟨rfl, rfl, rfl, rfl, rfl, rfl, trivial⟩ ?_
          refine G.ite rfl rfl (fun hlt => ?_) (fun hlt => ?_)
          · have hlt' : b < 256 := by omega
            have hub : (UInt8.ofNat b).toNat = b := by simp; omega
            have hcv : IntKind.u8.wrap ((b : Nat) : Int) = (((UInt8.ofNat b).toNat : Nat) : Int) := by rw [hub]; exact wrap_u8 (by omega)
            refine G.skip rfl ?_
            refine G.seq rfl ?_
            refine G.block rfl rfl ?_
            refine G.seq rfl ?_
            refine G.reg Tryd.func85 rfl ?_
            refine RW.pureS rfl rfl rfl rfl (OpP.fieldAddr (off := 1) Tryd.underlying94 rfl rfl H.sz60 rfl) ?_
            refine RW.pureS rfl rfl rfl rfl (OpP.loadRowN H.ag60 H.sz60 rfl (show Lw.rowAt h7 h1.size 1 (encSet acc) from hk7.part 1 (ndC_part _ _ _)) (by first | rfl | simp)) ?_
            refine RW.pureS rfl rfl rfl rfl (OpP.move rfl) ?_
            refine RW.pureS rfl rfl rfl rfl (OpP.convInt Tryd.underlying3 Tryd.underlying5 rfl) ?_
            refine RW.opS rfl rfl rfl rfl (OpX.call (vs := [_, _]) Tryd.func65 rfl H.nm65 rfl (CallsH.toX (hcv ▸ hasR_calls acc (UInt8.ofNat b)))) ?_
            rintro _ h8 ⟨rfl, he8⟩
            refine RW.pureS rfl rfl rfl rfl (OpP.notB rfl) ?_
            refine RW.done rfl ?_
            refine G.sub (ρ' := [(1, _), (4, _), (6, _), (12, _), (13, _), (72, _), (80, _)]) ⟨rfl, rfl, rfl, rfl, rfl, rfl, rfl, trivial⟩ ?_
            rw [hub]
            refine G.cond rfl rfl (fun hnot => ?_) (fun hnot => ?_)
            · have hbit : acc.testBit b = false := by simpa using hnot
              refine G.reg Tryd.func85 rfl ?_
              refine RW.pureS rfl rfl rfl rfl (OpP.loadRowN H.ag60 H.sz60 rfl (ho7.ext0 he8).row (by first | rfl | simp)) ?_
              refine RW.pureS rfl rfl rfl rfl (OpP.move rfl) ?_
              refine RW.pureS rfl rfl rfl rfl (OpP.move rfl) ?_
              refine RW.opS rfl rfl rfl rfl (OpX.call (vs := [_, _, _]) Tryd.func86 rfl H.nm86 rfl (CallsH.toX (with_calls o b b (by omega) (by omega)))) ?_
              rintro _ h9 ⟨rfl, he9⟩
              refine RW.op0 rfl rfl rfl (OpX.storeBlk H.sz60 rfl rfl ((ho7.ext0 he8).ext0 he9) rfl (by first | decide | exact of_decide_eq_true rfl | (simp; done) | (simp; omega)) (encSet_one _)) ?_
              rintro _ h10 ⟨rfl, hk10, hx10, hz10⟩
              refine RW.done rfl ?_
              refine G.sub (ρ' := [(1, _), (4, _), (6, _), (12, _), (13, _), (72, _), (80, _)]) ⟨rfl, rfl, rfl, rfl, rfl, rfl, rfl, trivial⟩ ?_
              refine G.blkEnd ?_
              refine G.reg Tryd.func85 rfl ?_
              refine RW.pureS rfl rfl rfl rfl (OpP.move rfl) ?_
              refine RW.pureS rfl rfl rfl rfl (OpP.add64 rfl rfl ⟨by omega, by omega⟩) ?_
              refine RW.pureS rfl rfl rfl rfl (OpP.assign rfl) ?_
              refine RW.done rfl ?_
              refine G.sub (ρ' := [(1, _), (4, _), (6, _), (12, _), (13, _), (72, _), (80, _)]) ⟨rfl, rfl, rfl, rfl, rfl, rfl, rfl, trivial⟩ ?_
              have hsp : spanN o b (b + 1 - b) = o ||| (1 <<< b) := by rw [show b + 1 - b = 1 by omega]; rfl
              have hk10 : Blk h10 h5.size 60 (encSet (o ||| (1 <<< b))) := by rw [← hsp]; exact hk10
              exact ih2 (b + 1, o ||| (1 <<< b)) _ _ ⟨rfl, rfl, rfl, rfl, rfl, trivial⟩ ⟨((hk7.ext0 he8).ext0 he9).ext hx10 (by show ¬ _ = _; omega), ((hkr7.ext0 he8).ext0 he9).ext hx10 (by show ¬ _ = _; omega), hk10, Ext0.only ((e7.trans he8).trans he9) hx10 (by omega), by show b + 1 ≤ 256; omega, bits_with hbits hbit⟩ (by show 256 - (b + 1) < 256 - b; omega)
            · have hbit : acc.testBit b = true := by simpa using hnot
              refine G.skip rfl ?_
              refine G.blkEnd ?_
              refine G.reg Tryd.func85 rfl ?_
              refine RW.pureS rfl rfl rfl rfl (OpP.move rfl) ?_
              refine RW.pureS rfl rfl rfl rfl (OpP.add64 rfl rfl ⟨by omega, by omega⟩) ?_
              refine RW.pureS rfl rfl rfl rfl (OpP.assign rfl) ?_
              refine RW.done rfl ?_
              refine G.sub (ρ' := [(1, _), (4, _), (6, _), (12, _), (13, _), (72, _), (80, _)]) ⟨rfl, rfl, rfl, rfl, rfl, rfl, rfl, trivial⟩ ?_
              exact ih2 (b + 1, o) _ _ ⟨rfl, rfl, rfl, rfl, rfl, trivial⟩ ⟨hk7.ext0 he8, hkr7.ext0 he8, ho7.ext0 he8, e7.trans he8, by show b + 1 ≤ 256; omega, bits_keep hbits hbit⟩ (by show 256 - (b + 1) < 256 - b; omega)
          · obtain rfl : b = 256 := by omega
            have hno := notSet_eq hacc hbits
            refine G.exit rfl rfl ?_
            refine G.reg Tryd.func85 rfl ?_
            refine RW.pureS rfl rfl rfl rfl (OpP.loadRowN H.ag60 H.sz60 rfl ho7.row (by first | rfl | simp)) ?_
            refine RW.pureS rfl rfl rfl rfl (OpP.fieldAddr (off := 1) Tryd.underlying94 rfl rfl H.sz60 rfl) ?_
            refine RW.op0 rfl rfl rfl (OpX.storeBlk H.sz60 rfl rfl hk7 rfl (by first | decide | exact of_decide_eq_true rfl | (simp; done) | (simp; omega)) (encSet_one _)) ?_
            rintro _ h8 ⟨rfl, hk8, hx8, hz8⟩
            refine RW.done rfl ?_
            refine G.sub (ρ' := [(1, _), (4, _), (6, _), (12, _), (13, _), (72, _)]) ⟨rfl, rfl, rfl, rfl, rfl, rfl, trivial⟩ ?_
            have hk8 : Blk h8 h1.size 94 (ndC 1 (notSet acc) (.slice none 0 0)) := by rw [← hno]; exact hk8
            exact fin (notSet acc) _ _ ⟨rfl, rfl, rfl, trivial⟩ hk8 (hkr7.ext hx8 (by show ¬ _ = _; omega)) (Ext0.only e7 hx8 (by omega)) hbr
        · have hnt' : ¬ (s.drop i).head? = some 94 := by rw [hnt] at hb; exact of_decide_eq_false hb
          simp only [hnt', if_false] at hbr
          refine G.skip rfl ?_
          exact fin acc _ _ ⟨rfl, rfl, rfl, trivial⟩ hk5 hkr5 e5 hbr
  refine G.cond rfl rfl (fun hb => ?_) (fun hb => ?_)
  · have hb : atI s i = 94 := of_decide_eq_true hb
    have a1 := (head_at s i 94).1 hb
    have hi1 : i + 1 ≤ s.length := by
      rcases atI_cases s i with ⟨_, hd, _⟩ | ⟨_, _, hlt, _, _⟩
      · rw [hd] at a1; cases a1
      · exact hlt
    refine G.reg Tryd.func85 rfl ?_
    refine RW.pureS rfl rfl rfl rfl (OpP.move rfl) ?_
    refine RW.pureS rfl rfl rfl rfl (OpP.add64 rfl rfl ⟨by omega, by omega⟩) ?_
    refine RW.pureS rfl rfl rfl rfl (OpP.assign rfl) ?_
    refine RW.done rfl ?_
    refine G.sub (ρ' := [(0, _), (1, _), (4, _), (5, _), (6, _), (7, _), (19, _)]) ⟨rfl, rfl, rfl, rfl, rfl, rfl, rfl, trivial⟩ ?_
    exact go _ (i + 1) _ _ ⟨rfl, rfl, rfl, rfl, rfl, trivial⟩ rfl (by rw [hb]; simp [a1]) hi1 (by rw [if_pos a1, tail_drop])
  · have hb : ¬ atI s i = 94 := of_decide_eq_false hb
    have a1 : ¬ (s.drop i).head? = some 94 := fun e => hb ((head_at s i 94).2 e)
    refine G.skip rfl ?_
    exact go _ i _ _ ⟨rfl, rfl, rfl, rfl, rfl, trivial⟩ rfl (by rw [decide_eq_false hb]; exact (decide_eq_false a1).symm) hi (by rw [if_neg a1])

end Go.Proofs.YtlegopbpofofgaaDoor

/- The document's reader of rules: signs, atoms. -/
namespace Go.Proofs.YtlegopbpofofgaaDoor
open Go Go.Lw
set_option maxRecDepth 20000

theorem join_calls {h : Heap} {O : Nat → Prop} {v : Value} {xs : List Nd} (kind : Nat) (hv : SlR eNd h O v xs) : CallsH Tryd.prog 78 #[.int .i64 (kind : Nat), v] h (Ret fun r h' => (∃ w, r = .agg (ndC (joinNd kind xs).kind (joinNd kind xs).set w).toArray ∧ NdAt h' O (ndC (joinNd kind xs).kind (joinNd kind xs).set w) (joinNd kind xs)) ∧ Ext0 h h') := by
  obtain ⟨oa, n, c, rfl, hsl⟩ := hv.open
  have hn := hsl.len
  refine CallsH.of Tryd.func78 rfl rfl ?_
  refine G.seq rfl ?_
  refine G.reg Tryd.func78 rfl ?_
  refine RW.opS rfl rfl rfl rfl (OpX.allocN H.zr94) ?_
  rintro _ h1 ⟨rfl, hk, he, hz⟩
  refine RW.done rfl ?_
  refine G.sub (ρ' := [(0, _), (1, _), (4, _)]) ⟨rfl, rfl, rfl, trivial⟩ ?_
  refine G.seq rfl ?_
  refine G.seq rfl ?_
  refine G.reg Tryd.func78 rfl ?_
  refine RW.pureS rfl rfl rfl rfl (OpP.move rfl) ?_
  refine RW.pureS rfl rfl rfl rfl (OpP.lenSlice Tryd.underlying92 rfl) ?_
  refine RW.pureS rfl rfl rfl rfl (OpP.eqlInt rfl rfl) ?_
  refine RW.done rfl ?_
  refine G.sub (ρ' := [(0, _), (1, _), (4, _), (7, _)]) ⟨rfl, rfl, rfl, rfl, trivial⟩ ?_
  have hk : Blk h1 h.size 94 (ndC 0 0 (.slice none 0 0)) := hk
  have hsl1 := hsl.mv (Mv.ext0 he)
  have hv1 := hv.ext0 he
  refine G.ite rfl rfl (fun e0 => ?_) (fun e0 => ?_)
  · obtain rfl : n = 0 := by omega
    have hx : xs = [] := List.eq_nil_of_length_eq_zero hn
    subst hx
    refine G.seq rfl ?_
    refine G.reg Tryd.func78 rfl ?_
    refine RW.pureS rfl rfl rfl rfl (OpP.build (H.bd94_ ) rfl) ?_
    refine RW.op0 rfl rfl rfl (OpX.storeBlk H.sz94 rfl rfl hk rfl (by first | decide | exact of_decide_eq_true rfl | (simp; done) | (simp; omega)) (by first | decide | simp [Value.oneCell'])) ?_
    rintro _ h2 ⟨rfl, hk2, hx2, hz2⟩
    refine RW.done rfl ?_
    refine G.sub (ρ' := [(0, _), (1, _), (4, _), (7, _)]) ⟨rfl, rfl, rfl, rfl, trivial⟩ ?_
    have hk2 : Blk h2 h.size 94 (ndC 0 0 (.slice none 0 0)) := hk2
    refine G.retC Tryd.func78 rfl (.cons (ResOk.rowN H.ag94 H.sz94 rfl (hk2.row) (by first | rfl | simp)) (.nil)) ?_
    exact ⟨_, rfl, ⟨_, rfl, NdAt.leaf _ _ 0 0⟩, Ext0.only he hx2 (Nat.le_refl _)⟩
  · refine G.skip rfl ?_
    refine G.seq rfl ?_
    refine G.seq rfl ?_
    refine G.reg Tryd.func78 rfl ?_
    refine RW.pureS rfl rfl rfl rfl (OpP.move rfl) ?_
    refine RW.pureS rfl rfl rfl rfl (OpP.lenSlice Tryd.underlying92 rfl) ?_
    refine RW.pureS rfl rfl rfl rfl (OpP.eqlInt rfl rfl) ?_
    refine RW.done rfl ?_
    refine G.sub (ρ' := [(0, _), (1, _), (4, _), (7, _), (11, _)]) ⟨rfl, rfl, rfl, rfl, rfl, trivial⟩ ?_
    refine G.ite rfl rfl (fun e1 => ?_) (fun e1 => ?_)
    · obtain rfl : n = 1 := by omega
      obtain ⟨x, rfl⟩ := List.length_eq_one_iff.1 hn
      obtain ⟨b, o, cs, ha, ho, hr, hR⟩ := hsl.get 0 x rfl
      have hr := he.rowAt (fun k => k) hr
      obtain ⟨w, rfl, hw⟩ := NdAt.open hR
      refine G.seq rfl ?_
      refine G.reg Tryd.func78 rfl ?_
      refine RW.pureS rfl rfl rfl rfl (OpP.move rfl) ?_
      refine RW.pureS rfl rfl rfl rfl (OpP.indexSlice Tryd.underlying92 H.sz94 rfl rfl 0 rfl ha (by decide)) ?_
      refine RW.pureS rfl rfl rfl rfl (OpP.loadRowN H.ag94 H.sz94 rfl hr (by first | rfl | simp)) ?_
      refine RW.op0 rfl rfl rfl (OpX.storeBlk H.sz94 rfl rfl hk rfl (by first | decide | exact of_decide_eq_true rfl | (simp; done) | (simp; omega)) (eNd.one hR)) ?_
      rintro _ h2 ⟨rfl, hk2, hx2, hz2⟩
      refine RW.done rfl ?_
      refine G.sub (ρ' := [(0, _), (1, _), (4, _), (7, _), (11, _)]) ⟨rfl, rfl, rfl, rfl, rfl, trivial⟩ ?_
      have hk2 : Blk h2 h.size 94 (ndC x.kind x.set w) := hk2
      refine G.retC Tryd.func78 rfl (.cons (ResOk.rowN H.ag94 H.sz94 rfl (hk2.row) (by first | rfl | simp)) (.nil)) ?_
      exact ⟨_, rfl, ⟨w, rfl, NdAt.ext0 hR (Ext0.only he hx2 (Nat.le_refl _))⟩, Ext0.only he hx2 (Nat.le_refl _)⟩
    · refine G.skip rfl ?_
      refine G.seq rfl ?_
      refine G.reg Tryd.func78 rfl ?_
      refine RW.pureS rfl rfl rfl rfl (OpP.move rfl) ?_
      refine RW.pureS rfl rfl rfl rfl (OpP.move rfl) ?_
      refine RW.pureS rfl rfl rfl rfl (OpP.build (H.bd94_0_2 _ _ _ _) rfl) ?_
      refine RW.op0 rfl rfl rfl (OpX.storeBlk H.sz94 rfl rfl hk rfl (by first | decide | exact of_decide_eq_true rfl | (simp; done) | (simp; omega)) (by first | decide | simp [Value.oneCell'])) ?_
      rintro _ h2 ⟨rfl, hk2, hx2, hz2⟩
      refine RW.done rfl ?_
      refine G.sub (ρ' := [(0, _), (1, _), (4, _), (7, _), (11, _)]) ⟨rfl, rfl, rfl, rfl, rfl, trivial⟩ ?_
      have hk2 : Blk h2 h.size 94 (ndC kind 0 (.slice oa n c)) := hk2
      refine G.retC Tryd.func78 rfl (.cons (ResOk.rowN H.ag94 H.sz94 rfl (hk2.row) (by first | rfl | simp)) (.nil)) ?_
      have hj : joinNd kind xs = .mk kind 0 xs := by
        unfold joinNd
        split
        · simp at hn; omega
        · simp at hn; omega
        · rfl
      rw [hj]
      exact ⟨_, rfl, ⟨.slice oa n c, rfl, NdAt.of kind 0 (hv.ext0 (Ext0.only he hx2 (Nat.le_refl _)))⟩, Ext0.only he hx2 (Nat.le_refl _)⟩

def signI (c : Int) : Nat := if c = 42 then 4 else if c = 43 then 5 else if c = 63 then 6 else 0

theorem signR_calls {h : Heap} (c : Int) : CallsH Tryd.prog 80 #[.int .i64 c] h (Ret fun r h' => r = .int .i64 (signI c : Nat) ∧ h' = h) := by
  refine CallsH.of Tryd.func80 rfl rfl ?_
  refine G.seq rfl ?_
  refine G.reg Tryd.func80 rfl ?_
  refine RW.pureS rfl rfl rfl rfl (OpP.assign rfl) ?_
  refine RW.done rfl ?_
  refine G.sub (ρ' := [(0, _), (2, _)]) ⟨rfl, rfl, trivial⟩ ?_
  refine G.seq rfl ?_
  refine G.seq rfl ?_
  refine G.reg Tryd.func80 rfl ?_
  refine RW.pureS rfl rfl rfl rfl (OpP.move rfl) ?_
  refine RW.pureS rfl rfl rfl rfl (OpP.eqlInt rfl rfl) ?_
  refine RW.done rfl ?_
  refine G.sub (ρ' := [(0, _), (2, _), (4, _)]) ⟨rfl, rfl, rfl, trivial⟩ ?_
  refine G.ite rfl rfl (fun e1 => ?_) (fun e1 => ?_)
  · refine G.seq rfl ?_
    refine G.reg Tryd.func80 rfl ?_
    refine RW.pureS rfl rfl rfl rfl (OpP.assign rfl) ?_
    refine RW.done rfl ?_
    refine G.sub (ρ' := [(0, _), (2, _), (4, _)]) ⟨rfl, rfl, rfl, trivial⟩ ?_
    refine G.ret Tryd.func80 rfl rfl ?_
    exact ⟨_, rfl, by unfold signI; rw [if_pos e1]; rfl, rfl⟩
  · refine G.skip rfl ?_
    refine G.seq rfl ?_
    refine G.seq rfl ?_
    refine G.reg Tryd.func80 rfl ?_
    refine RW.pureS rfl rfl rfl rfl (OpP.move rfl) ?_
    refine RW.pureS rfl rfl rfl rfl (OpP.eqlInt rfl rfl) ?_
    refine RW.done rfl ?_
    refine G.sub (ρ' := [(0, _), (2, _), (4, _), (6, _)]) ⟨rfl, rfl, rfl, rfl, trivial⟩ ?_
    refine G.ite rfl rfl (fun e2 => ?_) (fun e2 => ?_)
    · refine G.seq rfl ?_
      refine G.reg Tryd.func80 rfl ?_
      refine RW.pureS rfl rfl rfl rfl (OpP.assign rfl) ?_
      refine RW.done rfl ?_
      refine G.sub (ρ' := [(0, _), (2, _), (4, _), (6, _)]) ⟨rfl, rfl, rfl, rfl, trivial⟩ ?_
      refine G.ret Tryd.func80 rfl rfl ?_
      exact ⟨_, rfl, by unfold signI; rw [if_neg e1, if_pos e2]; rfl, rfl⟩
    · refine G.skip rfl ?_
      refine G.seq rfl ?_
      refine G.seq rfl ?_
      refine G.reg Tryd.func80 rfl ?_
      refine RW.pureS rfl rfl rfl rfl (OpP.move rfl) ?_
      refine RW.pureS rfl rfl rfl rfl (OpP.eqlInt rfl rfl) ?_
      refine RW.done rfl ?_
      refine G.sub (ρ' := [(0, _), (2, _), (4, _), (6, _), (8, _)]) ⟨rfl, rfl, rfl, rfl, rfl, trivial⟩ ?_
      refine G.ite rfl rfl (fun e3 => ?_) (fun e3 => ?_)
      · refine G.seq rfl ?_
        refine G.reg Tryd.func80 rfl ?_
        refine RW.pureS rfl rfl rfl rfl (OpP.assign rfl) ?_
        refine RW.done rfl ?_
        refine G.sub (ρ' := [(0, _), (2, _), (4, _), (6, _), (8, _)]) ⟨rfl, rfl, rfl, rfl, rfl, trivial⟩ ?_
        refine G.ret Tryd.func80 rfl rfl ?_
        exact ⟨_, rfl, by unfold signI; rw [if_neg e1, if_neg e2, if_pos e3]; rfl, rfl⟩
      · refine G.skip rfl ?_
        refine G.seq rfl ?_
        refine G.reg Tryd.func80 rfl ?_
        refine RW.pureS rfl rfl rfl rfl (OpP.assign rfl) ?_
        refine RW.done rfl ?_
        refine G.sub (ρ' := [(0, _), (2, _), (4, _), (6, _), (8, _)]) ⟨rfl, rfl, rfl, rfl, rfl, trivial⟩ ?_
        refine G.ret Tryd.func80 rfl rfl ?_
        exact ⟨_, rfl, by unfold signI; rw [if_neg e1, if_neg e2, if_neg e3]; rfl, rfl⟩

theorem signI_at (s : By) (j : Nat) : signI (atI s j) = signOf ((s.drop j).head?.getD 0) := by
  rcases atI_cases s j with ⟨_, hd, ha⟩ | ⟨c, _, _, hd, ha⟩
  · rw [hd, ha]; rfl
  · rw [hd, ha]
    simp only [List.head?_cons, Option.getD_some]
    unfold signI signOf
    have e1 : (((c.toNat : Nat) : Int) = 42) ↔ c = 42 := u8_is rfl
    have e2 : (((c.toNat : Nat) : Int) = 43) ↔ c = 43 := u8_is rfl
    have e3 : (((c.toNat : Nat) : Int) = 63) ↔ c = 63 := u8_is rfl
    simp only [e1, e2, e3]

def RowsOkR (d : Nat) : Prop := ∀ (h : Heap) (s : By) (i : Nat), i ≤ s.length → (s.drop i).length < d → s.length ≤ 1000000 →
  CallsH Tryd.prog 61 #[.string (bs s), .int .i64 (i : Nat)] h (Ret fun r h' => NodV h.size h' s (rowsP d (s.drop i)) r ∧ Ext0 h h')

theorem ndC_oneW {k st : Nat} {w : Value} (hw : w.oneCell' = true) : ∀ v ∈ ndC k st w, v.oneCell' = true := by
  intro v hv
  simp [ndC, encW] at hv
  rcases hv with rfl | rfl | rfl | rfl | rfl | rfl <;> first | rfl | exact hw

theorem atomR_calls {d : Nat} (ih : RowsOkR d) {h : Heap} (s : By) (i : Nat) (hi : i ≤ s.length) (hd : (s.drop i).length ≤ d) (hs : s.length ≤ 1000000) : CallsH Tryd.prog 79 #[.string (bs s), .int .i64 (i : Nat)] h (Ret fun r h' => NodV h.size h' s (atomP (rowsP d) (s.drop i)) r ∧ Ext0 h h') := by
  refine CallsH.of Tryd.func79 rfl rfl ?_
  refine G.seq rfl ?_
  refine G.reg Tryd.func79 rfl ?_
  refine RW.opS rfl rfl rfl rfl (OpX.allocN H.zr94) ?_
  rintro _ h1 ⟨rfl, hkr, he1, hz1⟩
  refine RW.pureS rfl rfl rfl rfl (OpP.assign rfl) ?_
  refine RW.done rfl ?_
  refine G.sub (ρ' := [(0, _), (1, _), (4, _), (5, _)]) ⟨rfl, rfl, rfl, rfl, trivial⟩ ?_
  refine G.seq rfl ?_
  refine G.seq rfl ?_
  refine G.reg Tryd.func79 rfl ?_
  refine RW.pureS rfl rfl rfl rfl (OpP.move rfl) ?_
  refine RW.pureS rfl rfl rfl rfl (OpP.move rfl) ?_
  refine RW.opS rfl rfl rfl rfl (OpX.call (vs := [_, _]) Tryd.func77 rfl H.nm77 rfl (CallsH.toX (at_calls s i))) ?_
  rintro _ h1 ⟨rfl, rfl⟩
  refine RW.done rfl ?_
  refine G.sub (ρ' := [(0, _), (1, _), (4, _), (5, _), (12, _)]) ⟨rfl, rfl, rfl, rfl, rfl, trivial⟩ ?_
  refine G.block rfl rfl ?_
  refine G.seq rfl ?_
  refine G.reg Tryd.func79 rfl ?_
  refine RW.pureS rfl rfl rfl rfl (OpP.eqlInt rfl rfl) ?_
  refine RW.pureS rfl rfl rfl rfl (OpP.assign rfl) ?_
  refine RW.done rfl ?_
  refine G.sub (ρ' := [(0, _), (1, _), (4, _), (5, _), (12, _), (13, _)]) ⟨rfl, rfl, rfl, rfl, rfl, rfl, trivial⟩ ?_
  have hkr : Blk h1 h.size 94 (ndC 0 0 (.slice none 0 0)) := hkr
  refine G.ite rfl rfl (fun c1 => ?_) (fun c1 => ?_)
  · have a1 := (head_at s i 40).1 c1
    obtain ⟨hlt, hdr⟩ : i < s.length ∧ s.drop i = 40 :: s.drop (i + 1) := by
      rcases atI_cases s i with ⟨_, hd, _⟩ | ⟨c, _, hlt, hd, _⟩
      · rw [hd] at a1; cases a1
      · rw [hd] at a1; simp at a1; subst a1; exact ⟨hlt, hd⟩
    rw [hdr]
    rw [hdr] at hd
    simp only [List.length_cons] at hd
    refine G.seq rfl ?_
    refine G.reg Tryd.func79 rfl ?_
    refine RW.pureS rfl rfl rfl rfl (OpP.move rfl) ?_
    refine RW.pureS rfl rfl rfl rfl (OpP.move rfl) ?_
    refine RW.pureS rfl rfl rfl rfl (OpP.add64 rfl rfl ⟨by omega, by omega⟩) ?_
    refine RW.opS rfl rfl rfl rfl (OpX.call (vs := [_, _]) Tryd.func61 rfl H.nm61 rfl (CallsH.toX (ih h1 s (i + 1) (by omega) (by omega) hs))) ?_
    rintro _ h2 ⟨hv, he2⟩
    have hz2 := he2.size
    have hkr2 := hkr.ext0 he2
    rcases hp : rowsP d (s.drop (i + 1)) with _ | ⟨x, t⟩ <;> rw [hp] at hv
    · obtain ⟨k, st, w, hw, rfl⟩ := hv
      have hat : atomP (rowsP d) (40 :: s.drop (i + 1)) = none := by unfold atomP; simp [hp]
      refine RW.pureS rfl rfl rfl rfl (OpP.move rfl) ?_
      refine RW.pureS rfl rfl rfl rfl (OpP.extract rfl rfl) ?_
      refine RW.pureS rfl rfl rfl rfl (OpP.extract rfl rfl) ?_
      refine RW.opS rfl rfl rfl rfl (OpX.allocN H.zr94) ?_
      rintro _ h3 ⟨rfl, hk3, he3, hz3⟩
      refine RW.op0 rfl rfl rfl (OpX.storeBlk H.sz94 rfl rfl hk3 rfl (by first | decide | exact of_decide_eq_true rfl | (simp; done) | (simp; omega)) (ndC_oneW hw)) ?_
      rintro _ h4 ⟨rfl, hk4, hx4, hz4⟩
      refine RW.pureS rfl rfl rfl rfl (OpP.assign rfl) ?_
      refine RW.done rfl ?_
      refine G.sub (ρ' := [(0, _), (1, _), (4, _), (5, _), (6, _), (7, _), (12, _), (13, _)]) ⟨rfl, rfl, rfl, rfl, rfl, rfl, rfl, rfl, trivial⟩ ?_
      refine G.seq rfl ?_
      refine G.seq rfl ?_
      have hk4 : Blk h4 h2.size 94 (ndC k st w) := hk4
      refine G.regTo1 [(29, .bool true)] [(0, _), (1, _), (4, _), (5, _), (6, _), (7, _), (12, _), (13, _)] ⟨rfl, rfl, rfl, rfl, rfl, rfl, rfl, rfl, trivial⟩ Tryd.func79 rfl ?_ ?_
      · refine RW.pureS rfl rfl rfl rfl (OpP.move rfl) ?_
        refine RW.pureS rfl rfl rfl rfl (OpP.lss rfl rfl) ?_
        refine RW.pureS rfl rfl rfl rfl (OpP.move rfl) ?_
        refine RW.know (d := 24) (b' := true) rfl (decide_eq_true (by decide)) ?_
        refine RW.skipS rfl rfl rfl rfl ?_
        refine RW.skipS rfl rfl rfl rfl ?_
        refine RW.skipS rfl rfl rfl rfl ?_
        refine RW.skipS rfl rfl rfl rfl ?_
        refine RW.pureS rfl rfl rfl rfl (OpP.pickT rfl rfl) ?_
        refine RW.done rfl ?_
        exact ⟨rfl, at_bool rfl (rfl), rfl, rfl, rfl, rfl, rfl, rfl, rfl, rfl, trivial⟩
      · refine G.cond rfl rfl (fun _ => ?_) (fun hc => absurd hc (by decide))
        refine G.seq rfl ?_
        refine G.reg Tryd.func79 rfl ?_
        refine RW.pureS rfl rfl rfl rfl (OpP.loadRowN H.ag94 H.sz94 rfl hk4.row (by first | rfl | simp)) ?_
        refine RW.op0 rfl rfl rfl (OpX.storeBlk H.sz94 rfl rfl ((hkr2.ext0 he3).ext hx4 (by show ¬ _ = _; omega)) rfl (by first | decide | exact of_decide_eq_true rfl | (simp; done) | (simp; omega)) (ndC_oneW hw)) ?_
        rintro _ h5 ⟨rfl, hk5, hx5, hz5⟩
        refine RW.pureS rfl rfl rfl rfl (OpP.assign rfl) ?_
        refine RW.done rfl ?_
        refine G.sub (ρ' := [(0, _), (1, _), (4, _), (5, _), (6, _), (7, _), (12, _), (13, _), (29, _)]) ⟨rfl, rfl, rfl, rfl, rfl, rfl, rfl, rfl, rfl, trivial⟩ ?_
        have hk5 : Blk h5 h.size 94 (ndC k st w) := hk5
        refine G.retC Tryd.func79 rfl (.cons (ResOk.rowN H.ag94 H.sz94 rfl (hk5.row) (by first | rfl | simp)) (.cons (ResOk.tmp rfl) (.nil))) ?_
        exact ⟨_, rfl, by rw [hat]; exact ⟨k, st, w, hw, rfl⟩, Ext0.only (Ext0.only ((he1.trans he2).trans he3) hx4 (by omega)) hx5 (Nat.le_refl _)⟩
    · obtain ⟨w, k, hk, rfl, rfl, hnd⟩ := hv
      refine RW.pureS rfl rfl rfl rfl (OpP.move rfl) ?_
      refine RW.pureS rfl rfl rfl rfl (OpP.extract rfl rfl) ?_
      refine RW.pureS rfl rfl rfl rfl (OpP.extract rfl rfl) ?_
      refine RW.opS rfl rfl rfl rfl (OpX.allocN H.zr94) ?_
      rintro _ h3 ⟨rfl, hk3, he3, hz3⟩
      refine RW.op0 rfl rfl rfl (OpX.storeBlk H.sz94 rfl rfl hk3 rfl (by first | decide | exact of_decide_eq_true rfl | (simp; done) | (simp; omega)) (NdAt.one hnd)) ?_
      rintro _ h4 ⟨rfl, hk4, hx4, hz4⟩
      refine RW.pureS rfl rfl rfl rfl (OpP.assign rfl) ?_
      refine RW.done rfl ?_
      refine G.sub (ρ' := [(0, _), (1, _), (4, _), (5, _), (6, _), (7, _), (12, _), (13, _)]) ⟨rfl, rfl, rfl, rfl, rfl, rfl, rfl, rfl, trivial⟩ ?_
      refine G.seq rfl ?_
      refine G.seq rfl ?_
      have hk4 : Blk h4 h2.size 94 (ndC x.kind x.set w) := hk4
      have hkr4 := (hkr2.ext0 he3).ext hx4 (by show ¬ _ = _; omega)
      have e24 : Ext0 h2 h4 := Ext0.only he3 hx4 (Nat.le_refl _)
      have hnd4 := hnd.ext0 e24
      have e4 := (he1.trans he2).trans e24
      refine G.regTo1 [(29, .bool (decide (¬ (s.drop k).head? = some 41)))] [(0, _), (1, _), (4, _), (5, _), (6, _), (7, _), (12, _), (13, _)] ⟨rfl, rfl, rfl, rfl, rfl, rfl, rfl, rfl, trivial⟩ Tryd.func79 rfl ?_ ?_
      · refine RW.pureS rfl rfl rfl rfl (OpP.move rfl) ?_
        refine RW.pureS rfl rfl rfl rfl (OpP.lss rfl rfl) ?_
        refine RW.pureS rfl rfl rfl rfl (OpP.move rfl) ?_
        refine RW.know (d := 24) (b' := false) rfl (decide_eq_false (by simp)) ?_
        refine RW.pureS rfl rfl rfl rfl (OpP.move rfl) ?_
        refine RW.pureS rfl rfl rfl rfl (OpP.move rfl) ?_
        refine RW.opS rfl rfl rfl rfl (OpX.call (vs := [_, _]) Tryd.func77 rfl H.nm77 rfl (CallsH.toX (at_calls s k))) ?_
        rintro _ h4 ⟨rfl, rfl⟩
        refine RW.pureS rfl rfl rfl rfl (OpP.neqInt rfl rfl) ?_
        refine RW.pureS rfl rfl rfl rfl (OpP.pickF rfl rfl) ?_
        refine RW.done rfl ?_
        exact ⟨rfl, at_bool rfl (by exact decide_eq_decide.2 (not_congr (head_at s k 41))), rfl, rfl, rfl, rfl, rfl, rfl, rfl, rfl, trivial⟩
      · refine G.ite rfl rfl (fun hno => ?_) (fun hno => ?_)
        · have hat : atomP (rowsP d) (40 :: s.drop (i + 1)) = none := by
            unfold atomP
            simp only [if_true, hp]
            split
            · rename_i heq; rw [heq] at hno; exact absurd rfl hno
            · rfl
          refine G.seq rfl ?_
          refine G.reg Tryd.func79 rfl ?_
          refine RW.pureS rfl rfl rfl rfl (OpP.loadRowN H.ag94 H.sz94 rfl hk4.row (by first | rfl | simp)) ?_
          refine RW.op0 rfl rfl rfl (OpX.storeBlk H.sz94 rfl rfl hkr4 rfl (by first | decide | exact of_decide_eq_true rfl | (simp; done) | (simp; omega)) (NdAt.one hnd4)) ?_
          rintro _ h5 ⟨rfl, hk5, hx5, hz5⟩
          refine RW.pureS rfl rfl rfl rfl (OpP.assign rfl) ?_
          refine RW.done rfl ?_
          refine G.sub (ρ' := [(0, _), (1, _), (4, _), (5, _), (6, _), (7, _), (12, _), (13, _), (29, _)]) ⟨rfl, rfl, rfl, rfl, rfl, rfl, rfl, rfl, rfl, trivial⟩ ?_
          have hk5 : Blk h5 h.size 94 (ndC x.kind x.set w) := hk5
          refine G.retC Tryd.func79 rfl (.cons (ResOk.rowN H.ag94 H.sz94 rfl (hk5.row) (by first | rfl | simp)) (.cons (ResOk.tmp rfl) (.nil))) ?_
          exact ⟨_, rfl, by rw [hat]; exact ⟨x.kind, x.set, w, by obtain ⟨w', hw', oa, n, c, rfl, _⟩ := NdAt.open hnd4; simp [ndC] at hw'; rw [hw']; rfl, rfl⟩, Ext0.only e4 hx5 (Nat.le_refl _)⟩
        · have hno := Classical.not_not.1 hno
          obtain ⟨hk1, hdk⟩ : k < s.length ∧ s.drop k = 41 :: s.drop (k + 1) := by
            rcases atI_cases s k with ⟨_, hd, _⟩ | ⟨c, _, hlt, hd, _⟩
            · rw [hd] at hno; cases hno
            · rw [hd] at hno; simp at hno; subst hno; exact ⟨hlt, hd⟩
          have hat : atomP (rowsP d) (40 :: s.drop (i + 1)) = some (x, s.drop (k + 1)) := by unfold atomP; simp only [if_true, hp, hdk]
          refine G.skip rfl ?_
          refine G.seq rfl ?_
          refine G.reg Tryd.func79 rfl ?_
          refine RW.pureS rfl rfl rfl rfl (OpP.loadRowN H.ag94 H.sz94 rfl hk4.row (by first | rfl | simp)) ?_
          refine RW.pureS rfl rfl rfl rfl (OpP.move rfl) ?_
          refine RW.pureS rfl rfl rfl rfl (OpP.add64 rfl rfl ⟨by omega, by omega⟩) ?_
          refine RW.op0 rfl rfl rfl (OpX.storeBlk H.sz94 rfl rfl hkr4 rfl (by first | decide | exact of_decide_eq_true rfl | (simp; done) | (simp; omega)) (NdAt.one hnd4)) ?_
          rintro _ h5 ⟨rfl, hk5, hx5, hz5⟩
          refine RW.pureS rfl rfl rfl rfl (OpP.assign rfl) ?_
          refine RW.done rfl ?_
          refine G.sub (ρ' := [(0, _), (1, _), (4, _), (5, _), (6, _), (7, _), (12, _), (13, _), (29, _)]) ⟨rfl, rfl, rfl, rfl, rfl, rfl, rfl, rfl, rfl, trivial⟩ ?_
          have hk5 : Blk h5 h.size 94 (ndC x.kind x.set w) := hk5
          refine G.retC Tryd.func79 rfl (.cons (ResOk.rowN H.ag94 H.sz94 rfl (hk5.row) (by first | rfl | simp)) (.cons (ResOk.tmp rfl) (.nil))) ?_
          exact ⟨_, rfl, by rw [hat]; exact ⟨w, k + 1, by omega, rfl, rfl, NdAt.low hnd4 (by omega) hx5 (fun b _ (hb : b = h.size) => by omega)⟩, Ext0.only e4 hx5 (Nat.le_refl _)⟩
  · have a1 : ¬ (s.drop i).head? = some 40 := fun e => c1 ((head_at s i 40).2 e)
    refine G.seq rfl ?_
    refine G.reg Tryd.func79 rfl ?_
    refine RW.pureS rfl rfl rfl rfl (OpP.eqlInt rfl rfl) ?_
    refine RW.pureS rfl rfl rfl rfl (OpP.assign rfl) ?_
    refine RW.done rfl ?_
    refine G.sub (ρ' := [(0, _), (1, _), (4, _), (5, _), (12, _), (13, _), (34, _)]) ⟨rfl, rfl, rfl, rfl, rfl, rfl, rfl, trivial⟩ ?_
    refine G.ite rfl rfl (fun c2 => ?_) (fun c2 => ?_)
    · have a2 := (head_at s i 91).1 c2
      obtain ⟨hlt, hdr⟩ : i < s.length ∧ s.drop i = 91 :: s.drop (i + 1) := by
        rcases atI_cases s i with ⟨_, hd, _⟩ | ⟨c, _, hlt, hd, _⟩
        · rw [hd] at a2; cases a2
        · rw [hd] at a2; simp at a2; subst a2; exact ⟨hlt, hd⟩
      have hat : atomP (rowsP d) (s.drop i) = bracketP (s.drop (i + 1)) := by rw [hdr]; unfold atomP; simp
      rw [hat]
      refine G.seq rfl ?_
      refine G.reg Tryd.func79 rfl ?_
      refine RW.pureS rfl rfl rfl rfl (OpP.move rfl) ?_
      refine RW.pureS rfl rfl rfl rfl (OpP.move rfl) ?_
      refine RW.pureS rfl rfl rfl rfl (OpP.add64 rfl rfl ⟨by omega, by omega⟩) ?_
      refine RW.opS rfl rfl rfl rfl (OpX.call (vs := [_, _]) Tryd.func85 rfl H.nm85 rfl (CallsH.toX (bracketR_calls s (i + 1) (by omega) hs))) ?_
      rintro _ h2 ⟨hv, he2⟩
      have hz2 := he2.size
      have hkr2 := hkr.ext0 he2
      rcases hp : bracketP (s.drop (i + 1)) with _ | ⟨x, t⟩ <;> rw [hp] at hv
      · obtain ⟨k, st, w, hw, rfl⟩ := hv
        refine RW.pureS rfl rfl rfl rfl (OpP.extract rfl rfl) ?_
        refine RW.pureS rfl rfl rfl rfl (OpP.extract rfl rfl) ?_
        refine RW.op0 rfl rfl rfl (OpX.storeBlk H.sz94 rfl rfl hkr2 rfl (by first | decide | exact of_decide_eq_true rfl | (simp; done) | (simp; omega)) (ndC_oneW hw)) ?_
        rintro _ h3 ⟨rfl, hk3, hx3, hz3⟩
        refine RW.pureS rfl rfl rfl rfl (OpP.assign rfl) ?_
        refine RW.done rfl ?_
        refine G.sub (ρ' := [(0, _), (1, _), (4, _), (5, _), (12, _), (13, _), (34, _)]) ⟨rfl, rfl, rfl, rfl, rfl, rfl, rfl, trivial⟩ ?_
        have hk3 : Blk h3 h.size 94 (ndC k st w) := hk3
        refine G.retC Tryd.func79 rfl (.cons (ResOk.rowN H.ag94 H.sz94 rfl (hk3.row) (by first | rfl | simp)) (.cons (ResOk.tmp rfl) (.nil))) ?_
        exact ⟨_, rfl, ⟨k, st, w, hw, rfl⟩, Ext0.only (he1.trans he2) hx3 (Nat.le_refl _)⟩
      · obtain ⟨w, k, hk, rfl, rfl, hnd⟩ := hv
        refine RW.pureS rfl rfl rfl rfl (OpP.extract rfl rfl) ?_
        refine RW.pureS rfl rfl rfl rfl (OpP.extract rfl rfl) ?_
        refine RW.op0 rfl rfl rfl (OpX.storeBlk H.sz94 rfl rfl hkr2 rfl (by first | decide | exact of_decide_eq_true rfl | (simp; done) | (simp; omega)) (NdAt.one hnd)) ?_
        rintro _ h3 ⟨rfl, hk3, hx3, hz3⟩
        refine RW.pureS rfl rfl rfl rfl (OpP.assign rfl) ?_
        refine RW.done rfl ?_
        refine G.sub (ρ' := [(0, _), (1, _), (4, _), (5, _), (12, _), (13, _), (34, _)]) ⟨rfl, rfl, rfl, rfl, rfl, rfl, rfl, trivial⟩ ?_
        have hk3 : Blk h3 h.size 94 (ndC x.kind x.set w) := hk3
        refine G.retC Tryd.func79 rfl (.cons (ResOk.rowN H.ag94 H.sz94 rfl (hk3.row) (by first | rfl | simp)) (.cons (ResOk.tmp rfl) (.nil))) ?_
        exact ⟨_, rfl, ⟨w, k, hk, rfl, rfl, NdAt.low hnd (by omega) hx3 (fun b _ (hb : b = h.size) => by omega)⟩, Ext0.only (he1.trans he2) hx3 (Nat.le_refl _)⟩
    · have a2 : ¬ (s.drop i).head? = some 91 := fun e => c2 ((head_at s i 91).2 e)
      refine G.seq rfl ?_
      refine G.reg Tryd.func79 rfl ?_
      refine RW.pureS rfl rfl rfl rfl (OpP.eqlInt rfl rfl) ?_
      refine RW.pureS rfl rfl rfl rfl (OpP.assign rfl) ?_
      refine RW.done rfl ?_
      refine G.sub (ρ' := [(0, _), (1, _), (4, _), (5, _), (12, _), (13, _), (34, _), (42, _)]) ⟨rfl, rfl, rfl, rfl, rfl, rfl, rfl, rfl, trivial⟩ ?_
      refine G.ite rfl rfl (fun c3 => ?_) (fun c3 => ?_)
      · have a3 := (head_at s i 46).1 c3
        obtain ⟨hlt, hdr⟩ : i < s.length ∧ s.drop i = 46 :: s.drop (i + 1) := by
          rcases atI_cases s i with ⟨_, hd, _⟩ | ⟨c, _, hlt, hd, _⟩
          · rw [hd] at a3; cases a3
          · rw [hd] at a3; simp at a3; subst a3; exact ⟨hlt, hd⟩
        have hat : atomP (rowsP d) (s.drop i) = some (dotNd, s.drop (i + 1)) := by rw [hdr]; unfold atomP; simp
        rw [hat]
        refine G.seq rfl ?_
        refine G.reg Tryd.func79 rfl ?_
        refine RW.pureS rfl rfl rfl rfl (OpP.build (H.bd60_ ) rfl) ?_
        refine RW.opS rfl rfl rfl rfl (OpX.call (vs := [_, _, _]) Tryd.func86 rfl H.nm86 rfl (CallsH.toX (with_calls 0 0 9 (by decide) (by decide)))) ?_
        rintro _ h2 ⟨rfl, he2⟩
        refine RW.opS rfl rfl rfl rfl (OpX.call (vs := [_, _, _]) Tryd.func86 rfl H.nm86 rfl (CallsH.toX (with_calls (spanN 0 0 10) 11 255 (by decide) (by decide)))) ?_
        rintro _ h3 ⟨rfl, he3⟩
        refine RW.pureS rfl rfl rfl rfl (OpP.build (H.bd94_0_1 _ _ _ _ _) rfl) ?_
        refine RW.pureS rfl rfl rfl rfl (OpP.move rfl) ?_
        refine RW.pureS rfl rfl rfl rfl (OpP.add64 rfl rfl ⟨by omega, by omega⟩) ?_
        refine RW.op0 rfl rfl rfl (OpX.storeBlk H.sz94 rfl rfl ((hkr.ext0 he2).ext0 he3) rfl (by first | decide | exact of_decide_eq_true rfl | (simp; done) | (simp; omega)) (NdAt.one (NdAt.leaf h3 (fun _ => False) 1 dotNd.set))) ?_
        rintro _ h4 ⟨rfl, hk4, hx4, hz4⟩
        refine RW.pureS rfl rfl rfl rfl (OpP.assign rfl) ?_
        refine RW.done rfl ?_
        refine G.sub (ρ' := [(0, _), (1, _), (4, _), (5, _), (12, _), (13, _), (34, _), (42, _)]) ⟨rfl, rfl, rfl, rfl, rfl, rfl, rfl, rfl, trivial⟩ ?_
        have hk4 : Blk h4 h.size 94 (ndC 1 dotNd.set (.slice none 0 0)) := hk4
        refine G.retC Tryd.func79 rfl (.cons (ResOk.rowN H.ag94 H.sz94 rfl (hk4.row) (by first | rfl | simp)) (.cons (ResOk.tmp rfl) (.nil))) ?_
        exact ⟨_, rfl, ⟨.slice none 0 0, i + 1, by omega, rfl, rfl, NdAt.leaf _ _ _ _⟩, Ext0.only ((he1.trans he2).trans he3) hx4 (Nat.le_refl _)⟩
      · have a3 : ¬ (s.drop i).head? = some 46 := fun e => c3 ((head_at s i 46).2 e)
        have hat : atomP (rowsP d) (s.drop i) = (letR false (s.drop i)).map fun p => (byteNd p.1, p.2) := by
          rcases atI_cases s i with ⟨_, hd, _⟩ | ⟨c, _, hlt, hd, _⟩
          · rw [hd]; rfl
          · rw [hd] at a1 a2 a3 ⊢
            simp only [List.head?_cons, Option.some.injEq] at a1 a2 a3
            rw [letR_cons]
            unfold atomP
            simp only [a1, a2, a3, if_false]
            by_cases h92 : c = 92
            · simp [h92]
            · simp only [h92, if_false]
              have hiff : (c ∈ [(41 : UInt8), 93, 124, 42, 43, 63]) ↔ (c ∈ specialB ∧ (false = true ∨ (c ≠ 45 ∧ c ≠ 94))) := by
                have key : ∀ n : Fin 256, (UInt8.ofNat n.val ≠ 40 → UInt8.ofNat n.val ≠ 91 → UInt8.ofNat n.val ≠ 46 → UInt8.ofNat n.val ≠ 92 → ((UInt8.ofNat n.val ∈ [(41 : UInt8), 93, 124, 42, 43, 63]) ↔ (UInt8.ofNat n.val ∈ specialB ∧ (false = true ∨ (UInt8.ofNat n.val ≠ 45 ∧ UInt8.ofNat n.val ≠ 94))))) := by decide +kernel
                have := key ⟨c.toNat, c.toNat_lt⟩
                simp only [UInt8.ofNat_toNat] at this
                exact this a1 a2 a3 h92
              by_cases hm : c ∈ [(41 : UInt8), 93, 124, 42, 43, 63]
              · rw [if_pos hm, if_pos (hiff.1 hm)]; rfl
              · rw [if_neg hm, if_neg (fun k => hm (hiff.2 k))]; rfl
        rw [hat]
        refine G.skip rfl ?_
        refine G.blkEnd ?_
        refine G.seq rfl ?_
        refine G.reg Tryd.func79 rfl ?_
        refine RW.pureS rfl rfl rfl rfl (OpP.move rfl) ?_
        refine RW.pureS rfl rfl rfl rfl (OpP.move rfl) ?_
        refine RW.opS rfl rfl rfl rfl (OpX.call (vs := [_, _, _]) Tryd.func87 rfl H.nm87 rfl (CallsH.toX (letterR_calls s i hi hs false))) ?_
        rintro _ h1 ⟨hl, rfl⟩
        rcases hp : letR false (s.drop i) with _ | ⟨b, t⟩ <;> rw [hp] at hl
        · obtain ⟨b0, rfl⟩ := hl
          refine RW.pureS rfl rfl rfl rfl (OpP.move rfl) ?_
          refine RW.pureS rfl rfl rfl rfl (OpP.extract rfl rfl) ?_
          refine RW.pureS rfl rfl rfl rfl (OpP.extract rfl rfl) ?_
          refine RW.pureS rfl rfl rfl rfl (OpP.assign rfl) ?_
          refine RW.pureS rfl rfl rfl rfl (OpP.assign rfl) ?_
          refine RW.done rfl ?_
          refine G.sub (ρ' := [(0, _), (1, _), (4, _), (5, _), (8, _), (9, _), (12, _), (13, _), (34, _), (42, _)]) ⟨rfl, rfl, rfl, rfl, rfl, rfl, rfl, rfl, rfl, rfl, trivial⟩ ?_
          refine G.seq rfl ?_
          refine G.seq rfl ?_
          refine G.reg Tryd.func79 rfl ?_
          refine RW.pureS rfl rfl rfl rfl (OpP.move rfl) ?_
          refine RW.pureS rfl rfl rfl rfl (OpP.lss rfl rfl) ?_
          refine RW.done rfl ?_
          refine G.sub (ρ' := [(0, _), (1, _), (4, _), (5, _), (8, _), (9, _), (12, _), (13, _), (34, _), (42, _), (57, _)]) ⟨rfl, rfl, rfl, rfl, rfl, rfl, rfl, rfl, rfl, rfl, rfl, trivial⟩ ?_
          refine G.cond rfl rfl (fun _ => ?_) (fun hc => absurd hc (by decide))
          refine G.seq rfl ?_
          refine G.reg Tryd.func79 rfl ?_
          refine RW.pureS rfl rfl rfl rfl (OpP.build (H.bd94_ ) rfl) ?_
          refine RW.op0 rfl rfl rfl (OpX.storeBlk H.sz94 rfl rfl hkr rfl (by first | decide | exact of_decide_eq_true rfl | (simp; done) | (simp; omega)) (by first | decide | simp [Value.oneCell'])) ?_
          rintro _ h2 ⟨rfl, hk2, hx2, hz2⟩
          refine RW.pureS rfl rfl rfl rfl (OpP.assign rfl) ?_
          refine RW.done rfl ?_
          refine G.sub (ρ' := [(0, _), (1, _), (4, _), (5, _), (8, _), (9, _), (12, _), (13, _), (34, _), (42, _), (57, _)]) ⟨rfl, rfl, rfl, rfl, rfl, rfl, rfl, rfl, rfl, rfl, rfl, trivial⟩ ?_
          have hk2 : Blk h2 h.size 94 (ndC 0 0 (.slice none 0 0)) := hk2
          refine G.retC Tryd.func79 rfl (.cons (ResOk.rowN H.ag94 H.sz94 rfl (hk2.row) (by first | rfl | simp)) (.cons (ResOk.tmp rfl) (.nil))) ?_
          exact ⟨_, rfl, ⟨0, 0, _, rfl, rfl⟩, Ext0.only he1 hx2 (Nat.le_refl _)⟩
        · obtain ⟨k, hk, rfl, rfl⟩ := hl
          have hbl := b.toNat_lt
          refine RW.pureS rfl rfl rfl rfl (OpP.move rfl) ?_
          refine RW.pureS rfl rfl rfl rfl (OpP.extract rfl rfl) ?_
          refine RW.pureS rfl rfl rfl rfl (OpP.extract rfl rfl) ?_
          refine RW.pureS rfl rfl rfl rfl (OpP.assign rfl) ?_
          refine RW.pureS rfl rfl rfl rfl (OpP.assign rfl) ?_
          refine RW.done rfl ?_
          refine G.sub (ρ' := [(0, _), (1, _), (4, _), (5, _), (8, _), (9, _), (12, _), (13, _), (34, _), (42, _)]) ⟨rfl, rfl, rfl, rfl, rfl, rfl, rfl, rfl, rfl, rfl, trivial⟩ ?_
          refine G.seq rfl ?_
          refine G.seq rfl ?_
          refine G.reg Tryd.func79 rfl ?_
          refine RW.pureS rfl rfl rfl rfl (OpP.move rfl) ?_
          refine RW.pureS rfl rfl rfl rfl (OpP.lss rfl rfl) ?_
          refine RW.done rfl ?_
          refine G.sub (ρ' := [(0, _), (1, _), (4, _), (5, _), (8, _), (9, _), (12, _), (13, _), (34, _), (42, _), (57, _)]) ⟨rfl, rfl, rfl, rfl, rfl, rfl, rfl, rfl, rfl, rfl, rfl, trivial⟩ ?_
          refine G.cond rfl rfl (fun hc => absurd hc (by simp)) (fun _ => ?_)
          refine G.skip rfl ?_
          refine G.seq rfl ?_
          refine G.reg Tryd.func79 rfl ?_
          refine RW.pureS rfl rfl rfl rfl (OpP.build (H.bd60_ ) rfl) ?_
          refine RW.pureS rfl rfl rfl rfl (OpP.move rfl) ?_
          refine RW.pureS rfl rfl rfl rfl (OpP.convIn Tryd.underlying5 Tryd.underlying3 rfl (wrap_i64 ⟨by omega, by omega⟩)) ?_
          refine RW.pureS rfl rfl rfl rfl (OpP.move rfl) ?_
          refine RW.pureS rfl rfl rfl rfl (OpP.convIn Tryd.underlying5 Tryd.underlying3 rfl (wrap_i64 ⟨by omega, by omega⟩)) ?_
          refine RW.opS rfl rfl rfl rfl (OpX.call (vs := [_, _, _]) Tryd.func86 rfl H.nm86 rfl (CallsH.toX (with_calls 0 b.toNat b.toNat (by omega) (by omega)))) ?_
          rintro _ h2 ⟨rfl, he2⟩
          refine RW.pureS rfl rfl rfl rfl (OpP.build (H.bd94_0_1 _ _ _ _ _) rfl) ?_
          refine RW.pureS rfl rfl rfl rfl (OpP.move rfl) ?_
          refine RW.op0 rfl rfl rfl (OpX.storeBlk H.sz94 rfl rfl (hkr.ext0 he2) rfl (by first | decide | exact of_decide_eq_true rfl | (simp; done) | (simp; omega)) (NdAt.one (NdAt.leaf h2 (fun _ => False) 1 (byteNd b).set))) ?_
          rintro _ h3 ⟨rfl, hk3, hx3, hz3⟩
          refine RW.pureS rfl rfl rfl rfl (OpP.assign rfl) ?_
          refine RW.done rfl ?_
          refine G.sub (ρ' := [(0, _), (1, _), (4, _), (5, _), (8, _), (9, _), (12, _), (13, _), (34, _), (42, _), (57, _)]) ⟨rfl, rfl, rfl, rfl, rfl, rfl, rfl, rfl, rfl, rfl, rfl, trivial⟩ ?_
          have hk3 : Blk h3 h.size 94 (ndC 1 (byteNd b).set (.slice none 0 0)) := hk3
          refine G.retC Tryd.func79 rfl (.cons (ResOk.rowN H.ag94 H.sz94 rfl (hk3.row) (by first | rfl | simp)) (.cons (ResOk.tmp rfl) (.nil))) ?_
          exact ⟨_, rfl, ⟨.slice none 0 0, k, hk, rfl, rfl, NdAt.leaf _ _ _ _⟩, Ext0.only (he1.trans he2) hx3 (Nat.le_refl _)⟩

end Go.Proofs.YtlegopbpofofgaaDoor

/- The document's reader of rules: rows; the rule of a text. (printed by genref6.py) -/
namespace Go.Proofs.YtlegopbpofofgaaDoor
open Go Go.Lw
set_option maxRecDepth 20000

theorem SlR.weak {α : Type} {e : Elt α} {h : Heap} {O O' : Nat → Prop} {v : Value} {xs : List α} (k : SlR e h O v xs) (hO : ∀ b, b < h.size → O' b → O b) : SlR e h O' v xs := k.mv ⟨Nat.le_refl _, fun b hb hn => ⟨rfl, fun k => hn (hO b hb k)⟩⟩
theorem NdAt.weak {h : Heap} {O O' : Nat → Prop} {cs : List Value} {x : Nd} (k : NdAt h O cs x) (hO : ∀ b, b < h.size → O' b → O b) : NdAt h O' cs x := k.mv ⟨Nat.le_refl _, fun b hb hn => ⟨rfl, fun k => hn (hO b hb k)⟩⟩

theorem rowEnd_at (s : By) (j : Nat) : rowEnd (s.drop j) = decide (atI s j < 0 ∨ atI s j = 41 ∨ atI s j = 124) := by
  rcases atI_cases s j with ⟨_, hd, ha⟩ | ⟨c, _, _, hd, ha⟩
  · rw [hd, ha]; rfl
  · rw [hd, ha]
    have e1 : (((c.toNat : Nat) : Int) = 41) ↔ c = 41 := u8_is rfl
    have e2 : (((c.toNat : Nat) : Int) = 124) ↔ c = 124 := u8_is rfl
    have h0 : ¬ (((c.toNat : Nat) : Int) < 0) := by omega
    rw [Bool.eq_iff_iff]
    simp only [rowEnd, Bool.or_eq_true, beq_iff_eq, decide_eq_true_eq, e1, e2, h0, false_or]
    exact Or.comm

theorem rowsR_step {d : Nat} (ih : RowsOkR d) {h : Heap} (s : By) (i : Nat) (hi : i ≤ s.length) (hd : (s.drop i).length ≤ d) (hs : s.length ≤ 1000000) : CallsH Tryd.prog 61 #[.string (bs s), .int .i64 (i : Nat)] h (Ret fun r h' => NodV h.size h' s (rowsP (d + 1) (s.drop i)) r ∧ Ext0 h h') := by
  have hrl : ∀ {s x r}, rowsP d s = some (x, r) → r.length ≤ s.length := fun h => rowsP_len d h
  have hrows : rowsP (d + 1) (s.drop i) = rowsG (rowsP d) ((s.drop i).length + 1) [] [] (s.drop i) := rfl
  generalize htg : rowsG (rowsP d) ((s.drop i).length + 1) [] [] (s.drop i) = tgt at hrows
  rw [hrows]
  refine CallsH.of Tryd.func61 rfl rfl ?_
  refine G.seq rfl ?_
  refine G.reg Tryd.func61 rfl ?_
  refine RW.opS rfl rfl rfl rfl (OpX.allocN H.zr94) ?_
  rintro _ h1 ⟨rfl, hkr, he1, hz1⟩
  refine RW.pureS rfl rfl rfl rfl (OpP.assign rfl) ?_
  refine RW.done rfl ?_
  refine G.sub (ρ' := [(0, _), (1, _), (4, _), (5, _)]) ⟨rfl, rfl, rfl, rfl, trivial⟩ ?_
  refine G.seq rfl ?_
  refine G.reg Tryd.func61 rfl ?_
  refine RW.pureS rfl rfl rfl rfl (OpP.assign rfl) ?_
  refine RW.pureS rfl rfl rfl rfl (OpP.assign rfl) ?_
  refine RW.done rfl ?_
  refine G.sub (ρ' := [(0, _), (1, _), (4, _), (5, _), (6, _), (7, _)]) ⟨rfl, rfl, rfl, rfl, rfl, rfl, trivial⟩ ?_
  refine G.block rfl rfl ?_
  have hkr : Blk h1 h.size 94 (ndC 0 0 (.slice none 0 0)) := hkr
  refine G.loop (σ := List Nd × List Nd × Value × Value × Nat) (fun q => [(0, .string (bs s)), (1, .int .i64 (q.2.2.2.2 : Nat)), (4, .pointer (some ⟨h.size, 0, none⟩)), (6, q.2.2.1), (7, q.2.2.2.1)]) (fun q h' => OwX eNd (fun b => b < h1.size ∨ but q.2.2.2.1.ownBlock b) h' h1.size 94 q.2.2.1 q.1 ∧ OwX eNd (fun b => b < h1.size ∨ but q.2.2.1.ownBlock b) h' h1.size 94 q.2.2.2.1 q.2.1 ∧ (∀ b, q.2.2.1.ownBlock = some b → q.2.2.2.1.ownBlock = some b → False) ∧ Blk h' h.size 94 (ndC 0 0 (.slice none 0 0)) ∧ Ext0 h h' ∧ (q.2.2.2.2 ≤ s.length ∧ i ≤ q.2.2.2.2 ∧ q.1.length + q.2.1.length ≤ q.2.2.2.2) ∧ rowsG (rowsP d) ((s.drop q.2.2.2.2).length + 1) q.1 q.2.1 (s.drop q.2.2.2.2) = tgt) (fun q => s.length - q.2.2.2.2) (([], [], .slice none 0 0, .slice none 0 0, i)) rfl ⟨rfl, rfl, rfl, rfl, rfl, trivial⟩ ⟨OwX.nil _ _ _ _ _, OwX.nil _ _ _ _ _, fun b hb => by simp [Value.ownBlock] at hb, hkr, he1, ⟨hi, Nat.le_refl _, Nat.zero_le _⟩, htg⟩ ?_
  rintro ⟨all, row, va, vr, j⟩ h5 ⟨hva, hvr, hdis, hkr5, e5, ⟨hj, hij, hlens⟩, hcon⟩ ih'
  try dsimp only
  dsimp only at hva hvr hdis hj hij hlens hcon
  have hz5 := hkr5.lt
  have hze5 := e5.size
  obtain ⟨ca, ha1, ha2, ha3⟩ := id hva
  obtain ⟨cr, hr1, hr2, hr3⟩ := id hvr
  have hoa : ∀ b, va.ownBlock = some b → h1.size ≤ b ∧ b < h5.size := fun b hb => ha2.lt hb
  have hor : ∀ b, vr.ownBlock = some b → h1.size ≤ b ∧ b < h5.size := fun b hb => hr2.lt hb
  have hdl : (s.drop j).length = s.length - j := by simp
  have hdl0 : (s.drop i).length = s.length - i := by simp
  refine G.block rfl rfl ?_
  refine G.seq rfl ?_
  refine G.reg Tryd.func61 rfl ?_
  refine RW.pureS rfl rfl rfl rfl (OpP.move rfl) ?_
  refine RW.pureS rfl rfl rfl rfl (OpP.move rfl) ?_
  refine RW.opS rfl rfl rfl rfl (OpX.call (vs := [_, _]) Tryd.func77 rfl H.nm77 rfl (CallsH.toX (at_calls s j))) ?_
  rintro _ h5 ⟨rfl, rfl⟩
  refine RW.pureS rfl rfl rfl rfl (OpP.assign rfl) ?_
  refine RW.done rfl ?_
  refine G.sub (ρ' := [(0, _), (1, _), (4, _), (6, _), (7, _), (8, _)]) ⟨rfl, rfl, rfl, rfl, rfl, rfl, trivial⟩ ?_
  refine G.seq rfl ?_
  refine G.seq rfl ?_
  have hre := rowEnd_at s j
  rw [rowsG] at hcon
  refine G.regTo1 [(23, .bool (rowEnd (s.drop j)))] [(0, _), (1, _), (4, _), (6, _), (7, _), (8, _)] ⟨rfl, rfl, rfl, rfl, rfl, rfl, trivial⟩ Tryd.func61 rfl ?_ ?_
  · refine RW.pureS rfl rfl rfl rfl (OpP.move rfl) ?_
    refine RW.pureS rfl rfl rfl rfl (OpP.lss rfl rfl) ?_
    refine RW.pureS rfl rfl rfl rfl (OpP.move rfl) ?_
    refine RW.split (d := 16) rfl (fun g1 => ?_) (fun g1 => ?_)
    · refine RW.skipS rfl rfl rfl rfl ?_
      refine RW.skipS rfl rfl rfl rfl ?_
      refine RW.pureS rfl rfl rfl rfl (OpP.pickT rfl rfl) ?_
      refine RW.pureS rfl rfl rfl rfl (OpP.move rfl) ?_
      refine RW.skipS rfl rfl rfl rfl ?_
      refine RW.skipS rfl rfl rfl rfl ?_
      refine RW.pureS rfl rfl rfl rfl (OpP.pickT rfl rfl) ?_
      refine RW.done rfl ?_
      exact ⟨rfl, at_bool rfl (by rw [hre, eq_comm, decide_eq_true_eq]; exact .inl (of_decide_eq_true g1)), rfl, rfl, rfl, rfl, rfl, rfl, trivial⟩
    · refine RW.pureS rfl rfl rfl rfl (OpP.move rfl) ?_
      refine RW.pureS rfl rfl rfl rfl (OpP.eqlInt rfl rfl) ?_
      refine RW.pureS rfl rfl rfl rfl (OpP.pickF rfl rfl) ?_
      refine RW.pureS rfl rfl rfl rfl (OpP.move rfl) ?_
      refine RW.split (d := 20) rfl (fun g2 => ?_) (fun g2 => ?_)
      · refine RW.skipS rfl rfl rfl rfl ?_
        refine RW.skipS rfl rfl rfl rfl ?_
        refine RW.pureS rfl rfl rfl rfl (OpP.pickT rfl rfl) ?_
        refine RW.done rfl ?_
        exact ⟨rfl, at_bool rfl (by rw [hre, eq_comm, decide_eq_true_eq]; exact .inr (.inl (of_decide_eq_true g2))), rfl, rfl, rfl, rfl, rfl, rfl, trivial⟩
      · refine RW.pureS rfl rfl rfl rfl (OpP.move rfl) ?_
        refine RW.pureS rfl rfl rfl rfl (OpP.eqlInt rfl rfl) ?_
        refine RW.pureS rfl rfl rfl rfl (OpP.pickF rfl rfl) ?_
        refine RW.done rfl ?_
        exact ⟨rfl, at_bool rfl (by rw [hre, decide_eq_decide]; have g1 := of_decide_eq_false g1; have g2 := of_decide_eq_false g2; exact ⟨fun k => .inr (.inr k), fun k => by rcases k with k | k | k; exact absurd k g1; exact absurd k g2; exact k⟩), rfl, rfl, rfl, rfl, rfl, rfl, trivial⟩
  · refine G.cond rfl rfl (fun hend => ?_) (fun hend => ?_)
    · rw [if_pos hend] at hcon
      have hslr : SlR eNd h5 (fun b => b < h1.size ∨ but va.ownBlock b) vr row := hvr.read2 (fun b hb k => by rcases k with k | k; have := hor b hb; omega; exact hdis b k.symm hb) (fun b _ k => k)
      refine G.seq rfl ?_
      refine G.reg Tryd.func61 rfl ?_
      refine RW.pureS rfl rfl rfl rfl (OpP.move rfl) ?_
      refine RW.pureS rfl rfl rfl rfl (OpP.move rfl) ?_
      refine RW.opS rfl rfl rfl rfl (OpX.call (vs := [_, _]) Tryd.func78 rfl H.nm78 rfl (CallsH.toX (join_calls 2 hslr))) ?_
      rintro _ h6 ⟨⟨w, rfl, hnd6⟩, he6⟩
      have hz6 := he6.size
      have ha36 : ∀ (i : Nat) (cs : List Value) (x : Nd), ca[i]? = some cs → all[i]? = some x → eNd.R h6 (fun b => but va.ownBlock b ∨ b < h1.size) cs x := fun i cs x h1' h2' => NdAt.ext0 (NdAt.weak (ha3 i cs x h1' h2') (fun b _ k => k.imp id .inl)) he6
      have hnd6' : eNd.R h6 (fun b => but va.ownBlock b ∨ b < h1.size) (ndC (joinNd 2 row).kind (joinNd 2 row).set w) (joinNd 2 row) := NdAt.weak hnd6 (fun b _ k => k.symm)
      refine RW.opS rfl rfl rfl rfl (OpX.buildRec (cs := [_, _, _, _, _, _]) Tryd.underlying92 H.el94 rfl rfl (by decide)) ?_
      rintro _ _ ⟨rfl, rfl⟩
      refine RW.opS rfl rfl rfl rfl (OpX.appendNew Tryd.underlying92 H.el94 rfl rfl ((ha2.ext0' he6)) rfl rfl (NdAt.one hnd6) (by omega) (by decide) (by omega)) ?_
      rintro v7 h7 ⟨ho7, hx7, -, hv7⟩
      refine RW.pureS rfl rfl rfl rfl (OpP.assign rfl) ?_
      refine RW.done rfl ?_
      refine G.sub (ρ' := [(0, _), (1, _), (4, _), (6, _), (7, _), (8, _), (23, _)]) ⟨rfl, rfl, rfl, rfl, rfl, rfl, rfl, trivial⟩ ?_
      refine G.seq rfl ?_
      refine G.reg Tryd.func61 rfl ?_
      refine RW.pureS rfl rfl rfl rfl (OpP.assign rfl) ?_
      refine RW.done rfl ?_
      refine G.sub (ρ' := [(0, _), (1, _), (4, _), (6, _), (7, _), (8, _), (23, _)]) ⟨rfl, rfl, rfl, rfl, rfl, rfl, rfl, trivial⟩ ?_
      refine G.seq rfl ?_
      refine G.seq rfl ?_
      refine G.reg Tryd.func61 rfl ?_
      refine RW.pureS rfl rfl rfl rfl (OpP.move rfl) ?_
      refine RW.pureS rfl rfl rfl rfl (OpP.neqInt rfl rfl) ?_
      refine RW.done rfl ?_
      refine G.sub (ρ' := [(0, _), (1, _), (4, _), (6, _), (7, _), (8, _), (23, _), (30, _)]) ⟨rfl, rfl, rfl, rfl, rfl, rfl, rfl, rfl, trivial⟩ ?_
      have hva7 : OwX eNd (blw h1.size) h7 h1.size 94 v7 (all ++ [joinNd 2 row]) := OwX.pushed ha1 ha36 ho7 hx7 hv7 hnd6'
      have hr7 : ¬ but va.ownBlock h.size := fun k => by have := hoa _ k.symm; omega
      have e7 : Ext0 h h7 := ⟨by have := hx7.size; omega, fun b hb hn => by rw [hx7.block b (by omega) (fun k => by have := hoa b k.symm; omega), he6.block b (by omega) (fun k => k)]; exact e5.block b hb hn⟩
      have hkr7 := (hkr5.ext0 he6).ext hx7 hr7
      have h124 := head_at s j 124
      refine G.ite rfl rfl (fun hbar => ?_) (fun hbar => ?_)
      · have hbar' : ¬ (s.drop j).head? = some 124 := fun e => hbar (h124.2 e)
        rw [if_neg hbar'] at hcon
        have hsla : SlR eNd h7 (blw h1.size) v7 (all ++ [joinNd 2 row]) := hva7.read (fun b hb (k : b < h1.size) => by omega) (fun b _ k => k)
        refine G.seq rfl ?_
        refine G.reg Tryd.func61 rfl ?_
        refine RW.pureS rfl rfl rfl rfl (OpP.move rfl) ?_
        refine RW.opS rfl rfl rfl rfl (OpX.call (vs := [_, _]) Tryd.func78 rfl H.nm78 rfl (CallsH.toX (join_calls 3 hsla))) ?_
        rintro _ h8 ⟨⟨w8, rfl, hnd8⟩, he8⟩
        refine RW.pureS rfl rfl rfl rfl (OpP.move rfl) ?_
        refine RW.op0 rfl rfl rfl (OpX.storeBlk H.sz94 rfl rfl (hkr7.ext0 he8) rfl (by first | decide | exact of_decide_eq_true rfl | (simp; done) | (simp; omega)) (NdAt.one hnd8)) ?_
        rintro _ h9 ⟨rfl, hk9, hx9, hz9⟩
        refine RW.pureS rfl rfl rfl rfl (OpP.assign rfl) ?_
        refine RW.done rfl ?_
        refine G.sub (ρ' := [(0, _), (1, _), (4, _), (5, _), (6, _), (7, _), (8, _), (23, _), (30, _)]) ⟨rfl, rfl, rfl, rfl, rfl, rfl, rfl, rfl, rfl, trivial⟩ ?_
        have hk9 : Blk h9 h.size 94 (ndC (joinNd 3 (all ++ [joinNd 2 row])).kind (joinNd 3 (all ++ [joinNd 2 row])).set w8) := hk9
        refine G.retC Tryd.func61 rfl (.cons (ResOk.rowN H.ag94 H.sz94 rfl (hk9.row) (by first | rfl | simp)) (.cons (ResOk.tmp rfl) (.nil))) ?_
        exact ⟨_, rfl, by rw [← hcon]; exact ⟨w8, j, hj, rfl, rfl, NdAt.low hnd8 (by omega) hx9 (fun b _ (hb : b = h.size) => by omega)⟩, Ext0.only (e7.trans he8) hx9 (Nat.le_refl _)⟩
      · have hbar' := h124.1 (Classical.not_not.1 hbar)
        have hlt : j < s.length := by
          rcases atI_cases s j with ⟨_, hd, _⟩ | ⟨_, _, hlt, _, _⟩
          · rw [hd] at hbar'; cases hbar'
          · exact hlt
        rw [if_pos hbar', tail_drop] at hcon
        have hcon' : rowsG (rowsP d) ((s.drop (j + 1)).length + 1) (all ++ [joinNd 2 row]) [] (s.drop (j + 1)) = tgt := by
          rw [← hcon]
          exact rowsG_fuel hrl _ _ _ _ _ _ (Nat.le_refl _) (Nat.lt_succ_self _) (by simp only [List.length_drop]; omega)
        refine G.skip rfl ?_
        refine G.seq rfl ?_
        refine G.reg Tryd.func61 rfl ?_
        refine RW.pureS rfl rfl rfl rfl (OpP.move rfl) ?_
        refine RW.pureS rfl rfl rfl rfl (OpP.add64 rfl rfl ⟨by omega, by omega⟩) ?_
        refine RW.pureS rfl rfl rfl rfl (OpP.assign rfl) ?_
        refine RW.done rfl ?_
        refine G.sub (ρ' := [(0, _), (1, _), (4, _), (6, _), (7, _), (8, _), (23, _), (30, _)]) ⟨rfl, rfl, rfl, rfl, rfl, rfl, rfl, rfl, trivial⟩ ?_
        refine G.exit rfl rfl ?_
        exact ih' (all ++ [joinNd 2 row], [], v7, .slice none 0 0, j + 1) _ _ ⟨rfl, rfl, rfl, rfl, rfl, trivial⟩ ⟨hva7.mv2 (Ext.refl (fun _ => False) _) (fun b _ k => k) (fun b _ k => k.elim) (fun b _ k => by rcases k with k | k; exact k; simp [but, Value.ownBlock] at k), OwX.nil _ _ _ _ _, fun b _ hb => by simp [Value.ownBlock] at hb, hkr7, e7, ⟨hlt, by show i ≤ j + 1; omega, by show (all ++ [joinNd 2 row]).length + 0 ≤ j + 1; rw [List.length_append, List.length_singleton]; omega⟩, hcon'⟩ (by show s.length - (j + 1) < s.length - j; omega)
    · rw [if_neg (by rw [hend]; decide)] at hcon
      refine G.skip rfl ?_
      refine G.seq rfl ?_
      refine G.reg Tryd.func61 rfl ?_
      refine RW.pureS rfl rfl rfl rfl (OpP.move rfl) ?_
      refine RW.pureS rfl rfl rfl rfl (OpP.move rfl) ?_
      refine RW.opS rfl rfl rfl rfl (OpX.call (vs := [_, _]) Tryd.func79 rfl H.nm79 rfl (CallsH.toX (atomR_calls ih s j hj (by omega) hs))) ?_
      rintro _ h6 ⟨hv, he6⟩
      have hz6 := he6.size
      have hkr6 := hkr5.ext0 he6
      have hpc : pieceP (rowsP d) (s.drop j) = (atomP (rowsP d) (s.drop j)).map fun p => signsP p.1 p.2 := rfl
      rcases hp : atomP (rowsP d) (s.drop j) with _ | ⟨x0, t0⟩ <;> rw [hp] at hv hpc
      · obtain ⟨k, st, w, hw, rfl⟩ := hv
        have hnone : tgt = none := by rw [← hcon, hpc]; rfl
        rw [hnone]
        refine RW.pureS rfl rfl rfl rfl (OpP.move rfl) ?_
        refine RW.pureS rfl rfl rfl rfl (OpP.extract rfl rfl) ?_
        refine RW.pureS rfl rfl rfl rfl (OpP.extract rfl rfl) ?_
        refine RW.opS rfl rfl rfl rfl (OpX.allocN H.zr94) ?_
        rintro _ h7 ⟨rfl, hk7, he7, hz7⟩
        refine RW.op0 rfl rfl rfl (OpX.storeBlk H.sz94 rfl rfl hk7 rfl (by first | decide | exact of_decide_eq_true rfl | (simp; done) | (simp; omega)) (ndC_oneW hw)) ?_
        rintro _ h8 ⟨rfl, hk8, hx8, hz8⟩
        refine RW.pureS rfl rfl rfl rfl (OpP.assign rfl) ?_
        refine RW.done rfl ?_
        refine G.sub (ρ' := [(0, _), (1, _), (4, _), (6, _), (7, _), (8, _), (9, _), (10, _), (23, _)]) ⟨rfl, rfl, rfl, rfl, rfl, rfl, rfl, rfl, rfl, trivial⟩ ?_
        refine G.seq rfl ?_
        refine G.seq rfl ?_
        refine G.reg Tryd.func61 rfl ?_
        refine RW.pureS rfl rfl rfl rfl (OpP.move rfl) ?_
        refine RW.pureS rfl rfl rfl rfl (OpP.lss rfl rfl) ?_
        refine RW.done rfl ?_
        refine G.sub (ρ' := [(0, _), (1, _), (4, _), (6, _), (7, _), (8, _), (9, _), (10, _), (23, _), (43, _)]) ⟨rfl, rfl, rfl, rfl, rfl, rfl, rfl, rfl, rfl, rfl, trivial⟩ ?_
        have hk8 : Blk h8 h6.size 94 (ndC k st w) := hk8
        refine G.cond rfl rfl (fun _ => ?_) (fun hc => absurd hc (by decide))
        refine G.seq rfl ?_
        refine G.reg Tryd.func61 rfl ?_
        refine RW.pureS rfl rfl rfl rfl (OpP.loadRowN H.ag94 H.sz94 rfl hk8.row (by first | rfl | simp)) ?_
        refine RW.op0 rfl rfl rfl (OpX.storeBlk H.sz94 rfl rfl ((hkr6.ext0 he7).ext hx8 (by show ¬ _ = _; omega)) rfl (by first | decide | exact of_decide_eq_true rfl | (simp; done) | (simp; omega)) (ndC_oneW hw)) ?_
        rintro _ h9 ⟨rfl, hk9, hx9, hz9⟩
        refine RW.pureS rfl rfl rfl rfl (OpP.assign rfl) ?_
        refine RW.done rfl ?_
        refine G.sub (ρ' := [(0, _), (1, _), (4, _), (5, _), (6, _), (7, _), (8, _), (9, _), (10, _), (23, _), (43, _)]) ⟨rfl, rfl, rfl, rfl, rfl, rfl, rfl, rfl, rfl, rfl, rfl, trivial⟩ ?_
        have hk9 : Blk h9 h.size 94 (ndC k st w) := hk9
        refine G.retC Tryd.func61 rfl (.cons (ResOk.rowN H.ag94 H.sz94 rfl (hk9.row) (by first | rfl | simp)) (.cons (ResOk.tmp rfl) (.nil))) ?_
        exact ⟨_, rfl, ⟨k, st, w, hw, rfl⟩, Ext0.only (Ext0.only ((e5.trans he6).trans he7) hx8 (by omega)) hx9 (Nat.le_refl _)⟩
      · obtain ⟨w0, m0, hm0, rfl, rfl, hnd⟩ := hv
        have hal := atomP_len hrl hp
        simp only [List.length_drop] at hal
        have hpc : pieceP (rowsP d) (s.drop j) = some (signsP x0 (s.drop m0)) := hpc
        refine RW.pureS rfl rfl rfl rfl (OpP.move rfl) ?_
        refine RW.pureS rfl rfl rfl rfl (OpP.extract rfl rfl) ?_
        refine RW.pureS rfl rfl rfl rfl (OpP.extract rfl rfl) ?_
        refine RW.opS rfl rfl rfl rfl (OpX.allocN H.zr94) ?_
        rintro _ h7 ⟨rfl, hk7, he7, hz7⟩
        refine RW.op0 rfl rfl rfl (OpX.storeBlk H.sz94 rfl rfl hk7 rfl (by first | decide | exact of_decide_eq_true rfl | (simp; done) | (simp; omega)) (NdAt.one hnd)) ?_
        rintro _ h8 ⟨rfl, hk8, hx8, hz8⟩
        refine RW.pureS rfl rfl rfl rfl (OpP.assign rfl) ?_
        refine RW.done rfl ?_
        refine G.sub (ρ' := [(0, _), (1, _), (4, _), (6, _), (7, _), (8, _), (9, _), (10, _), (23, _)]) ⟨rfl, rfl, rfl, rfl, rfl, rfl, rfl, rfl, rfl, trivial⟩ ?_
        refine G.seq rfl ?_
        refine G.seq rfl ?_
        refine G.reg Tryd.func61 rfl ?_
        refine RW.pureS rfl rfl rfl rfl (OpP.move rfl) ?_
        refine RW.pureS rfl rfl rfl rfl (OpP.lss rfl rfl) ?_
        refine RW.done rfl ?_
        refine G.sub (ρ' := [(0, _), (1, _), (4, _), (6, _), (7, _), (8, _), (9, _), (10, _), (23, _), (43, _)]) ⟨rfl, rfl, rfl, rfl, rfl, rfl, rfl, rfl, rfl, rfl, trivial⟩ ?_
        have hk8 : Blk h8 h6.size 94 (ndC x0.kind x0.set w0) := hk8
        have e68 : Ext0 h6 h8 := Ext0.only he7 hx8 (Nat.le_refl _)
        have e58 := he6.trans e68
        have hnd8 : NdAt h8 (fun b => b < h5.size ∨ b = h6.size) (ndC x0.kind x0.set w0) x0 := hnd.mv (Mv.ofExt e68 fun b hb hn => ⟨fun k => k, fun k => by have : ¬ b < h5.size := hn; omega⟩)
        generalize hnb : h6.size = nb at hk8 hnd8
        have hnb5 : h5.size ≤ nb := by omega
        rw [hpc] at hcon
        simp only at hcon
        generalize hsg : signsP x0 (s.drop m0) = tg2 at hcon
        refine G.cond rfl rfl (fun hc => absurd hc (by simp)) (fun _ => ?_)
        refine G.skip rfl ?_
        refine G.seq rfl ?_
        refine G.block rfl rfl ?_
        refine G.loop (σ := Nd × Value × Nat) (fun q => [(0, .string (bs s)), (1, .int .i64 (j : Nat)), (4, .pointer (some ⟨h.size, 0, none⟩)), (6, va), (7, vr), (9, .pointer (some ⟨nb, 0, none⟩)), (10, .int .i64 (q.2.2 : Nat))]) (fun q h' => Blk h' nb 94 (ndC q.1.kind q.1.set q.2.1) ∧ NdAt h' (fun b => b < h5.size ∨ b = nb) (ndC q.1.kind q.1.set q.2.1) q.1 ∧ Ext0 h5 h' ∧ (q.2.2 ≤ s.length ∧ j < q.2.2) ∧ signsP q.1 (s.drop q.2.2) = tg2) (fun q => s.length - q.2.2) ((x0, w0, m0)) rfl ⟨rfl, rfl, rfl, rfl, rfl, rfl, rfl, trivial⟩ ⟨hk8, hnd8, e58, ⟨hm0, by show j < m0; omega⟩, hsg⟩ ?_
        rintro ⟨x, w, m⟩ h8 ⟨hk8, hnd8, e8, ⟨hm, him⟩, hsg⟩ ih2
        try dsimp only
        dsimp only at hk8 hnd8 hm him hsg
        have hze8 := e8.size
        have hlt8 := hk8.lt
        refine G.seq rfl ?_
        refine G.seq rfl ?_
        refine G.reg Tryd.func61 rfl ?_
        refine RW.pureS rfl rfl rfl rfl (OpP.move rfl) ?_
        refine RW.pureS rfl rfl rfl rfl (OpP.move rfl) ?_
        refine RW.opS rfl rfl rfl rfl (OpX.call (vs := [_, _]) Tryd.func77 rfl H.nm77 rfl (CallsH.toX (at_calls s m))) ?_
        rintro _ h8 ⟨rfl, rfl⟩
        refine RW.opS rfl rfl rfl rfl (OpX.call (vs := [_]) Tryd.func80 rfl H.nm80 rfl (CallsH.toX (signR_calls (atI s m)))) ?_
        rintro _ h8 ⟨rfl, rfl⟩
        refine RW.pureS rfl rfl rfl rfl (OpP.gtr rfl rfl) ?_
        refine RW.done rfl ?_
        refine G.sub (ρ' := [(0, _), (1, _), (4, _), (6, _), (7, _), (9, _), (10, _), (49, _)]) ⟨rfl, rfl, rfl, rfl, rfl, rfl, rfl, rfl, trivial⟩ ?_
        rw [signI_at]
        refine G.ite rfl rfl (fun hgo => ?_) (fun hgo => ?_)
        · have hgo : 0 < signOf ((s.drop m).head?.getD 0) := by omega
          have hlt : m < s.length := by
            rcases atI_cases s m with ⟨_, hd, _⟩ | ⟨_, _, hlt, _, _⟩
            · rw [hd] at hgo; exact absurd hgo (show ¬ 0 < signOf (([] : By).head?.getD 0) by decide)
            · exact hlt
          have hnext : signsP (.mk (signOf ((s.drop m).head?.getD 0)) 0 [x]) (s.drop (m + 1)) = tg2 := by
            rcases atI_cases s m with ⟨_, hd, _⟩ | ⟨c, _, _, hd, _⟩
            · rw [hd] at hgo; exact absurd hgo (show ¬ 0 < signOf (([] : By).head?.getD 0) by decide)
            · rw [hd] at hgo hsg ⊢
              simp only [List.head?_cons, Option.getD_some] at hgo ⊢
              rw [← hsg, signsP_step hgo]
          generalize hsgd : s.drop m = sg at hnext hgo
          have hsl := SlR.made1 (e := eNd) (t := 94) hnd8 (show ¬ (h8.size < h5.size ∨ h8.size = nb) by omega)
          have ep := Ext.push (fun _ => False) h8 (.cells (ndC x.kind x.set w).toArray 94)
          have hn2 : ¬ Array.size h8 ≤ nb := by omega
          refine G.skip rfl ?_
          refine G.block rfl rfl ?_
          refine G.seq rfl ?_
          refine G.draw (fun b => Array.size h8 ≤ b) (fun i => Nat.blt i 7) (sz := 8) (listed := #[false, false, false, false, false, false, false, false]) Tryd.func61 H.mixed rfl rfl rfl ?_
          refine RD.takeS 0 (listed' := #[true, false, false, false, false, false, false, false]) rfl (by kernel_rfl) (by kernel_rfl) (by kernel_rfl) rfl rfl rfl (fun h' e => OpP.move rfl) rfl ?_
          refine RD.takeS 1 (listed' := #[true, true, false, false, false, false, false, false]) rfl (by kernel_rfl) (by kernel_rfl) (by kernel_rfl) rfl rfl rfl (fun h' e => OpP.move rfl) rfl ?_
          refine RD.takeS 4 (listed' := #[true, true, false, false, true, false, false, false]) rfl (by kernel_rfl) (by kernel_rfl) (by kernel_rfl) rfl rfl rfl (fun h' e => OpP.loadRowN H.ag94 H.sz94 rfl (e.rowAt hn2 hk8.row) (by first | rfl | simp)) rfl ?_
          refine RD.twoS 2 5 (li := #[true, true, true, false, true, false, false, false]) (lj := #[true, true, false, false, true, true, false, false]) rfl rfl (by kernel_rfl) rfl rfl rfl rfl rfl rfl (OpX.call (vs := [_, _]) Tryd.func77 rfl H.nm77 rfl (CallsH.toX (at_calls s m))) (OpX.buildRec (cs := [_, _, _, _, _, _]) Tryd.underlying92 H.el94 rfl rfl (by decide)) rfl rfl ?_ ?_
          · rintro _ h8 ⟨rfl, rfl⟩
            refine ⟨fun _ => Ext.refl _ _, ?_⟩
            refine RD.twoS 3 5 (li := #[true, true, true, true, true, false, false, false]) (lj := #[true, true, true, false, true, true, false, false]) rfl rfl (by kernel_rfl) rfl rfl rfl rfl rfl rfl (OpX.call (vs := [_]) Tryd.func80 rfl H.nm80 rfl (CallsH.toX (signR_calls (atI s m)))) (OpX.buildRec (cs := [_, _, _, _, _, _]) Tryd.underlying92 H.el94 rfl rfl (by decide)) rfl rfl ?_ ?_
            · rintro _ h8 ⟨rfl, rfl⟩
              refine ⟨fun _ => Ext.refl _ _, ?_⟩
              refine RD.oneS 5 (listed' := #[true, true, true, true, true, true, false, false]) rfl (by kernel_rfl) rfl rfl rfl (OpX.buildRec (cs := [_, _, _, _, _, _]) Tryd.underlying92 H.el94 rfl rfl (by decide)) rfl ?_
              rintro _ _ ⟨rfl, rfl⟩
              refine ⟨fun _ => by first | exact Ext.push _ _ _ | assumption, ?_⟩
              refine RD.takeS 6 (listed' := #[true, true, true, true, true, true, true, false]) rfl (by kernel_rfl) (by kernel_rfl) (by kernel_rfl) rfl rfl rfl (fun h' e => OpP.build (H.bd94_0_2 _ _ _ _) rfl) rfl ?_
              refine RD.one0 7 (listed' := #[true, true, true, true, true, true, true, true]) rfl (by kernel_rfl) rfl rfl (OpX.storeBlk H.sz94 rfl rfl (hk8.ext0 ep) rfl (by first | decide | exact of_decide_eq_true rfl | (simp; done) | (simp; omega)) (ndC_oneW (k := signI (atI s m)) (st := 0) (w := .slice (some ⟨h8.size, 0, none⟩) 1 1) rfl)) rfl ?_
              rintro _ h9 ⟨rfl, hk9, hx9, hz9⟩
              refine ⟨fun hk => (nomatch hk), ?_⟩
              refine RD.done (by kernel_rfl) ?_
              refine G.sub (ρ' := [(0, _), (1, _), (4, _), (6, _), (7, _), (9, _), (10, _), (49, _)]) ⟨rfl, rfl, rfl, rfl, rfl, rfl, rfl, rfl, trivial⟩ ?_
              refine G.reg Tryd.func61 rfl ?_
              refine RW.pureS rfl rfl rfl rfl (OpP.move rfl) ?_
              refine RW.pureS rfl rfl rfl rfl (OpP.add64 rfl rfl ⟨by omega, by omega⟩) ?_
              refine RW.pureS rfl rfl rfl rfl (OpP.assign rfl) ?_
              refine RW.done rfl ?_
              refine G.sub (ρ' := [(0, _), (1, _), (4, _), (6, _), (7, _), (9, _), (10, _), (49, _)]) ⟨rfl, rfl, rfl, rfl, rfl, rfl, rfl, rfl, trivial⟩ ?_
              refine G.blkEnd ?_
              rw [signI_at, hsgd] at hk9
              have hk9 : Blk h9 nb 94 (ndC (signOf (sg.head?.getD 0)) 0 (.slice (some ⟨h8.size, 0, none⟩) 1 1)) := hk9
              exact ih2 (.mk (signOf (sg.head?.getD 0)) 0 [x], .slice (some ⟨h8.size, 0, none⟩) 1 1, m + 1) _ _ ⟨rfl, rfl, rfl, rfl, rfl, rfl, rfl, trivial⟩ ⟨hk9, (NdAt.of (signOf (sg.head?.getD 0)) 0 hsl).mv (Mv.ofExt hx9 fun b hb hn => ⟨fun (k : b = nb) => hn (.inr k), hn⟩), Ext0.only (e8.trans ep) hx9 (by omega), ⟨hlt, by show j < m + 1; omega⟩, hnext⟩ (by show s.length - (m + 1) < s.length - m; omega)
            · rintro _ _ ⟨rfl, rfl⟩
              refine ⟨fun _ => by first | exact Ext.push _ _ _ | assumption, ?_⟩
              refine RD.oneS 3 (listed' := #[true, true, true, true, true, true, false, false]) rfl (by kernel_rfl) rfl rfl rfl (OpX.call (vs := [_]) Tryd.func80 rfl H.nm80 rfl (CallsH.toX (signR_calls (atI s m)))) rfl ?_
              rintro _ _ ⟨rfl, rfl⟩
              refine ⟨fun _ => Ext.refl _ _, ?_⟩
              refine RD.takeS 6 (listed' := #[true, true, true, true, true, true, true, false]) rfl (by kernel_rfl) (by kernel_rfl) (by kernel_rfl) rfl rfl rfl (fun h' e => OpP.build (H.bd94_0_2 _ _ _ _) rfl) rfl ?_
              refine RD.one0 7 (listed' := #[true, true, true, true, true, true, true, true]) rfl (by kernel_rfl) rfl rfl (OpX.storeBlk H.sz94 rfl rfl (hk8.ext0 ep) rfl (by first | decide | exact of_decide_eq_true rfl | (simp; done) | (simp; omega)) (ndC_oneW (k := signI (atI s m)) (st := 0) (w := .slice (some ⟨h8.size, 0, none⟩) 1 1) rfl)) rfl ?_
              rintro _ h9 ⟨rfl, hk9, hx9, hz9⟩
              refine ⟨fun hk => (nomatch hk), ?_⟩
              refine RD.done (by kernel_rfl) ?_
              refine G.sub (ρ' := [(0, _), (1, _), (4, _), (6, _), (7, _), (9, _), (10, _), (49, _)]) ⟨rfl, rfl, rfl, rfl, rfl, rfl, rfl, rfl, trivial⟩ ?_
              refine G.reg Tryd.func61 rfl ?_
              refine RW.pureS rfl rfl rfl rfl (OpP.move rfl) ?_
              refine RW.pureS rfl rfl rfl rfl (OpP.add64 rfl rfl ⟨by omega, by omega⟩) ?_
              refine RW.pureS rfl rfl rfl rfl (OpP.assign rfl) ?_
              refine RW.done rfl ?_
              refine G.sub (ρ' := [(0, _), (1, _), (4, _), (6, _), (7, _), (9, _), (10, _), (49, _)]) ⟨rfl, rfl, rfl, rfl, rfl, rfl, rfl, rfl, trivial⟩ ?_
              refine G.blkEnd ?_
              rw [signI_at, hsgd] at hk9
              have hk9 : Blk h9 nb 94 (ndC (signOf (sg.head?.getD 0)) 0 (.slice (some ⟨h8.size, 0, none⟩) 1 1)) := hk9
              exact ih2 (.mk (signOf (sg.head?.getD 0)) 0 [x], .slice (some ⟨h8.size, 0, none⟩) 1 1, m + 1) _ _ ⟨rfl, rfl, rfl, rfl, rfl, rfl, rfl, trivial⟩ ⟨hk9, (NdAt.of (signOf (sg.head?.getD 0)) 0 hsl).mv (Mv.ofExt hx9 fun b hb hn => ⟨fun (k : b = nb) => hn (.inr k), hn⟩), Ext0.only (e8.trans ep) hx9 (by omega), ⟨hlt, by show j < m + 1; omega⟩, hnext⟩ (by show s.length - (m + 1) < s.length - m; omega)
          · rintro _ _ ⟨rfl, rfl⟩
            refine ⟨fun _ => by first | exact Ext.push _ _ _ | assumption, ?_⟩
            refine RD.oneS 2 (listed' := #[true, true, true, false, true, true, false, false]) rfl (by kernel_rfl) rfl rfl rfl (OpX.call (vs := [_, _]) Tryd.func77 rfl H.nm77 rfl (CallsH.toX (at_calls s m))) rfl ?_
            rintro _ _ ⟨rfl, rfl⟩
            refine ⟨fun _ => Ext.refl _ _, ?_⟩
            refine RD.oneS 3 (listed' := #[true, true, true, true, true, true, false, false]) rfl (by kernel_rfl) rfl rfl rfl (OpX.call (vs := [_]) Tryd.func80 rfl H.nm80 rfl (CallsH.toX (signR_calls (atI s m)))) rfl ?_
            rintro _ _ ⟨rfl, rfl⟩
            refine ⟨fun _ => Ext.refl _ _, ?_⟩
            refine RD.takeS 6 (listed' := #[true, true, true, true, true, true, true, false]) rfl (by kernel_rfl) (by kernel_rfl) (by kernel_rfl) rfl rfl rfl (fun h' e => OpP.build (H.bd94_0_2 _ _ _ _) rfl) rfl ?_
            refine RD.one0 7 (listed' := #[true, true, true, true, true, true, true, true]) rfl (by kernel_rfl) rfl rfl (OpX.storeBlk H.sz94 rfl rfl (hk8.ext0 ep) rfl (by first | decide | exact of_decide_eq_true rfl | (simp; done) | (simp; omega)) (ndC_oneW (k := signI (atI s m)) (st := 0) (w := .slice (some ⟨h8.size, 0, none⟩) 1 1) rfl)) rfl ?_
            rintro _ h9 ⟨rfl, hk9, hx9, hz9⟩
            refine ⟨fun hk => (nomatch hk), ?_⟩
            refine RD.done (by kernel_rfl) ?_
            refine G.sub (ρ' := [(0, _), (1, _), (4, _), (6, _), (7, _), (9, _), (10, _), (49, _)]) ⟨rfl, rfl, rfl, rfl, rfl, rfl, rfl, rfl, trivial⟩ ?_
            refine G.reg Tryd.func61 rfl ?_
            refine RW.pureS rfl rfl rfl rfl (OpP.move rfl) ?_
            refine RW.pureS rfl rfl rfl rfl (OpP.add64 rfl rfl ⟨by omega, by omega⟩) ?_
            refine RW.pureS rfl rfl rfl rfl (OpP.assign rfl) ?_
            refine RW.done rfl ?_
            refine G.sub (ρ' := [(0, _), (1, _), (4, _), (6, _), (7, _), (9, _), (10, _), (49, _)]) ⟨rfl, rfl, rfl, rfl, rfl, rfl, rfl, rfl, trivial⟩ ?_
            refine G.blkEnd ?_
            rw [signI_at, hsgd] at hk9
            have hk9 : Blk h9 nb 94 (ndC (signOf (sg.head?.getD 0)) 0 (.slice (some ⟨h8.size, 0, none⟩) 1 1)) := hk9
            exact ih2 (.mk (signOf (sg.head?.getD 0)) 0 [x], .slice (some ⟨h8.size, 0, none⟩) 1 1, m + 1) _ _ ⟨rfl, rfl, rfl, rfl, rfl, rfl, rfl, trivial⟩ ⟨hk9, (NdAt.of (signOf (sg.head?.getD 0)) 0 hsl).mv (Mv.ofExt hx9 fun b hb hn => ⟨fun (k : b = nb) => hn (.inr k), hn⟩), Ext0.only (e8.trans ep) hx9 (by omega), ⟨hlt, by show j < m + 1; omega⟩, hnext⟩ (by show s.length - (m + 1) < s.length - m; omega)
        · rw [signsP_stop (by omega)] at hsg
          subst hsg
          simp only at hcon
          have hr38 : ∀ (i : Nat) (cs : List Value) (x : Nd), cr[i]? = some cs → row[i]? = some x → eNd.R h8 (fun b => but vr.ownBlock b ∨ (b < h1.size ∨ but va.ownBlock b)) cs x := fun i cs x h1' h2' => NdAt.ext0 (hr3 i cs x h1' h2') e8
          have hnd8' : eNd.R h8 (fun b => but vr.ownBlock b ∨ (b < h1.size ∨ but va.ownBlock b)) (ndC x.kind x.set w) x := NdAt.weak hnd8 (fun b _ k => .inl (by
            rcases k with k | k | k
            · exact (hor b k.symm).2
            · omega
            · exact (hoa b k.symm).2))
          refine G.exit rfl rfl ?_
          refine G.seq rfl ?_
          refine G.reg Tryd.func61 rfl ?_
          refine RW.pureS rfl rfl rfl rfl (OpP.move rfl) ?_
          refine RW.pureS rfl rfl rfl rfl (OpP.loadRowN H.ag94 H.sz94 rfl hk8.row (by first | rfl | simp)) ?_
          refine RW.opS rfl rfl rfl rfl (OpX.buildRec (cs := [_, _, _, _, _, _]) Tryd.underlying92 H.el94 rfl rfl (by decide)) ?_
          rintro _ _ ⟨rfl, rfl⟩
          refine RW.opS rfl rfl rfl rfl (OpX.appendNew Tryd.underlying92 H.el94 rfl rfl ((hr2.ext0' e8)) rfl rfl (NdAt.one hnd8) (by omega) (by decide) (by omega)) ?_
          rintro v9 h9 ⟨ho9, hx9, -, hv9⟩
          refine RW.pureS rfl rfl rfl rfl (OpP.assign rfl) ?_
          refine RW.done rfl ?_
          refine G.sub (ρ' := [(0, _), (1, _), (4, _), (6, _), (7, _), (9, _), (10, _), (49, _)]) ⟨rfl, rfl, rfl, rfl, rfl, rfl, rfl, rfl, trivial⟩ ?_
          refine G.reg Tryd.func61 rfl ?_
          refine RW.pureS rfl rfl rfl rfl (OpP.move rfl) ?_
          refine RW.pureS rfl rfl rfl rfl (OpP.assign rfl) ?_
          refine RW.done rfl ?_
          refine G.sub (ρ' := [(0, _), (1, _), (4, _), (6, _), (7, _), (9, _), (10, _), (49, _)]) ⟨rfl, rfl, rfl, rfl, rfl, rfl, rfl, rfl, trivial⟩ ?_
          refine G.blkEnd ?_
          have hdis9 : ∀ b, va.ownBlock = some b → v9.ownBlock = some b → False := fun b hb hb9 => by
            rcases hv9 b hb9 with k | k
            · exact hdis b hb k
            · have := hoa b hb; omega
          have hva9 : OwX eNd (fun b => b < h1.size ∨ but v9.ownBlock b) h9 h1.size 94 va all := (hva.ext0 e8).mv2 hx9 (fun b hb k => hdis b hb k.symm) (fun b _ k => .inr k) (fun b hb k => by
            rcases k with k | k
            · exact .inl k
            · rcases hv9 b k.symm with k' | k'
              · exact .inr k'.symm
              · omega)
          have hr9 : ¬ but vr.ownBlock h.size := fun k => by have := hor _ k.symm; omega
          have e9 : Ext0 h h9 := ⟨by have := hx9.size; omega, fun b hb hn => by rw [hx9.block b (by omega) (fun k => by have := hor b k.symm; omega), e8.block b (by omega) (fun k => k)]; exact e5.block b hb hn⟩
          have hcon' : rowsG (rowsP d) ((s.drop m).length + 1) all (row ++ [x]) (s.drop m) = tgt := by
            rw [← hcon]
            exact rowsG_fuel hrl _ _ _ _ _ _ (Nat.le_refl _) (Nat.lt_succ_self _) (by simp only [List.length_drop]; omega)
          exact ih' (all, row ++ [x], va, v9, m) _ _ ⟨rfl, rfl, rfl, rfl, rfl, trivial⟩ ⟨hva9, OwX.pushed hr1 hr38 ho9 hx9 hv9 hnd8', hdis9, (hkr5.ext0 e8).ext hx9 hr9, e9, ⟨hm, by show i ≤ m; omega, by show all.length + (row ++ [x]).length ≤ m; rw [List.length_append, List.length_singleton]; omega⟩, hcon'⟩ (by show s.length - m < s.length - j; omega)

theorem rowsR_ok : ∀ d, RowsOkR d
  | 0 => fun _ _ _ _ h _ => absurd h (Nat.not_lt_zero _)
  | d + 1 => fun _ s i hi hd hs => rowsR_step (rowsR_ok d) s i hi (by omega) hs

theorem parseR_calls {h : Heap} (s : By) (hs : s.length ≤ 1000000) : CallsH Tryd.prog 42 #[.string (bs s)] h (Ret fun r h' => ParseV h h' s r ∧ Ext0 h h') := by
  have hsz := bs_size s
  refine CallsH.of Tryd.func42 rfl rfl ?_
  refine G.seq rfl ?_
  refine G.reg Tryd.func42 rfl ?_
  refine RW.opS rfl rfl rfl rfl (OpX.allocN H.zr94) ?_
  rintro _ h1 ⟨rfl, hk1, he1, hz1⟩
  refine RW.pureS rfl rfl rfl rfl (OpP.assign rfl) ?_
  refine RW.done rfl ?_
  refine G.sub (ρ' := [(0, _), (2, _), (3, _)]) ⟨rfl, rfl, rfl, trivial⟩ ?_
  refine G.seq rfl ?_
  refine G.seq rfl ?_
  refine G.reg Tryd.func42 rfl ?_
  refine RW.pureS rfl rfl rfl rfl (OpP.move rfl) ?_
  refine RW.pureS rfl rfl rfl rfl (OpP.lenString Tryd.underlying9 rfl) ?_
  refine RW.pureS rfl rfl rfl rfl (OpP.gtr rfl rfl) ?_
  refine RW.done rfl ?_
  refine G.sub (ρ' := [(0, _), (2, _), (3, _), (8, _)]) ⟨rfl, rfl, rfl, rfl, trivial⟩ ?_
  have hk1 : Blk h1 h.size 94 zeroN := hk1
  refine G.ite rfl rfl (fun hbig => ?_) (fun hbig => ?_)
  · have hE : parseE s = (emptyNd, 3) := by unfold parseE; rw [if_pos (by omega)]
    refine G.seq rfl ?_
    refine G.reg Tryd.func42 rfl ?_
    refine RW.pureS rfl rfl rfl rfl (OpP.build (H.bd94_ ) rfl) ?_
    refine RW.op0 rfl rfl rfl (OpX.storeBlk H.sz94 rfl rfl hk1 rfl (by first | decide | exact of_decide_eq_true rfl | (simp; done) | (simp; omega)) (by first | decide | simp [Value.oneCell'])) ?_
    rintro _ h3 ⟨rfl, hk3, hx3, hz3⟩
    refine RW.pureS rfl rfl rfl rfl (OpP.assign rfl) ?_
    refine RW.done rfl ?_
    refine G.sub (ρ' := [(0, _), (2, _), (3, _), (8, _)]) ⟨rfl, rfl, rfl, rfl, trivial⟩ ?_
    have hk3 : Blk h3 h.size 94 zeroN := hk3
    refine G.retC Tryd.func42 rfl (.cons (ResOk.rowN H.ag94 H.sz94 rfl (hk3.row) (by first | rfl | simp)) (.cons (ResOk.tmp rfl) (.nil))) ?_
    refine ⟨_, rfl, ⟨.slice none 0 0, by rw [hE]; rfl, by rw [hE]; exact NdAt.leaf _ _ 0 0⟩, Ext0.only he1 hx3 (Nat.le_refl _)⟩
  · have hE : parseE s = match parseP s with | some x => (x, 0) | none => (emptyNd, 10) := by unfold parseE; rw [if_neg (by omega)]; rfl
    refine G.skip rfl ?_
    refine G.seq rfl ?_
    refine G.reg Tryd.func42 rfl ?_
    refine RW.pureS rfl rfl rfl rfl (OpP.move rfl) ?_
    refine RW.opS rfl rfl rfl rfl (OpX.call (vs := [_, _]) Tryd.func61 rfl H.nm61 rfl (CallsH.toX (rowsR_ok (s.length + 1) h1 s 0 (Nat.zero_le _) (by simp) hs))) ?_
    rintro _ h2 ⟨hv, he2⟩
    have hz2 := he2.size
    have hk12 := hk1.ext0 he2
    rw [List.drop_zero] at hv
    rcases hp : rowsP (s.length + 1) s with _ | ⟨x, t⟩ <;> rw [hp] at hv
    · obtain ⟨k, st, w, hw, rfl⟩ := hv
      have hpn : parseP s = none := by unfold parseP; rw [hp]
      refine RW.pureS rfl rfl rfl rfl (OpP.move rfl) ?_
      refine RW.pureS rfl rfl rfl rfl (OpP.extract rfl rfl) ?_
      refine RW.pureS rfl rfl rfl rfl (OpP.extract rfl rfl) ?_
      refine RW.opS rfl rfl rfl rfl (OpX.allocN H.zr94) ?_
      rintro _ h3 ⟨rfl, hk3, he3, hz3⟩
      refine RW.op0 rfl rfl rfl (OpX.storeBlk H.sz94 rfl rfl hk3 rfl (by first | decide | exact of_decide_eq_true rfl | (simp; done) | (simp; omega)) (ndC_oneW hw)) ?_
      rintro _ h4 ⟨rfl, hk4, hx4, hz4⟩
      refine RW.pureS rfl rfl rfl rfl (OpP.assign rfl) ?_
      refine RW.done rfl ?_
      refine G.sub (ρ' := [(0, _), (2, _), (3, _), (4, _), (5, _), (8, _)]) ⟨rfl, rfl, rfl, rfl, rfl, rfl, trivial⟩ ?_
      refine G.seq rfl ?_
      refine G.seq rfl ?_
      refine G.reg Tryd.func42 rfl ?_
      refine RW.pureS rfl rfl rfl rfl (OpP.move rfl) ?_
      refine RW.pureS rfl rfl rfl rfl (OpP.move rfl) ?_
      refine RW.pureS rfl rfl rfl rfl (OpP.lenString Tryd.underlying9 rfl) ?_
      refine RW.pureS rfl rfl rfl rfl (OpP.neqInt rfl rfl) ?_
      refine RW.done rfl ?_
      refine G.sub (ρ' := [(0, _), (2, _), (3, _), (4, _), (5, _), (8, _), (18, _)]) ⟨rfl, rfl, rfl, rfl, rfl, rfl, rfl, trivial⟩ ?_
      refine G.cond rfl rfl (fun _ => ?_) (fun hc => absurd hc (by simp))
      refine G.seq rfl ?_
      refine G.reg Tryd.func42 rfl ?_
      refine RW.pureS rfl rfl rfl rfl (OpP.build (H.bd94_ ) rfl) ?_
      refine RW.op0 rfl rfl rfl (OpX.storeBlk H.sz94 rfl rfl ((hk12.ext0 he3).ext hx4 (by show ¬ _ = _; omega)) rfl (by first | decide | exact of_decide_eq_true rfl | (simp; done) | (simp; omega)) (by first | decide | simp [Value.oneCell'])) ?_
      rintro _ h5 ⟨rfl, hk5, hx5, hz5⟩
      refine RW.pureS rfl rfl rfl rfl (OpP.assign rfl) ?_
      refine RW.done rfl ?_
      refine G.sub (ρ' := [(0, _), (2, _), (3, _), (4, _), (5, _), (8, _), (18, _)]) ⟨rfl, rfl, rfl, rfl, rfl, rfl, rfl, trivial⟩ ?_
      have hk5 : Blk h5 h.size 94 zeroN := hk5
      refine G.retC Tryd.func42 rfl (.cons (ResOk.rowN H.ag94 H.sz94 rfl (hk5.row) (by first | rfl | simp)) (.cons (ResOk.tmp rfl) (.nil))) ?_
      exact ⟨_, rfl, ⟨.slice none 0 0, by rw [hE, hpn] <;> rfl, by rw [hE, hpn]; exact NdAt.leaf _ _ 0 0⟩, Ext0.only (Ext0.only ((he1.trans he2).trans he3) hx4 (by omega)) hx5 (Nat.le_refl _)⟩
    · obtain ⟨w, k, hk, rfl, rfl, hnd⟩ := hv
      refine RW.pureS rfl rfl rfl rfl (OpP.move rfl) ?_
      refine RW.pureS rfl rfl rfl rfl (OpP.extract rfl rfl) ?_
      refine RW.pureS rfl rfl rfl rfl (OpP.extract rfl rfl) ?_
      refine RW.opS rfl rfl rfl rfl (OpX.allocN H.zr94) ?_
      rintro _ h3 ⟨rfl, hk3, he3, hz3⟩
      refine RW.op0 rfl rfl rfl (OpX.storeBlk H.sz94 rfl rfl hk3 rfl (by first | decide | exact of_decide_eq_true rfl | (simp; done) | (simp; omega)) (NdAt.one hnd)) ?_
      rintro _ h4 ⟨rfl, hk4, hx4, hz4⟩
      refine RW.pureS rfl rfl rfl rfl (OpP.assign rfl) ?_
      refine RW.done rfl ?_
      refine G.sub (ρ' := [(0, _), (2, _), (3, _), (4, _), (5, _), (8, _)]) ⟨rfl, rfl, rfl, rfl, rfl, rfl, trivial⟩ ?_
      refine G.seq rfl ?_
      refine G.seq rfl ?_
      refine G.reg Tryd.func42 rfl ?_
      refine RW.pureS rfl rfl rfl rfl (OpP.move rfl) ?_
      refine RW.pureS rfl rfl rfl rfl (OpP.move rfl) ?_
      refine RW.pureS rfl rfl rfl rfl (OpP.lenString Tryd.underlying9 rfl) ?_
      refine RW.pureS rfl rfl rfl rfl (OpP.neqInt rfl rfl) ?_
      refine RW.done rfl ?_
      refine G.sub (ρ' := [(0, _), (2, _), (3, _), (4, _), (5, _), (8, _), (18, _)]) ⟨rfl, rfl, rfl, rfl, rfl, rfl, rfl, trivial⟩ ?_
      have hk4 : Blk h4 h2.size 94 (ndC x.kind x.set w) := hk4
      have hnd4 : NdAt h4 (blw h1.size) (ndC x.kind x.set w) x := hnd.ext0 (Ext0.only he3 hx4 (Nat.le_refl _))
      have hk14 := (hk12.ext0 he3).ext hx4 (by show ¬ _ = _; omega)
      have e4 := Ext0.only ((he1.trans he2).trans he3) hx4 (by omega)
      refine G.ite rfl rfl (fun hr => ?_) (fun hr => ?_)
      · have hpn : parseP s = none := by
          unfold parseP; rw [hp]
          cases hdr : s.drop k with
          | nil => have := congrArg List.length hdr; simp at this; omega
          | cons c t => rfl
        refine G.seq rfl ?_
        refine G.reg Tryd.func42 rfl ?_
        refine RW.pureS rfl rfl rfl rfl (OpP.build (H.bd94_ ) rfl) ?_
        refine RW.op0 rfl rfl rfl (OpX.storeBlk H.sz94 rfl rfl hk14 rfl (by first | decide | exact of_decide_eq_true rfl | (simp; done) | (simp; omega)) (by first | decide | simp [Value.oneCell'])) ?_
        rintro _ h5 ⟨rfl, hk5, hx5, hz5⟩
        refine RW.pureS rfl rfl rfl rfl (OpP.assign rfl) ?_
        refine RW.done rfl ?_
        refine G.sub (ρ' := [(0, _), (2, _), (3, _), (4, _), (5, _), (8, _), (18, _)]) ⟨rfl, rfl, rfl, rfl, rfl, rfl, rfl, trivial⟩ ?_
        have hk5 : Blk h5 h.size 94 zeroN := hk5
        refine G.retC Tryd.func42 rfl (.cons (ResOk.rowN H.ag94 H.sz94 rfl (hk5.row) (by first | rfl | simp)) (.cons (ResOk.tmp rfl) (.nil))) ?_
        exact ⟨_, rfl, ⟨.slice none 0 0, by rw [hE, hpn] <;> rfl, by rw [hE, hpn]; exact NdAt.leaf _ _ 0 0⟩, Ext0.only e4 hx5 (Nat.le_refl _)⟩
      · obtain rfl : k = s.length := by omega
        have hpn : parseP s = some x := by unfold parseP; rw [hp, List.drop_length]
        refine G.skip rfl ?_
        refine G.seq rfl ?_
        refine G.reg Tryd.func42 rfl ?_
        refine RW.pureS rfl rfl rfl rfl (OpP.loadRowN H.ag94 H.sz94 rfl hk4.row (by first | rfl | simp)) ?_
        refine RW.op0 rfl rfl rfl (OpX.storeBlk H.sz94 rfl rfl hk14 rfl (by first | decide | exact of_decide_eq_true rfl | (simp; done) | (simp; omega)) (NdAt.one hnd4)) ?_
        rintro _ h5 ⟨rfl, hk5, hx5, hz5⟩
        refine RW.pureS rfl rfl rfl rfl (OpP.assign rfl) ?_
        refine RW.done rfl ?_
        refine G.sub (ρ' := [(0, _), (2, _), (3, _), (4, _), (5, _), (8, _), (18, _)]) ⟨rfl, rfl, rfl, rfl, rfl, rfl, rfl, trivial⟩ ?_
        have hk5 : Blk h5 h.size 94 (ndC x.kind x.set w) := hk5
        refine G.retC Tryd.func42 rfl (.cons (ResOk.rowN H.ag94 H.sz94 rfl (hk5.row) (by first | rfl | simp)) (.cons (ResOk.tmp rfl) (.nil))) ?_
        exact ⟨_, rfl, ⟨w, by rw [hE, hpn] <;> rfl, by rw [hE, hpn]; exact NdAt.low hnd4 (by omega) hx5 (fun b _ (hb : b = h.size) => by omega)⟩, Ext0.only e4 hx5 (Nat.le_refl _)⟩

end Go.Proofs.YtlegopbpofofgaaDoor

/- States of rules, in plain words; how large a tree is, and of what shape. -/
namespace Go.Proofs.YtlegopbpofofgaaDoor

/-- A state: kind (0: leads on, 1: eats, 2: a rule's end), set, where it leads, rule. -/
structure Ste where
  kind : Nat
  set : Nat
  to : List Nat
  rule : Nat

mutual
/-- The states of a tree that lead on to one, behind those that are there; where it begins. -/
def lay : Nd → List Ste → Nat → List Ste × Nat
  | .mk k s kids, ss, to =>
    if k = 1 then (ss ++ [⟨1, s, [to], 0⟩], ss.length)
    else if k = 2 then layCat kids ss to
    else if k = 3 then ((layAlt kids ss to).1 ++ [⟨0, 0, (layAlt kids ss to).2, 0⟩], (layAlt kids ss to).1.length)
    else if k = 6 then ((layOne kids ss to).1 ++ [⟨0, 0, [(layOne kids ss to).2, to], 0⟩], (layOne kids ss to).1.length)
    else if k = 4 ∨ k = 5 then
      ((layOne kids (ss ++ [⟨0, 0, [], 0⟩]) ss.length).1.set ss.length ⟨0, 0, [(layOne kids (ss ++ [⟨0, 0, [], 0⟩]) ss.length).2, to], 0⟩,
        if k = 5 then (layOne kids (ss ++ [⟨0, 0, [], 0⟩]) ss.length).2 else ss.length)
    else (ss, to)
def layCat : List Nd → List Ste → Nat → List Ste × Nat
  | [], ss, to => (ss, to)
  | x :: r, ss, to => lay x (layCat r ss to).1 (layCat r ss to).2
def layAlt : List Nd → List Ste → Nat → List Ste × List Nat
  | [], ss, _ => (ss, [])
  | x :: r, ss, to => ((layAlt r (lay x ss to).1 to).1, (lay x ss to).2 :: (layAlt r (lay x ss to).1 to).2)
def layOne : List Nd → List Ste → Nat → List Ste × Nat
  | [], ss, to => (ss, to)
  | x :: _, ss, to => lay x ss to
end

mutual
/-- How many parts a tree has. -/
def szN : Nd → Nat
  | .mk _ _ kids => szL kids + 1
def szL : List Nd → Nat
  | [] => 0
  | x :: r => szN x + szL r
end

mutual
/-- Stars, pluses and maybes have one kid. -/
def wfN : Nd → Bool
  | .mk k _ kids => (!(k == 4 || k == 5 || k == 6) || kids.length == 1) && wfL kids
def wfL : List Nd → Bool
  | [] => true
  | x :: r => wfN x && wfL r
end

theorem szN_pos (x : Nd) : 0 < szN x := by cases x; simp [szN]
theorem szL_append : ∀ (l m : List Nd), szL (l ++ m) = szL l + szL m
  | [], m => by simp [szL]
  | x :: l, m => by simp only [List.cons_append, szL]; rw [szL_append l m]; omega
theorem wfL_append : ∀ (l m : List Nd), wfL (l ++ m) = (wfL l && wfL m)
  | [], m => by simp [wfL]
  | x :: l, m => by simp only [List.cons_append, wfL]; rw [wfL_append l m, Bool.and_assoc]
theorem szL_mem : ∀ {l : List Nd} {i : Nat} {x : Nd}, l[i]? = some x → szN x ≤ szL l
  | [], i, x, h => by simp at h
  | y :: l, 0, x, h => by simp at h; subst h; simp [szL]
  | y :: l, i + 1, x, h => by have := szL_mem (l := l) (i := i) (by simpa using h); simp only [szL]; omega
theorem wfL_mem : ∀ {l : List Nd} {i : Nat} {x : Nd}, wfL l = true → l[i]? = some x → wfN x = true
  | [], i, x, _, h => by simp at h
  | y :: l, 0, x, hw, h => by simp at h; subst h; simp only [wfL, Bool.and_eq_true] at hw; exact hw.1
  | y :: l, i + 1, x, hw, h => by simp only [wfL, Bool.and_eq_true] at hw; exact wfL_mem hw.2 (by simpa using h)

mutual
theorem lay_len : ∀ (x : Nd) (ss : List Ste) (to : Nat), ss.length ≤ (lay x ss to).1.length ∧ (lay x ss to).1.length ≤ ss.length + szN x
  | .mk k s kids, ss, to => by
    rw [lay]
    simp only [szN]
    split
    · simp
    · split
      · have := layCat_len kids ss to; omega
      · split
        · have := layAlt_len kids ss to; simp only [List.length_append, List.length_singleton]; omega
        · split
          · have := layOne_len kids ss to; simp only [List.length_append, List.length_singleton]; omega
          · split
            · have := layOne_len kids (ss ++ [⟨0, 0, [], 0⟩]) ss.length
              simp only [List.length_append, List.length_singleton] at this
              simp only [List.length_set]; omega
            · simp
theorem layCat_len : ∀ (l : List Nd) (ss : List Ste) (to : Nat), ss.length ≤ (layCat l ss to).1.length ∧ (layCat l ss to).1.length ≤ ss.length + szL l
  | [], ss, to => by simp [layCat, szL]
  | x :: r, ss, to => by
    rw [layCat]
    have h1 := layCat_len r ss to
    have h2 := lay_len x (layCat r ss to).1 (layCat r ss to).2
    simp only [szL]; omega
theorem layAlt_len : ∀ (l : List Nd) (ss : List Ste) (to : Nat), ss.length ≤ (layAlt l ss to).1.length ∧ (layAlt l ss to).1.length ≤ ss.length + szL l
  | [], ss, to => by simp [layAlt, szL]
  | x :: r, ss, to => by
    rw [layAlt]
    have h1 := lay_len x ss to
    have h2 := layAlt_len r (lay x ss to).1 to
    simp only [szL]; omega
theorem layOne_len : ∀ (l : List Nd) (ss : List Ste) (to : Nat), ss.length ≤ (layOne l ss to).1.length ∧ (layOne l ss to).1.length ≤ ss.length + szL l
  | [], ss, to => by simp [layOne, szL]
  | x :: r, ss, to => by
    rw [layOne]
    have h1 := lay_len x ss to
    simp only [szL]; omega
end

/-! ### What is parsed is small, and well shaped -/

def Small (s : By) (p : Option (Nd × By)) : Prop := ∀ x r, p = some (x, r) → szN x + 2 * r.length ≤ 2 * s.length + 1 ∧ wfN x = true

theorem sz_join (k : Nat) (l : List Nd) : szN (joinNd k l) ≤ szL l + 1 := by
  unfold joinNd
  split
  · simp [emptyNd, szN, szL]
  · simp [szL]
  · simp [szN]
theorem wf_join {k : Nat} {l : List Nd} (hk : k = 2 ∨ k = 3) (h : wfL l = true) : wfN (joinNd k l) = true := by
  unfold joinNd
  split
  · rfl
  · simp only [wfL, Bool.and_eq_true] at h; exact h.1
  · simp only [wfN, h, Bool.and_true]; rcases hk with rfl | rfl <;> rfl

theorem signs_small : ∀ (s : By) (n : Nd), wfN n = true → szN (signsP n s).1 + 2 * (signsP n s).2.length ≤ szN n + 2 * s.length ∧ wfN (signsP n s).1 = true
  | [], n, hw => by simp [signsP, hw]
  | c :: r, n, hw => by
    rw [signsP]
    split
    · simp [hw]
    · rename_i hs
      have hw' : wfN (.mk (signOf c) 0 [n]) = true := by simp [wfN, wfL, hw]
      have h := signs_small r (.mk (signOf c) 0 [n]) hw'
      refine ⟨?_, h.2⟩
      have h1 := h.1
      simp only [szN, szL, List.length_cons] at h1 ⊢; omega

theorem piece_small {rows : By → Option (Nd × By)} (hr : ∀ s, Small s (rows s)) {s : By} {x : Nd} {r : By} (h : pieceP rows s = some (x, r)) : szN x + 2 * r.length + 1 ≤ 2 * s.length ∧ wfN x = true := by
  have leaf : ∀ k st, (k = 0 ∨ k = 1) → wfN (.mk k st []) = true := fun k st hk => by rcases hk with rfl | rfl <;> rfl
  have key : ∀ y t, atomP rows s = some (y, t) → szN y + 2 * t.length + 1 ≤ 2 * s.length ∧ wfN y = true := by
    intro y t ha
    have hlen : ∀ (k st : Nat), y = .mk k st [] → t.length < s.length → szN y + 2 * t.length + 1 ≤ 2 * s.length := fun k st hy ht => by subst hy; simp only [szN, szL]; omega
    unfold atomP at ha
    split at ha
    · cases ha
    · rename_i c u
      split at ha
      · split at ha
        · cases ha
        · rename_i n t' ht
          split at ha
          · rename_i t'' _
            cases ha
            have := hr _ _ _ ht
            simp only [List.length_cons] at this ⊢
            exact ⟨by omega, this.2⟩
          · cases ha
      · split at ha
        · have hb := bracketP_len ha
          have hy : ∃ st, y = .mk 1 st [] := by
            unfold bracketP at ha
            split at ha <;> (simp only [Option.map_eq_some_iff] at ha; obtain ⟨⟨m, r'⟩, _, h2⟩ := ha; cases h2; exact ⟨_, rfl⟩)
          obtain ⟨st, rfl⟩ := hy
          exact ⟨hlen _ _ rfl (by simp only [List.length_cons]; omega), leaf _ _ (.inr rfl)⟩
        · split at ha
          · cases ha; exact ⟨hlen _ _ rfl (by simp), leaf _ _ (.inr rfl)⟩
          · split at ha
            · simp only [Option.map_eq_some_iff] at ha
              obtain ⟨⟨b, r'⟩, h1, h2⟩ := ha
              have := escP_len h1
              cases h2
              exact ⟨hlen _ _ rfl (by simp only [List.length_cons]; omega), leaf _ _ (.inr rfl)⟩
            · split at ha
              · cases ha
              · cases ha; exact ⟨hlen _ _ rfl (by simp), leaf _ _ (.inr rfl)⟩
  unfold pieceP at h
  simp only [Option.map_eq_some_iff] at h
  obtain ⟨⟨n, t⟩, h1, h2⟩ := h
  have h3 := key n t h1
  have h4 := signs_small t n h3.2
  rw [h2] at h4
  simp only at h4
  exact ⟨by omega, h4.2⟩

theorem rowsG_small {rows : By → Option (Nd × By)} (hr : ∀ s, Small s (rows s)) : ∀ (n : Nat) (all row : List Nd) (s : By) (x : Nd) (r : By), wfL all = true → wfL row = true → rowsG rows n all row s = some (x, r) →
    szN x + 2 * r.length ≤ 2 * s.length + 1 + szL all + szL row + (if all = [] then 0 else 1) ∧ wfN x = true
  | 0, _, _, _, _, _, _, _, h => by cases h
  | n + 1, all, row, s, x, r, hwa, hwr, h => by
    rw [rowsG] at h
    split at h
    · split at h
      · rename_i hbar
        have hs : s.tail.length + 1 = s.length := by cases s with | nil => cases hbar | cons a b => simp
        have hw' : wfL (all ++ [joinNd 2 row]) = true := by rw [wfL_append, hwa]; simp [wfL, wf_join (.inl rfl) hwr]
        have ih := rowsG_small hr n _ _ _ _ _ hw' (by rfl) h
        have hj := sz_join 2 row
        have ha : szL (all ++ [joinNd 2 row]) = szL all + szN (joinNd 2 row) := by rw [szL_append]; simp [szL]
        rw [ha] at ih
        refine ⟨?_, ih.2⟩
        have h1 := ih.1
        rw [if_neg (by simp)] at h1
        simp only [szL] at h1
        omega
      · cases h
        have hj := sz_join 2 row
        have hj3 := sz_join 3 (all ++ [joinNd 2 row])
        have ha : szL (all ++ [joinNd 2 row]) = szL all + szN (joinNd 2 row) := by rw [szL_append]; simp [szL]
        refine ⟨?_, wf_join (.inr rfl) (by rw [wfL_append, hwa]; simp [wfL, wf_join (.inl rfl) hwr])⟩
        split
        · rename_i he
          subst he
          have : joinNd 3 ([] ++ [joinNd 2 row]) = joinNd 2 row := rfl
          rw [this]
          simp only [szL] at *; omega
        · rw [ha] at hj3; omega
    · split at h
      · cases h
      · rename_i y t ht
        have h1 := piece_small hr ht
        have ih := rowsG_small hr n all (row ++ [y]) t x r hwa (by rw [wfL_append, hwr]; simp [wfL, h1.2]) h
        have ha : szL (row ++ [y]) = szL row + szN y := by rw [szL_append]; simp [szL]
        rw [ha] at ih
        exact ⟨by have := ih.1; omega, ih.2⟩

theorem rowsP_small : ∀ (d : Nat) (s : By), Small s (rowsP d s)
  | 0, s => fun x r h => by cases h
  | d + 1, s => fun x r h => by
    have := rowsG_small (fun s => rowsP_small d s) _ _ _ _ _ _ rfl rfl h
    simpa [szL] using this

theorem parseP_small {s : By} {x : Nd} (h : parseP s = some x) : szN x ≤ 2 * s.length + 1 ∧ wfN x = true := by
  unfold parseP at h
  split at h
  · rename_i n hn
    cases h
    have := rowsP_small _ _ _ _ hn
    simpa using this
  · cases h

theorem layCat_drop {l : List Nd} {i : Nat} {x : Nd} (hx : l[i]? = some x) (ss : List Ste) (to : Nat) : layCat (l.drop i) ss to = lay x (layCat (l.drop (i + 1)) ss to).1 (layCat (l.drop (i + 1)) ss to).2 := by
  obtain ⟨hi, rfl⟩ := List.getElem?_eq_some_iff.1 hx
  rw [List.drop_eq_getElem_cons hi, layCat]
theorem layAlt_len2 : ∀ (l : List Nd) (ss : List Ste) (to : Nat), (layAlt l ss to).2.length = l.length
  | [], ss, to => by simp [layAlt]
  | x :: r, ss, to => by rw [layAlt]; simp [layAlt_len2 r]
mutual
theorem lay_pre : ∀ (x : Nd) (ss : List Ste) (to i : Nat), i < ss.length → (lay x ss to).1[i]? = ss[i]?
  | .mk k s kids, ss, to, i, hi => by
    rw [lay]
    split
    · simp [List.getElem?_append_left hi]
    · split
      · exact layCat_pre kids ss to i hi
      · split
        · have := layAlt_len kids ss to
          simp only
          rw [List.getElem?_append_left (by omega)]; exact layAlt_pre kids ss to i hi
        · split
          · have := layOne_len kids ss to
            simp only
            rw [List.getElem?_append_left (by omega)]; exact layOne_pre kids ss to i hi
          · split
            · simp only
              rw [List.getElem?_set_ne (by omega), layOne_pre kids (ss ++ [(⟨0, 0, [], 0⟩ : Ste)]) ss.length i (by simp; omega), List.getElem?_append_left hi]
            · rfl
theorem layCat_pre : ∀ (l : List Nd) (ss : List Ste) (to i : Nat), i < ss.length → (layCat l ss to).1[i]? = ss[i]?
  | [], ss, to, i, hi => by simp [layCat]
  | x :: r, ss, to, i, hi => by
    rw [layCat]
    have h1 := layCat_len r ss to
    rw [lay_pre x _ _ i (by omega), layCat_pre r ss to i hi]
theorem layAlt_pre : ∀ (l : List Nd) (ss : List Ste) (to i : Nat), i < ss.length → (layAlt l ss to).1[i]? = ss[i]?
  | [], ss, to, i, hi => by simp [layAlt]
  | x :: r, ss, to, i, hi => by
    rw [layAlt]
    have h1 := lay_len x ss to
    simp only
    rw [layAlt_pre r _ _ i (by omega), lay_pre x ss to i hi]
theorem layOne_pre : ∀ (l : List Nd) (ss : List Ste) (to i : Nat), i < ss.length → (layOne l ss to).1[i]? = ss[i]?
  | [], ss, to, i, hi => by simp [layOne]
  | x :: r, ss, to, i, hi => by
    rw [layOne]
    exact lay_pre x ss to i hi
end
theorem szL_take {l : List Nd} {i : Nat} {x : Nd} (hx : l[i]? = some x) : szL (l.take i) + szN x ≤ szL l := by
  obtain ⟨hi, rfl⟩ := List.getElem?_eq_some_iff.1 hx
  have h : szL (l.take i ++ l.drop i) = szL l := by rw [List.take_append_drop]
  rw [szL_append, List.drop_eq_getElem_cons hi, szL] at h
  omega
theorem szL_drop {l : List Nd} {i : Nat} {x : Nd} (hx : l[i]? = some x) : szL (l.drop (i + 1)) + szN x ≤ szL l := by
  obtain ⟨hi, rfl⟩ := List.getElem?_eq_some_iff.1 hx
  have h : szL (l.take i ++ l.drop i) = szL l := by rw [List.take_append_drop]
  rw [szL_append, List.drop_eq_getElem_cons hi, szL] at h
  omega
theorem szL_len : ∀ l : List Nd, l.length ≤ szL l
  | [] => by simp [szL]
  | x :: l => by have := szL_len l; have := szN_pos x; simp only [List.length_cons, szL]; omega

/-! ### Closures, steps, matches -/

/-- How much is still to do, at most. -/
def pot : List Ste → List Bool → Nat
  | x :: r, b :: s => (if b then 0 else x.to.length + 1) + pot r s
  | _, _ => 0
def closG (ss : List Ste) : Nat → List Nat → List Bool → List Bool
  | 0, _, seen => seen
  | n + 1, todo, seen =>
    match todo.getLast? with
    | none => seen
    | some i =>
      if seen[i]? = some true then closG ss n todo.dropLast seen
      else closG ss n (match ss[i]? with | some x => if x.kind = 0 then todo.dropLast ++ x.to else todo.dropLast | none => todo.dropLast) (seen.set i true)
def closed (ss : List Ste) (todo : List Nat) : List Nat :=
  if todo.length = 0 then []
  else ((List.range ss.length).filter fun i => (closG ss (todo.length + pot ss (List.replicate ss.length false)) todo (List.replicate ss.length false))[i]? == some true && (ss[i]?.map (·.kind)) != some 0)

theorem pot_set : ∀ (ss : List Ste) (seen : List Bool) (i : Nat) (x : Ste), ss[i]? = some x → seen[i]? = some false → pot ss (seen.set i true) + (x.to.length + 1) = pot ss seen
  | [], _, _, _, h, _ => by simp at h
  | _ :: _, [], _, _, _, h => by simp at h
  | y :: r, b :: s, 0, x, h1, h2 => by
    simp at h1 h2; subst h1 h2
    simp [pot]; omega
  | y :: r, b :: s, i + 1, x, h1, h2 => by
    have := pot_set r s i x (by simpa using h1) (by simpa using h2)
    simp only [List.set_cons_succ, pot]; omega

/-- All lead to states that are there. -/
def Good (ss : List Ste) : Prop := ∀ x ∈ ss, ∀ j ∈ x.to, j < ss.length

def startP (ss : List Ste) (st : Nat) : List Nat := if ss.length = 0 then [] else closed ss [st]

def accOk (x : Ste) (b : Int) : Bool := decide (x.kind = 2 ∧ (b < 0 ∨ (x.rule : Int) < b))
def accG (ss : List Ste) : List Nat → Int → Int
  | [], b => b
  | j :: r, b => accG ss r (match ss[j]? with | some x => if accOk x b then x.rule else b | none => b)
def acceptsP (ss : List Ste) (now : List Nat) : Int := if ss.length = 0 then -1 else accG ss now (-1)

def stepOk (x : Ste) (c : UInt8) : Bool := decide (x.kind = 1) && x.set.testBit c.toNat
def stepG (ss : List Ste) (c : UInt8) : List Nat → List Nat → List Nat
  | [], a => a
  | j :: r, a => stepG ss c r (match ss[j]? with | some x => if stepOk x c then a ++ x.to else a | none => a)
def stepP (ss : List Ste) (c : UInt8) (now : List Nat) : List Nat := if ss.length = 0 then [] else closed ss (stepG ss c now [])

theorem stepG_len (ss : List Ste) (c : UInt8) : ∀ (l a : List Nat), a.length ≤ (stepG ss c l a).length
  | [], a => Nat.le_refl _
  | j :: r, a => by
    rw [stepG]
    refine Nat.le_trans ?_ (stepG_len ss c r _)
    split
    · split <;> simp
    · exact Nat.le_refl _

/-- Where the states are at a place, what is left of the text, how far it has come, the best so far. -/
def matchG (ss : List Ste) : List UInt8 → List Nat → Nat → Int × Int → Int × Int
  | l, now, k, b =>
    if now.length = 0 then b
    else match l with
      | [] => if 0 ≤ acceptsP ss now then ((k : Int), acceptsP ss now) else b
      | c :: r => matchG ss r (stepP ss c now) (k + 1) (if 0 ≤ acceptsP ss now then ((k : Int), acceptsP ss now) else b)
def matchP (ss : List Ste) (st : Nat) (l : List UInt8) : Int × Int := if ss.length = 0 then (0, -1) else matchG ss l (startP ss st) 0 (0, -1)

theorem matchG_nil {ss : List Ste} {l : List UInt8} {now : List Nat} {k : Nat} {b : Int × Int} (h : now.length = 0) : matchG ss l now k b = b := by cases l <;> (rw [matchG]; exact if_pos h)
theorem startP_sub (ss : List Ste) (st : Nat) : (startP ss st).Sublist (List.range ss.length) := by
  unfold startP closed
  split
  · exact List.nil_sublist _
  · split
    · exact List.nil_sublist _
    · exact List.filter_sublist
theorem stepP_sub (ss : List Ste) (c : UInt8) (now : List Nat) : (stepP ss c now).Sublist (List.range ss.length) := by
  unfold stepP closed
  split
  · exact List.nil_sublist _
  · split
    · exact List.nil_sublist _
    · exact List.filter_sublist

/-! ### Make -/

/-- The rules, one by one: the first error, or states and starts. -/
def makeG : Nat → List By → List Ste → List Nat → Int ⊕ (List Ste × List Nat)
  | _, [], ss, t => .inr (ss, t)
  | i, s :: r, ss, t => if (parseE s).2 ≠ 0 then .inl (parseE s).2 else makeG (i + 1) r (lay (parseE s).1 (ss ++ [⟨2, 0, [], i⟩]) ss.length).1 (t ++ [(lay (parseE s).1 (ss ++ [⟨2, 0, [], i⟩]) ss.length).2])

def totL (l : List By) : Nat := (l.map List.length).sum

def makeP (rules : List By) : Int ⊕ (List Ste × Nat) :=
  if rules.length = 0 ∨ 64 < rules.length then .inl 2
  else match makeG 0 rules [] [] with
    | .inl e => .inl e
    | .inr (ss, t) => if 2000 < totL rules then .inl 70 else .inr (ss ++ [⟨0, 0, t, 0⟩], ss.length)

theorem parseE_small {s : By} (h0 : (parseE s).2 = 0) : szN (parseE s).1 ≤ 401 ∧ wfN (parseE s).1 = true ∧ s.length ≤ 200 := by
  unfold parseE at *
  split at h0
  · cases h0
  · rename_i hl
    rw [if_neg hl]
    split at h0
    · rename_i x hx
      have := parseP_small hx
      exact ⟨by show szN x ≤ 401; omega, this.2, by omega⟩
    · cases h0

theorem totL_take {l : List By} {i : Nat} {s : By} (hx : l[i]? = some s) : totL (l.take (i + 1)) = totL (l.take i) + s.length := by
  rw [List.take_add_one, hx, Option.toList_some]
  simp [totL]

end Go.Proofs.YtlegopbpofofgaaDoor
