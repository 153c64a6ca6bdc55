/- Plain words, the logic of walks, and walks that the statement's proof leans on (part 15). -/
import Derived.Recover
import Derived.Test.YtlkmlfofhbekoaaDoorQa
import Derived.Test.YtlkmlfofhbekoaaDoorQb
import Derived.Test.YtlkmlfofhbekoaaDoorQc
import Derived.Test.YtlkmlfofhbekoaaDoorQd
import Derived.Test.YtlkmlfofhbekoaaDoorQe
import Derived.Test.YtlkmlfofhbekoaaDoorQf
import Derived.Test.YtlkmlfofhbekoaaDoorQg
import Derived.Test.YtlkmlfofhbekoaaDoorQh
import Derived.Test.YtlkmlfofhbekoaaDoorQi
import Derived.Test.YtlkmlfofhbekoaaDoorQj
import Derived.Test.YtlkmlfofhbekoaaDoorQk
import Derived.Test.YtlkmlfofhbekoaaDoorQl
import Derived.Test.YtlkmlfofhbekoaaDoorQm
import Derived.Test.YtlkmlfofhbekoaaDoorQn

namespace Go.Lw
open Go.RowKit
structure FitD (D : List Deferred) (n : Nat) (ρ : Env) (a : Act) : Prop where
 size : a.tmps.size = n
 ok : ∀ i v, ρ.at i = some v → a.tmps[i]? = some v
 nd : a.defers = D
theorem FitD.zero {D : List Deferred} {n : Nat} {ρ : Env} {a : Act} (f : FitD D n ρ a) : Fits n ρ { a with defers := [] } := ⟨f.size, f.ok, rfl⟩
theorem FitD.put {D : List Deferred} {n : Nat} {ρ : Env} {a : Act} (f : FitD D n ρ a) {dst : Option Nat} (hd : dstOk n dst = true) (v : Value) : FitD D n (ρ.put dst v) (a.put dst v) := by
 have h := f.zero.put hd v
 cases dst with
 | none => exact ⟨h.size, h.ok, f.nd⟩
 | some d => exact ⟨h.size, h.ok, f.nd⟩
theorem FitD.sub {D : List Deferred} {n : Nat} {ρ ρ' : Env} {a : Act} (f : FitD D n ρ a) (h : Sub ρ' ρ) : FitD D n ρ' a := ⟨f.size, fun i v hi => f.ok i v (h.at i v hi), f.nd⟩
theorem OpX.atD {P : Program} {o : Oper} {ρ : Env} {h : Heap} {Φ : Value → Heap → Prop} {X : List PanicEntry → Heap → Prop} (k : OpX P o ρ h Φ X) {n : Nat} {D : List Deferred} {B : World} {a : Act} {w : World} (hf : FitD D n ρ a) (ha : At B h w)
 {next : Act → World → Prop} {Q : Exit → Act → World → Prop} (hn : ∀ v h' w', At B h' w' → Φ v h' → next (a.put o.dst v) w') (hx : ∀ ch h' w', At B h' w' → X ch h' → Q (.panic ch) a w') : o.wp P a w next Q := by
 have hput : ∀ v, ({ (({ a with defers := [] } : Act).put o.dst v) with defers := a.defers } : Act) = a.put o.dst v := fun v => by cases hd : o.dst <;> simp [Act.put]
 have hput0 : ∀ v, (({ a with defers := [] } : Act).put o.dst v).defers = [] := fun v => by cases hd : o.dst <;> simp [Act.put]
 have h0 := k n B { a with defers := [] } w hf.zero ha (fun a' w' => a'.defers = [] ∧ next { a' with defers := a.defers } w')
  (fun e a' w' => match e with | .panic ch => Q (.panic ch) { a' with defers := a.defers } w' | _ => False)
  (fun v h' w' ha' hv => ⟨hput0 v, by rw [hput v]; exact hn v h' w' ha' hv⟩) (fun ch h' w' ha' hv => hx ch h' w' ha' hv)
 unfold Oper.wp at *
 have he : execOp ({ a with defers := [] } : Act).eval o = execOp a.eval o := rfl
 rw [he] at h0
 generalize (execOp a.eval o).run P w = r at *
 cases r with
 | ok x w' =>
  cases x <;> simp only [Oper.upon] at h0 ⊢
  case value v => have := h0.2; rwa [hput v] at this
  case skip => have := h0.2; rwa [hput undef] at this
  case defer d => have := h0.1; cases hd : o.dst <;> simp [Act.put, hd] at this
  case enter g args =>
   refine h0.mono fun e w'' hr => ?_
   cases e with
   | returned v => have := hr.2; rwa [hput v] at this
   | panicked c => exact hr
   | outgrown => obtain ⟨a₁, w₁, h3⟩ := hr; exact h3.elim
  case row row args => exact h0.mono fun v w'' hr => by have := hr.2; rwa [hput v] at this
 | halt x w' => cases x <;> simp only [Oper.upon] at h0 ⊢; exact h0
def RWD (P : Program) (D : List Deferred) (n : Nat) (ops : Array Oper) (i : Nat) (ρ : Env) (h : Heap) (N : Env → Heap → Prop) (X : List PanicEntry → Env → Heap → Prop) : Prop :=
 ∀ B a w, FitD D n ρ a → At B h w → ∀ Q : Exit → Act → World → Prop, (∀ ρ' h' a' w', FitD D n ρ' a' → At B h' w' → N ρ' h' → Q .normal a' w') →
  (∀ ch ρ' h' a' w', FitD D n ρ' a' → At B h' w' → X ch ρ' h' → Q (.panic ch) a' w') → wpOps P ops Q ((List.range ops.size).drop i) a w
section
variable {P : Program} {D : List Deferred} {n : Nat} {ops : Array Oper} {i : Nat} {ρ : Env} {h : Heap} {N : Env → Heap → Prop} {X : List PanicEntry → Env → Heap → Prop}
theorem RWD.op {o : Oper} {Φ : Value → Heap → Prop} (ho' : nth ops.toList i = some o) (hg : o.guard = none) {od : Option Nat} (hod : o.dst = od) (hd : dstOk n od = true) (k : OpX P o ρ h Φ (fun ch h' => X ch ρ h'))
 (next : ∀ v h', Φ v h' → RWD P D n ops (i + 1) (ρ.put od v) h' N X) : RWD P D n ops i ρ h N X := by
 subst hod
 have ho := nth_get ho'
 intro B a w hf ha Q hN hX
 rw [range_drop (lt_of_get ho)]
 simp only [wpOps, ho]
 have hw : Region.wanted o (yielded ops a.tmps) = true := by unfold Region.wanted; rw [hg]
 rw [hw, if_pos rfl]
 refine .inl (k.atD hf ha (fun v h' w' ha' hv => ?_) (fun ch h' w' ha' hx => hX ch ρ h' a w' hf ha' hx))
 exact next v h' hv B _ w' (hf.put hd v) ha' Q hN hX
theorem RWD.opS {o : Oper} {Φ : Value → Heap → Prop} {d : Nat} (ho : nth ops.toList i = some o) (hg : o.guard = none) (hod : o.dst = some d) (hd : Nat.blt d n = true) (k : OpX P o ρ h Φ (fun ch h' => X ch ρ h'))
 (next : ∀ v h', Φ v h' → RWD P D n ops (i + 1) ((d, v) :: ρ) h' N X) : RWD P D n ops i ρ h N X := RWD.op ho hg hod hd k next
theorem RWD.op0 {o : Oper} {Φ : Value → Heap → Prop} (ho : nth ops.toList i = some o) (hg : o.guard = none) (hod : o.dst = none) (k : OpX P o ρ h Φ (fun ch h' => X ch ρ h'))
 (next : ∀ v h', Φ v h' → RWD P D n ops (i + 1) ρ h' N X) : RWD P D n ops i ρ h N X := RWD.op ho hg hod rfl k next
theorem RWD.pureS {o : Oper} {v : Value} {d : Nat} (ho : nth ops.toList i = some o) (hg : o.guard = none) (hod : o.dst = some d) (hd : Nat.blt d n = true) (k : OpP P o ρ h v)
 (next : RWD P D n ops (i + 1) ((d, v) :: ρ) h N X) : RWD P D n ops i ρ h N X := RWD.opS ho hg hod hd k.toX (fun _ _ ⟨hv, hh⟩ => by subst hv; subst hh; exact next)
theorem RWD.done (hi : Nat.ble ops.size i = true) (next : N ρ h) : RWD P D n ops i ρ h N X := by
 intro B a w hf ha Q hN _
 have : ops.size ≤ i := Nat.le_of_ble_eq_true hi
 rw [List.drop_eq_nil_of_le (by simpa using this)]
 exact hN ρ h a w hf ha next
end
def GD (P : Program) (D : List Deferred) (f : FuncId) (fn : Func) (k : List It) (ρ : Env) (h : Heap) (R : Ending → Heap → Prop) : Prop :=
 ∀ B a w, FitD D fn.ntmps ρ a → At B h w → ∀ b : Frame, b.fn = f → b.kind = .normal → ∀ cs, ∃ e w' fr h', At B h' w' ∧ R e h' ∧
  Comes P (lone (b.at a (k.map (It.item (bodyOf fn)))) cs w) (lone fr cs w') e ∧ fr.fn = f ∧ fr.leaving P w' e
def LeavesH (P : Program) (fn : Func) (D : List Deferred) (u : FrameMode) (ρ : Env) (h : Heap) (R : Ending → Heap → Prop) : Prop :=
 ∀ B a w, FitD D fn.ntmps ρ a → At B h w → Leaves P fn a.tmps (lift B R) D u w
section
variable {P : Program} {D : List Deferred} {f : FuncId} {fn : Func} {k : List It} {ρ : Env} {h : Heap} {R : Ending → Heap → Prop} {p : List Nat}
theorem GD.step {k' : List It} (hs : ∀ (b : Frame) (a : Act) cs w, Go.step P (lone (b.at a (k.map (It.item (bodyOf fn)))) cs w) = .next (lone (b.at a (k'.map (It.item (bodyOf fn)))) cs w))
 (next : GD P D f fn k' ρ h R) : GD P D f fn k ρ h R := by
 intro B a w hf ha b hb hk cs
 obtain ⟨e, w', fr, h', h1, h2, h3, h4, h5⟩ := next B a w hf ha b hb hk cs
 exact ⟨e, w', fr, h', h1, h2, .of_steps (.one (hs b a cs w)) h3, h4, h5⟩
theorem GD.skip (hk : kind (sub (bodyOf fn) p) = 0) (next : GD P D f fn k ρ h R) : GD P D f fn (.code p :: k) ρ h R := by
 refine GD.step (fun b a cs w => ?_) next
 simp only [List.map_cons, It.item]
 cases hc : sub (bodyOf fn) p <;> simp [hc, kind] at hk
 · exact step_skip
 · rename_i d; cases d <;> simp at hk
theorem GD.seq (hk : kind (sub (bodyOf fn) p) = 1) (next : GD P D f fn (.code (0 :: p) :: .code (1 :: p) :: k) ρ h R) : GD P D f fn (.code p :: k) ρ h R := by
 refine GD.step (fun b a cs w => ?_) next
 simp only [List.map_cons, It.item, sub]
 cases hc : sub (bodyOf fn) p <;> simp [hc, kind] at hk
 · rename_i d; cases d <;> simp at hk
 · exact step_seq
theorem GD.sub {ρ' : Env} (hs : Sub ρ' ρ) (next : GD P D f fn k ρ' h R) : GD P D f fn k ρ h R :=
 fun B a w hf ha => next B a w (hf.sub hs) ha
theorem GD.cond {t : Bool} (hk : kind (Lw.sub (bodyOf fn) p) = 7) (hc : opd ρ (condOf (Lw.sub (bodyOf fn) p)) = some (.bool t))
 (ht : t = true → GD P D f fn (.code (0 :: p) :: k) ρ h R) (hn : t = false → GD P D f fn (.code (1 :: p) :: k) ρ h R) : GD P D f fn (.code p :: k) ρ h R := by
 intro B a w hf ha b hb hkk cs
 have hstep : Go.step P (lone (b.at a ((It.code p :: k).map (It.item (bodyOf fn)))) cs w) = .next (lone (b.at a ((It.code ((if t then 0 else 1) :: p) :: k).map (It.item (bodyOf fn)))) cs w) := by
  simp only [List.map_cons, It.item, Lw.sub]
  cases hcc : Lw.sub (bodyOf fn) p <;> simp [hcc, kind] at hk
  · rename_i d; cases d <;> simp at hk
  · rw [hcc] at hc
    refine (step_cond (P := P) (b := b) (a := a) (k := k.map (It.item (bodyOf fn))) (cs := cs) (w := w) (hf.zero.eval hc)).trans ?_
    cases t <;> rfl
 cases t with
 | true =>
  obtain ⟨e, w', fr, h', h1, h2, h3, h4, h5⟩ := ht rfl B a w hf ha b hb hkk cs
  exact ⟨e, w', fr, h', h1, h2, .of_steps (.one hstep) h3, h4, h5⟩
 | false =>
  obtain ⟨e, w', fr, h', h1, h2, h3, h4, h5⟩ := hn rfl B a w hf ha b hb hkk cs
  exact ⟨e, w', fr, h', h1, h2, .of_steps (.one hstep) h3, h4, h5⟩
theorem GD.ite {φ : Prop} [Decidable φ] (hk : kind (Lw.sub (bodyOf fn) p) = 7) (hc : opd ρ (condOf (Lw.sub (bodyOf fn) p)) = some (.bool (decide φ)))
 (ht : φ → GD P D f fn (.code (0 :: p) :: k) ρ h R) (hn : ¬ φ → GD P D f fn (.code (1 :: p) :: k) ρ h R) : GD P D f fn (.code p :: k) ρ h R :=
 GD.cond hk hc (fun e => ht (of_decide_eq_true e)) (fun e => hn (of_decide_eq_false e))
theorem leave_mode {u : FrameMode} {B : World} {a : Act} {w : World} (hfn : P.funcs[f]? = some fn) (hf : FitD D fn.ntmps ρ a) (ha : At B h w) (hL : LeavesH P fn D u ρ h R) (b : Frame) (hb : b.fn = f) (hk : b.kind = .normal) (cs : List Frame) (todo : List Item) :
 ∃ e w' fr h', At B h' w' ∧ R e h' ∧ Comes P (lone { b.at a todo with mode := u } cs w) (lone fr cs w') e ∧ fr.fn = f ∧ fr.leaving P w' e := by
 obtain ⟨e, w', fr, ⟨h', h1, h2⟩, h3, h4, h5⟩ := leaves_steps (P := P) (fn := fn) (tmps := a.tmps) (R := lift B R) D u w { b.at a todo with mode := u } cs rfl hf.nd rfl (by rw [show ({ b.at a todo with mode := u } : Frame).fn = f from hb]; exact hfn) hk (hL B a w hf ha)
 exact ⟨e, w', fr, h', h1, h2, h3, h4.trans hb, h5⟩
theorem GD.reg (hfn : P.funcs[f]? = some fn) (hk : kind (Lw.sub (bodyOf fn) p) = 5)
 (next : RWD P D fn.ntmps (opsOf (Lw.sub (bodyOf fn) p)) 0 ρ h (fun ρ' h' => GD P D f fn k ρ' h' R) (fun ch ρ' h' => LeavesH P fn D (.panicking ch) ρ' h' R)) : GD P D f fn (.code p :: k) ρ h R := by
 intro B a w hf ha b hb hkk cs
 cases hc : Lw.sub (bodyOf fn) p <;> simp [hc, kind] at hk
 rename_i id ops d
 cases d <;> simp at hk
 rw [hc] at next
 let Q : Exit → Act → World → Prop := fun e a' w' => match e with
  | .normal => ∃ ρ' h', FitD D fn.ntmps ρ' a' ∧ At B h' w' ∧ GD P D f fn k ρ' h' R
  | .panic ch => ∃ ρ' h', FitD D fn.ntmps ρ' a' ∧ At B h' w' ∧ LeavesH P fn D (.panicking ch) ρ' h' R
  | _ => False
 have hw : (Code.region id ops false).wp P Q a w := wp_region (by
  have := next B a w hf ha Q (fun ρ' h' a' w' f' a'' hn => ⟨ρ', h', f', a'', hn⟩) (fun ch ρ' h' a' w' f' a'' hx => ⟨ρ', h', f', a'', hx⟩)
  simpa [opsOf] using this)
 obtain ⟨e, a', w', hq, harr⟩ := hw b (k.map (It.item (bodyOf fn))) cs
 have hit : (It.code p :: k).map (It.item (bodyOf fn)) = Item.code (Code.region id ops false) :: k.map (It.item (bodyOf fn)) := by simp [It.item, hc]
 rw [hit]
 cases e with
 | normal =>
  obtain ⟨ρ', h', f', a'', hg⟩ := hq
  obtain ⟨e, w'', fr, h'', h1, h2, h3, h4, h5⟩ := hg B a' w' f' a'' b hb hkk cs
  exact ⟨e, w'', fr, h'', h1, h2, .of_steps harr h3, h4, h5⟩
 | panic ch =>
  obtain ⟨ρ', h', f', a'', hl⟩ := hq
  obtain ⟨todo, hs⟩ := harr
  obtain ⟨e, w'', fr, h'', h1, h2, h3, h4, h5⟩ := leave_mode hfn f' a'' hl b hb hkk cs todo
  exact ⟨e, w'', fr, h'', h1, h2, .of_steps hs h3, h4, h5⟩
 | exit id => exact hq.elim
 | goto l => exact hq.elim
 | ret => exact hq.elim
 | outgrown => exact hq.elim
theorem GD.ret (hfn : P.funcs[f]? = some fn) (hk : kind (Lw.sub (bodyOf fn) p) = 4) (hL : LeavesH P fn D .returning ρ h R) : GD P D f fn (.code p :: k) ρ h R := by
 intro B a w hf ha b hb hkk cs
 have hstep : Go.step P (lone (b.at a ((It.code p :: k).map (It.item (bodyOf fn)))) cs w) = .next (lone { b.at a ((It.code p :: k).map (It.item (bodyOf fn))) with mode := .returning } cs w) := by
  simp only [List.map_cons, It.item]
  cases hc : Lw.sub (bodyOf fn) p <;> simp [hc, kind] at hk
  · rename_i d; cases d <;> simp at hk
  · exact step_ret
 obtain ⟨e, w'', fr, h'', h1, h2, h3, h4, h5⟩ := leave_mode hfn hf ha hL b hb hkk cs ((It.code p :: k).map (It.item (bodyOf fn)))
 exact ⟨e, w'', fr, h'', h1, h2, .of_steps (.one hstep) h3, h4, h5⟩
theorem G.defer1 {o1 o2 : Oper} {g : FuncId} {caps : List Value} {xs : Array Operand} {d : Nat} (_hfn : P.funcs[f]? = some fn) (hk : kind (Lw.sub (bodyOf fn) p) = 5) (hops : opsOf (Lw.sub (bodyOf fn) p) = #[o1, o2])
 (h1 : o1.op = .makeFunc (.func g) #[] xs) (hg1 : o1.guard = none) (hd1 : o1.dst = some d) (hdn : Nat.blt d fn.ntmps = true) (hx : xs.toList.map (opd ρ) = caps.map some)
 (hnd : ρ.at d = none) (h2 : o2.op = .defer ⟨.value (.tmp d), #[], #[]⟩) (hg2 : o2.guard = none) (hd2 : o2.dst = none)
 (next : GD P [{ target := .fn (.func g) caps.toArray, args := #[] }] f fn k ρ h R) : G P f fn (.code p :: k) ρ h R := by
 intro B a w hf ha b hb hkk cs
 cases hc : Lw.sub (bodyOf fn) p <;> simp [hc, kind] at hk
 rename_i id ops dr
 cases dr <;> simp at hk
 rw [hc] at hops
 have hops' : ops = #[o1, o2] := hops
 subst hops'
 let D : List Deferred := [{ target := .fn (.func g) caps.toArray, args := #[] }]
 let Q : Exit → Act → World → Prop := fun e a' w' => match e with
  | .normal => FitD D fn.ntmps ρ a' ∧ At B h w'
  | _ => False
 have hargs : xs.map a.eval = caps.toArray := by
  apply Array.ext'
  simp only [Array.toList_map]
  have key : ∀ (l : List Operand) (us : List Value), l.map (opd ρ) = us.map some → l.map a.eval = us := by
   intro l
   induction l with
   | nil => intro us hu; cases us <;> simp_all
   | cons x r ih =>
    intro us hu
    cases us with
    | nil => simp at hu
    | cons u us =>
     simp only [List.map_cons, List.cons.injEq] at hu ⊢
     exact ⟨hf.eval hu.1, ih us hu.2⟩
  exact key _ _ hx
 have hlt : d < a.tmps.size := by rw [hf.size]; exact Nat.blt_eq.mp hdn
 have hget : ∀ v, (a.tmps.setIfInBounds d v).getD d undef = v := fun v => by
  rw [Array.getD_eq_getD_getElem?, Array.getElem?_setIfInBounds_self_of_lt hlt]; rfl
 have hw : (Code.region id #[o1, o2] false).wp P Q a w := wp_region (by
  show wpOps P #[o1, o2] Q [0, 1] a w
  simp only [wpOps, List.getElem?_toArray, List.getElem?_cons_zero, List.getElem?_cons_succ]
  rw [show Region.wanted o1 (yielded #[o1, o2] a.tmps) = true by unfold Region.wanted; rw [hg1], if_pos rfl]
  refine .inl ?_
  unfold Oper.wp
  rw [show (execOp a.eval o1).run P w = .ok (.value (.func (.func g) #[] caps.toArray)) w by simp [execOp, h1, Instr.makeFunc, hargs]]
  simp only [Oper.upon, hd1, Act.put]
  rw [show ∀ t, Region.wanted o2 (yielded #[o1, o2] t) = true from fun t => by unfold Region.wanted; rw [hg2], if_pos rfl]
  refine .inl ?_
  try unfold Oper.wp
  rw [show (execOp (Act.eval { a with tmps := a.tmps.setIfInBounds d (.func (.func g) #[] caps.toArray) }) o2).run P w = .ok (.defer { target := .fn (.func g) caps.toArray, args := #[] }) w by
   simp [execOp, h2, resolve, Act.eval, hget, Deferred.ofValue]]
  simp only [hd2]
  have hput := hf.put (dst := some d) hdn (.func (.func g) #[] caps.toArray)
  exact ⟨⟨hput.size, fun i v hi => by
   by_cases e : d = i
   · subst e; rw [hnd] at hi; cases hi
   · have := hf.ok i v hi
     rw [Array.getElem?_setIfInBounds_ne e]; exact this, by rw [hf.nd]⟩, ha⟩)
 obtain ⟨e, a', w', hq, harr⟩ := hw b (k.map (It.item (bodyOf fn))) cs
 have hit : (It.code p :: k).map (It.item (bodyOf fn)) = Item.code (Code.region id #[o1, o2] false) :: k.map (It.item (bodyOf fn)) := by simp [It.item, hc]
 rw [hit]
 cases e with
 | normal =>
  obtain ⟨f', a''⟩ := hq
  obtain ⟨e, w'', fr, h'', h1, h2, h3, h4, h5⟩ := next B a' w' f' a'' b hb hkk cs
  exact ⟨e, w'', fr, h'', h1, h2, .of_steps harr h3, h4, h5⟩
 | panic ch => exact hq.elim
 | exit id => exact hq.elim
 | goto l => exact hq.elim
 | ret => exact hq.elim
 | outgrown => exact hq.elim
end
theorem fits_enter {fn : Func} (vs : List Value) (hle : vs.length ≤ fn.ntmps) : Fits fn.ntmps (argEnv 0 vs) { tmps := vs.toArray ++ Array.replicate (fn.ntmps - vs.toArray.size) undef, defers := [] } := by
 refine ⟨by simp; omega, fun i v hi => ?_, rfl⟩
 obtain ⟨_, h2⟩ := argEnv_at vs 0 i v hi
 have hlt : i < vs.length := by
  rcases Nat.lt_or_ge i vs.length with hl | hl
  · exact hl
  · simp [List.getElem?_eq_none hl] at h2
 rw [Array.getElem?_append_left (by simpa using hlt)]
 simpa using h2
theorem callsD_recover {P : Program} {g : FuncId} {fn : Func} {vs : List Value} {id : Nat} {o1 o2 : Oper} {rest : Code} {v : Value} {u u' : FrameMode} {d1 d2 : Nat} {ts : Array TypeId} {w : World} {R : Ending → FrameMode → World → Prop}
 (hfn : P.funcs[g]? = some fn) (hb : fn.body = some (.seq (.region id #[o1, o2] false) rest)) (hn : Nat.ble vs.length fn.ntmps = true)
 (h1 : o1.op = .call ⟨.builtin .recover, #[], ts⟩) (hg1 : o1.guard = none) (hd1 : o1.dst = some d1) (hl1 : Nat.blt d1 fn.ntmps = true)
 (h2 : o2.op = .assign (.tmp d1)) (hg2 : o2.guard = none) (hd2 : o2.dst = some d2) (hl2 : Nat.blt d2 fn.ntmps = true)
 (hrec : ∀ (c₀ : Frame) (cs : List Frame), c₀.mode = u → recoverD (c₀ :: cs) = some (v, { c₀ with mode := u' } :: cs) ∨ (recoverD (c₀ :: cs) = none ∧ v = .nilIface ∧ u' = u))
 (hw : ∀ a, Fits fn.ntmps ((d2, v) :: (d1, v) :: argEnv 0 vs) a → rest.wp P (fun e a' w' => match e with
  | .normal | .ret => a'.defers = [] ∧ ∃ r, (results fn a'.tmps).run P w' = .ok r w' ∧ R (.returned r) u' w'
  | _ => False) a w) : CallsD P g vs.toArray u w R := by
 refine callsD_of_wpS hfn hb fun c₀ cs hu => ?_
 have hf0 := fits_enter (fn := fn) vs (Nat.le_of_ble_eq_true hn)
 generalize ({ tmps := vs.toArray ++ Array.replicate (fn.ntmps - vs.toArray.size) undef, defers := [] } : Act) = a0 at hf0
 refine wpS_seq (wpS_region ?_)
 show wpOpsS P #[o1, o2] _ [0, 1] a0 (c₀ :: cs) w
 simp only [wpOpsS, List.getElem?_toArray, List.getElem?_cons_zero, List.getElem?_cons_succ]
 rw [show Region.wanted o1 (yielded #[o1, o2] a0.tmps) = true by unfold Region.wanted; rw [hg1], if_pos rfl]
 rw [show (execOp a0.eval o1).run P w = .ok .recover w by simp [execOp, h1, resolve, invoke, builtin]]
 have hf1 := hf0.put (dst := some d1) hl1 v
 have hf2 := hf1.put (dst := some d2) hl2 v
 have hwf := hw _ hf2
 have hrun : (execOp (a0.put (some d1) v).eval o2).run P w = .ok (.value v) w := by
  have he : (a0.put (some d1) v).eval (.tmp d1) = v := hf1.eval (x := .tmp d1) (by simp [opd, Env.put, Env.at_cons])
  simp [execOp, h2, he]
 have fin : ∀ (cs' : List Frame), cs' = { c₀ with mode := u' } :: cs → rest.wpS P (bodyPostS P fn c₀ cs R) ((a0.put (some d1) v).put (some d2) v) cs' w := by
  intro cs' hcs
  refine wpS_of_wp ?_
  intro b k cs2
  obtain ⟨e, a', w', hq, harr⟩ := hwf b k cs2
  refine ⟨e, a', w', ?_, harr⟩
  cases e with
  | normal => obtain ⟨q1, r, q2, q3⟩ := hq; exact ⟨q1, u', hcs, r, q2, q3⟩
  | ret => obtain ⟨q1, r, q2, q3⟩ := hq; exact ⟨q1, u', hcs, r, q2, q3⟩
  | panic ch => exact hq.elim
  | exit id => exact hq.elim
  | goto l => exact hq.elim
  | outgrown => exact hq.elim
 rcases hrec c₀ cs hu with hr | ⟨hr, rfl, rfl⟩
 · simp only [hr, hd1]
   rw [show ∀ t, Region.wanted o2 (yielded #[o1, o2] t) = true from fun t => by unfold Region.wanted; rw [hg2], if_pos rfl]
   rw [hrun]
   simp only [Oper.upon, hd2]
   exact fin _ rfl
 · simp only [hr, hd1]
   rw [show ∀ t, Region.wanted o2 (yielded #[o1, o2] t) = true from fun t => by unfold Region.wanted; rw [hg2], if_pos rfl]
   rw [hrun]
   simp only [Oper.upon, hd2]
   refine fin _ ?_
   cases c₀
   simp only at hu
   subst hu
   rfl
theorem run_invoke_fn {P : Program} {g : FuncId} {fn : Func} {caps : Array Value} {w : World} (hfn : P.funcs[g]? = some fn) (hb : fn.body.isSome = true) (hnm : (fn.name == "runtime.NumGoroutine") = false) : (invoke (.fn (.func g) caps) #[]).run P w = .ok (.enter g caps) w := by
 have hb' : fn.body ≠ none := by intro hbb; simp [hbb] at hb
 have hnm' : ¬ fn.name = "runtime.NumGoroutine" := by simpa using hnm
 simp [invoke, callFunc, hfn, hnm', hb']
theorem OpP.typeAssertHit {P : Program} {ρ : Env} {h : Heap} {dst : Option Nat} {ty : TypeId} {pos : String} {after : Array Edge} {guard : Option (Nat × Bool)} {t xt : TypeId} {fs : Array Field} {x : Operand} {v : Value} (hu : P.underlying t = some (.struct fs)) (hx : opd ρ x = some (.iface t v)) :
 OpP P ⟨dst, .typeAssert x xt t false, ty, pos, after, guard⟩ ρ h v := by
 intro n B a w hf ha
 simp [execOp, Instr.typeAssert, run_underlying hu, hf.eval hx]
end Go.Lw
namespace Go.Proofs.YtlkmlfofhbekoaaDoor
open Go Go.Lw Go.RowKit
set_option maxRecDepth 20000
abbrev zeroN : List Value := ndC 0 0 (.slice none 0 0)
theorem catch_none {h : Heap} {nb eb : Nat} {cs : List Value} {v0 : Value} (hcs : cs.length = 6) (hk : Blk h nb 87 cs) (he : Blk h eb 27 [v0]) (hne : nb ≠ eb) (B w : World) (ha : At B h w) :
 CallsD Tryd.prog 52 #[.pointer (some ⟨nb, 0, none⟩), .pointer (some ⟨eb, 0, none⟩)] (.panicking [{ v := noneV, recovered := false }]) w fun e u' w' =>
  (∃ r, e = .returned r) ∧ u' = .panicking [{ v := noneV, recovered := true }] ∧ ∃ h', At B h' w' ∧ Blk h' nb 87 zeroN ∧ Blk h' eb 27 [.int .i64 10] ∧ Ext (fun b => b = nb ∨ b = eb) h h' := by
 refine callsD_recover (v := noneV) (vs := [.pointer (some ⟨nb, 0, none⟩), .pointer (some ⟨eb, 0, none⟩)]) (u' := .panicking [{ v := noneV, recovered := true }]) Tryd.func52 rfl rfl rfl rfl rfl rfl rfl rfl rfl rfl (fun c₀ cs hu => .inl (by simp [recoverD, hu])) (fun a hf => ?_)
 refine wp_seq (wp_region ?_)
 refine (show RW Tryd.prog Tryd.f52.ntmps _ 0 _ h (fun ρ' h' => h' = h ∧ Sub [(5, .bool true), (2, noneV), (0, .pointer (some ⟨nb, 0, none⟩)), (1, .pointer (some ⟨eb, 0, none⟩))] ρ') (fun _ _ => False) from ?_) B a w hf ha _ ?_ (fun _ _ _ _ _ _ k => k.elim)
 · refine xqp 1 rfl rfl (OpP.neqIface Tryd.underlying20 rfl (.inr ⟨_, _, rfl⟩)) ?_
   exact RW.done rfl ⟨rfl, rfl, rfl, rfl, rfl, trivial⟩
 rintro ρ' h' a1 w1 hf1 ha1 ⟨rfl, hsub⟩
 have hf1 := hf1.sub hsub
 refine wp_cond_true (hf1.eval (x := .tmp 5) rfl) ?_
 refine wp_seq (wp_region ?_)
 refine (show RW Tryd.prog Tryd.f52.ntmps _ 0 _ h' (fun ρ' g => g = h' ∧ Sub [(0, .pointer (some ⟨nb, 0, none⟩)), (1, .pointer (some ⟨eb, 0, none⟩))] ρ') (fun _ _ => False) from ?_) B a1 w1 hf1 ha1 _ ?_ (fun _ _ _ _ _ _ k => k.elim)
 · refine xqp 1 rfl rfl (OpP.typeAssertHit Tryd.underlying126 rfl) ?_
   exact RW.done rfl ⟨rfl, rfl, rfl, trivial⟩
 rintro ρ'' h'' a2 w2 hf2 ha2 ⟨rfl, hsub2⟩
 have hf2 := hf2.sub hsub2
 refine wp_region ?_
 refine (show RW Tryd.prog Tryd.f52.ntmps _ 0 _ h'' (fun _ g => Blk g nb 87 zeroN ∧ Blk g eb 27 [.int .i64 10] ∧ Ext (fun b => b = nb ∨ b = eb) h'' g) (fun _ _ => False) from ?_) B a2 w2 hf2 ha2 _ ?_ (fun _ _ _ _ _ _ k => k.elim)
 · refine xp rfl (OpP.build (H.bd87_ ) rfl) ?_
   refine RW.op0 rfl rfl rfl (OpX.storeBlk H.sz87 rfl rfl hk rfl (by rw [hcs]; decide) (by first | decide | simp [Value.oneCell'])) ?_
   rintro _ h3 ⟨rfl, hk3, hx3, hz3⟩
   have hk3 : Blk h3 nb 87 zeroN := by
    rw [over_all (by rw [hcs]; rfl)] at hk3; exact hk3
   refine RW.op0 rfl rfl rfl (OpX.storeOne H.sz27 rfl rfl (he.ext hx3 (fun e => hne e.symm)) (by simp) rfl) ?_
   rintro _ h4 ⟨rfl, hk4, hx4, hz4⟩
   exact RW.done rfl ⟨hk3.ext hx4 (fun e => hne e), hk4, (hx3.mono fun _ _ k => .inl k).trans (hx4.mono fun _ _ k => .inr k)⟩
 rintro _ h5 a5 w5 hf5 ha5 ⟨hq1, hq2, hq3⟩
 exact ⟨hf5.nd, _, results_all hf5 ha5 .nil, ⟨_, rfl⟩, rfl, h5, ha5, hq1, hq2, hq3⟩
theorem catch_idle {h : Heap} {nb eb : Nat} (B w : World) (ha : At B h w) :
 CallsD Tryd.prog 52 #[.pointer (some ⟨nb, 0, none⟩), .pointer (some ⟨eb, 0, none⟩)] .returning w fun e u' w' => (∃ r, e = .returned r) ∧ u' = .returning ∧ At B h w' := by
 refine callsD_recover (v := .nilIface) (vs := [.pointer (some ⟨nb, 0, none⟩), .pointer (some ⟨eb, 0, none⟩)]) (u' := .returning) Tryd.func52 rfl rfl rfl rfl rfl rfl rfl rfl rfl rfl (fun c₀ cs hu => .inr ⟨by simp [recoverD, hu], rfl, rfl⟩) (fun a hf => ?_)
 refine wp_seq (wp_region ?_)
 refine (show RW Tryd.prog Tryd.f52.ntmps _ 0 _ h (fun ρ' h' => h' = h ∧ Sub [(5, .bool false)] ρ') (fun _ _ => False) from ?_) B a w hf ha _ ?_ (fun _ _ _ _ _ _ k => k.elim)
 · refine xqp 1 rfl rfl (OpP.neqIface Tryd.underlying20 rfl (.inl rfl)) ?_
   exact RW.done rfl ⟨rfl, rfl, trivial⟩
 rintro ρ' h' a1 w1 hf1 ha1 ⟨rfl, hsub⟩
 have hf1 := hf1.sub hsub
 refine wp_cond_false (hf1.eval (x := .tmp 5) rfl) (wp_skip ?_)
 exact ⟨hf1.nd, _, results_all hf1 ha1 .nil, ⟨_, rfl⟩, rfl, ha1⟩
theorem leave_none {h : Heap} {nb eb : Nat} {cs : List Value} {v0 : Value} {ρ : Env} {R : Ending → Heap → Prop} (h2 : ρ.at 2 = some (.pointer (some ⟨nb, 0, none⟩))) (h3 : ρ.at 3 = some (.pointer (some ⟨eb, 0, none⟩))) (hcs : cs.length = 6) (hk : Blk h nb 87 cs) (he : Blk h eb 27 [v0]) (hne : nb ≠ eb)
 (hR : ∀ h', Ext (fun b => b = nb ∨ b = eb) h h' → R (.returned (.tuple #[.agg zeroN.toArray, .int .i64 10])) h') :
 LeavesH Tryd.prog Tryd.f32 [{ target := .fn (.func 52) #[.pointer (some ⟨nb, 0, none⟩), .pointer (some ⟨eb, 0, none⟩)], args := #[] }] (.panicking [{ v := noneV, recovered := false }]) ρ h R := by
 intro B a w hf ha
 refine leaves_cons (f := 52) (args := #[.pointer (some ⟨nb, 0, none⟩), .pointer (some ⟨eb, 0, none⟩)]) (by simp) (run_invoke_fn Tryd.func52 rfl (by decide +kernel)) ?_
 refine (catch_none hcs hk he hne B w ha).mono ?_
 rintro e u' w' ⟨⟨r, rfl⟩, rfl, h', ha', hk', he', hx'⟩
 refine ⟨_, results_all hf.zero ha' (.cons (ResOk.rowN H.ag87 H.sz87 h2 hk'.row rfl) (.cons (ResOk.cell H.ag27 h3 (he'.cell (i := 0) rfl)) .nil)), h', ha', hR h' hx'⟩
theorem leave_idle {h : Heap} {nb eb : Nat} {x : Nd} {w0 : Value} {e0 : Int} {ρ : Env} {R : Ending → Heap → Prop} (h2 : ρ.at 2 = some (.pointer (some ⟨nb, 0, none⟩))) (h3 : ρ.at 3 = some (.pointer (some ⟨eb, 0, none⟩))) (hk : Blk h nb 87 (ndC x.kind x.set w0)) (he : Blk h eb 27 [.int .i64 e0])
 (hR : R (.returned (.tuple #[.agg (ndC x.kind x.set w0).toArray, .int .i64 e0])) h) :
 LeavesH Tryd.prog Tryd.f32 [{ target := .fn (.func 52) #[.pointer (some ⟨nb, 0, none⟩), .pointer (some ⟨eb, 0, none⟩)], args := #[] }] .returning ρ h R := by
 intro B a w hf ha
 refine leaves_cons (f := 52) (args := #[.pointer (some ⟨nb, 0, none⟩), .pointer (some ⟨eb, 0, none⟩)]) (by simp) (run_invoke_fn Tryd.func52 rfl (by decide +kernel)) ?_
 refine (catch_idle B w ha).mono ?_
 rintro e u' w' ⟨⟨r, rfl⟩, rfl, ha'⟩
 refine ⟨_, results_all hf.zero ha' (.cons (ResOk.rowN H.ag87 H.sz87 h2 hk.row rfl) (.cons (ResOk.cell H.ag27 h3 (he.cell (i := 0) rfl)) .nil)), h, ha', hR⟩
def ParseV (h h' : Heap) (s : By) (r : Value) : Prop := ∃ w, r = .tuple #[.agg (ndC (parseE s).1.kind (parseE s).1.set w).toArray, .int .i64 (parseE s).2] ∧ NdAt h' (blw h.size) (ndC (parseE s).1.kind (parseE s).1.set w) (parseE s).1
theorem parse_calls {h : Heap} {lim : Nat} (hg : Sg h lim) (hlim : lim ≤ h.size) (s : By) (hs : s.length ≤ 1000000) : CallsH Tryd.prog 32 #[.string (bs s)] h (Ret fun r h' => ParseV h h' s r ∧ Ext0 h h') := by
 have hsz := bs_size s
 refine CallsH.of Tryd.func32 rfl rfl ?_
 refine xr Tryd.func32 rfl ?_
 refine xo rfl (OpX.allocN H.zr87) ?_
 rintro _ h1 ⟨rfl, hk1, he1, hz1⟩
 refine xo rfl (OpX.allocN H.zr27) ?_
 rintro _ h2 ⟨rfl, hk2, he2, hz2⟩
 refine xd [0, 2, 3] rfl ?_
 refine G.seq rfl ?_
 refine xra Tryd.func32 1 rfl ?_
 refine xp rfl (OpP.lenString Tryd.underlying9 rfl) ?_
 refine xqd 1 [0, 2, 3, 7] rfl ?_
 have hk1 : Blk h1 h.size 87 zeroN := hk1
 have hk2 : Blk h2 h1.size 27 [.int .i64 0] := hk2
 have hk12 := hk1.ext0 he2
 have e2 := he1.trans he2
 refine G.ite rfl rfl (fun hbig => ?_) (fun hbig => ?_)
 · have hE : parseE s = (emptyNd, 3) := by unfold parseE; rw [if_pos (by omega)]
   refine xr Tryd.func32 rfl ?_
   refine xp rfl (OpP.build (H.bd87_ ) rfl) ?_
   refine RW.op0 rfl rfl rfl (OpX.storeBlk H.sz87 rfl rfl hk12 (by first | rfl | simp) (by first | decide | exact of_decide_eq_true rfl | (simp; done) | (simp; omega)) (by first | decide | simp [Value.oneCell'])) ?_
   rintro _ h3 ⟨rfl, hk3, hx3, hz3⟩
   refine RW.op0 rfl rfl rfl (OpX.storeOne H.sz27 rfl rfl (hk2.ext hx3 (by show ¬ _ = _; omega)) (by first | decide | exact of_decide_eq_true rfl | (simp; done) | (simp; omega)) rfl) ?_
   rintro _ h4 ⟨rfl, hk4, hx4, hz4⟩
   refine xd [0, 2, 3, 7] rfl ?_
   have hk3 : Blk h3 h.size 87 zeroN := hk3
   have hk4 : Blk h4 h1.size 27 [.int .i64 3] := hk4
   refine G.retC Tryd.func32 rfl (.cons (ResOk.rowN H.ag87 H.sz87 rfl ((hk3.ext hx4 (by show ¬ _ = _; omega)).row) (by first | rfl | simp)) (.cons (ResOk.cell H.ag27 rfl (hk4.cell (i := 0) rfl)) (.nil))) ?_
   refine ⟨_, rfl, ⟨.slice none 0 0, by rw [hE]; rfl, by rw [hE]; exact NdAt.leaf _ _ 0 0⟩, Ext0.only (Ext0.only e2 hx3 (Nat.le_refl _)) hx4 (by omega)⟩
 · refine G.skip rfl ?_
   refine G.seq rfl ?_
   refine G.defer1 (caps := [.pointer (some ⟨h.size, 0, none⟩), .pointer (some ⟨h1.size, 0, none⟩)]) Tryd.func32 rfl rfl rfl rfl rfl rfl rfl rfl rfl rfl rfl ?_
   have hE : parseE s = match parseP s with | some x => (x, 0) | none => (emptyNd, 10) := by unfold parseE; rw [if_neg (by omega)]; rfl
   refine GD.seq rfl ?_
   refine GD.reg Tryd.func32 rfl ?_
   refine RWD.pureS rfl rfl rfl rfl (OpP.move rfl) ?_
   refine RWD.pureS rfl rfl rfl rfl (OpP.build (H.bd129_0 _) rfl) ?_
   refine RWD.opS rfl rfl rfl rfl (OpX.boxN rfl) ?_
   rintro _ h3 ⟨rfl, hk3, he3, hz3⟩
   refine RWD.pureS rfl rfl rfl rfl (OpP.assign rfl) ?_
   refine RWD.done rfl ?_
   refine GD.sub (ρ' := [(0, _), (2, _), (3, _), (4, _), (7, _)]) ⟨rfl, rfl, rfl, rfl, rfl, trivial⟩ ?_
   refine GD.seq rfl ?_
   refine GD.reg Tryd.func32 rfl ?_
   refine RWD.pureS rfl rfl rfl rfl (OpP.move rfl) ?_
   have hk3 : Blk h3 h2.size 129 [.string (bs s)] := hk3
   have hg3 : Sg h3 lim := hg.ext (e2.trans he3) (fun _ k => k.elim)
   have hrows := rows_ok lim (s.length + 1) h3 h2.size s hg3 (by omega) hk3 (Nat.lt_succ_self _) hs
   have hk13 := hk12.ext0 he3
   have hk23 := hk2.ext0 he3
   have e3 := e2.trans he3
   refine RWD.opS rfl rfl rfl rfl (OpX.call (vs := [_]) Tryd.func53 rfl H.nm53 rfl (CallsH.toXP (hrows) ((fun _ h' ⟨hc, hp, hx⟩ => by rw [hc]; exact leave_none rfl rfl rfl (hk13.ext hx (by show ¬ _ = _; omega)) (hk23.ext hx (by show ¬ _ = _; omega)) (by omega) (fun h'' hx2 => ⟨_, rfl, ⟨.slice none 0 0, by rw [hE]; unfold parseP; rw [hp]; rfl, by rw [hE]; unfold parseP; rw [hp]; exact NdAt.leaf _ _ 0 0⟩, ⟨by have := hx.size; have := hx2.size; have := e3.size; omega, fun b hb _ => by rw [hx2.block b (by have := hx.size; omega) (by omega), hx.block b (by omega) (by show ¬ _ = _; omega)]; exact e3.block b hb (fun k => k)⟩⟩))))) ?_
   rintro _ h4 ⟨x, r, hp, ⟨w, rfl, hnd⟩, hs4, hx4⟩
   have hz4 := hx4.size
   have hk14 := hk13.ext hx4 (by show ¬ _ = _; omega)
   have hk24 := hk23.ext hx4 (by show ¬ _ = _; omega)
   have e4 : Ext0 h h4 := Ext0.only e3 hx4 (by omega)
   refine RWD.op0 rfl rfl rfl (OpX.storeBlk H.sz87 rfl rfl hk14 (by first | rfl | simp) (by first | decide | exact of_decide_eq_true rfl | (simp; done) | (simp; omega)) (NdAt.one hnd)) ?_
   rintro _ h5 ⟨rfl, hk5, hx5, hz5⟩
   refine RWD.done rfl ?_
   refine GD.sub (ρ' := [(0, _), (2, _), (3, _), (4, _), (7, _)]) ⟨rfl, rfl, rfl, rfl, rfl, trivial⟩ ?_
   refine GD.seq rfl ?_
   refine GD.seq rfl ?_
   refine GD.reg Tryd.func32 rfl ?_
   refine RWD.pureS rfl rfl rfl rfl (OpP.move rfl) ?_
   refine RWD.pureS rfl rfl rfl rfl (OpP.nilCheck rfl) ?_
   refine RWD.pureS rfl rfl rfl rfl (OpP.fieldAddr (off := 0) Tryd.underlying129 rfl rfl H.sz9 rfl) ?_
   have hk5 : Blk h5 h.size 87 (ndC x.kind x.set w) := hk5
   have hk25 := hk24.ext hx5 (by show ¬ _ = _; omega)
   have hs5 : St h5 h2.size r := Blk.ext hs4 hx5 (by show ¬ _ = _; omega)
   have hnd5 : NdAt h5 (blw h3.size) (ndC x.kind x.set w) x := NdAt.low hnd (Nat.le_refl _) hx5 (fun b _ (hb : b = h.size) => by omega)
   have e5 := Ext0.only e4 hx5 (Nat.le_refl _)
   refine RWD.pureS rfl rfl rfl rfl (OpP.load H.ag9 rfl hs5.cell) ?_
   refine RWD.pureS rfl rfl rfl rfl (OpP.neqStr rfl rfl) ?_
   refine RWD.done rfl ?_
   refine GD.sub (ρ' := [(0, _), (2, _), (3, _), (4, _), (7, _), (19, _)]) ⟨rfl, rfl, rfl, rfl, rfl, rfl, trivial⟩ ?_
   refine GD.ite rfl rfl (fun hr => ?_) (fun hr => ?_)
   · have hr : r ≠ [] := fun e => hr (by rw [e]; rfl)
     have hpn : parseP s = none := by
      unfold parseP; rw [hp]
      cases r with
      | nil => exact absurd rfl hr
      | cons c t => rfl
     refine GD.reg Tryd.func32 rfl ?_
     refine RWD.pureS rfl rfl rfl rfl (OpP.build (H.bd126_ ) rfl) ?_
     refine RWD.pureS rfl rfl rfl rfl (OpP.makeInterface H.cn126 rfl) ?_
     refine RWD.op0 rfl rfl rfl (OpX.panic (Φ := fun _ _ => False) rfl (leave_none rfl rfl rfl hk5 hk25 (by omega) (fun h'' hx2 => ⟨_, rfl, ⟨.slice none 0 0, by rw [hE, hpn]; rfl, by rw [hE, hpn]; exact NdAt.leaf _ _ 0 0⟩, ⟨by have := hx2.size; have := e5.size; omega, fun b hb _ => by rw [hx2.block b (by have := e5.size; omega) (by omega)]; exact e5.block b hb (fun k => k)⟩⟩))) ?_
     rintro _ _ hpn
     exact hpn.elim
   · obtain rfl : r = [] := bs_inj (Classical.not_not.1 hr)
     have hpn : parseP s = some x := by unfold parseP; rw [hp]
     refine GD.skip rfl ?_
     refine GD.seq rfl ?_
     refine GD.reg Tryd.func32 rfl ?_
     refine RWD.pureS rfl rfl rfl rfl (OpP.loadRowN H.ag87 H.sz87 rfl hk5.row (by first | rfl | simp)) ?_
     refine RWD.op0 rfl rfl rfl (OpX.storeBlk H.sz87 rfl rfl hk5 (by first | rfl | simp) (by first | decide | exact of_decide_eq_true rfl | (simp; done) | (simp; omega)) (NdAt.one hnd5)) ?_
     rintro _ h6 ⟨rfl, hk6, hx6, hz6⟩
     refine RWD.op0 rfl rfl rfl (OpX.storeOne H.sz27 rfl rfl (hk25.ext hx6 (by show ¬ _ = _; omega)) (by first | decide | exact of_decide_eq_true rfl | (simp; done) | (simp; omega)) rfl) ?_
     rintro _ h7 ⟨rfl, hk7, hx7, hz7⟩
     refine RWD.done rfl ?_
     refine GD.sub (ρ' := [(0, _), (2, _), (3, _), (4, _), (7, _), (19, _)]) ⟨rfl, rfl, rfl, rfl, rfl, rfl, trivial⟩ ?_
     have hk6 : Blk h6 h.size 87 (ndC x.kind x.set w) := hk6
     have hk7 : Blk h7 h1.size 27 [.int .i64 0] := hk7
     have hk17 := hk6.ext hx7 (by show ¬ _ = _; omega)
     have e7 := Ext0.only (Ext0.only e5 hx6 (Nat.le_refl _)) hx7 (by omega)
     have hnd7 : NdAt h7 (blw h.size) (ndC x.kind x.set w) x := NdAt.low (NdAt.low hnd5 (Nat.le_refl _) hx6 (fun b _ (hb : b = h.size) => by omega)) (by omega) hx7 (fun b _ (hb : b = h1.size) => by omega)
     refine GD.ret Tryd.func32 rfl ?_
     exact leave_idle rfl rfl hk17 hk7 ⟨_, rfl, ⟨w, by rw [hE, hpn], by rw [hE, hpn]; exact hnd7⟩, e7⟩
end Go.Proofs.YtlkmlfofhbekoaaDoor
