/- Memory: new blocks, stores, appends; what is read stays read. -/
import Derived.Test.YtmbikkapabljfaaDoorLwOps
namespace Go.Lw

/-- Nothing that was there has turned. -/
abbrev Ext0 (h h' : Heap) : Prop := Ext (fun _ => False) h h'

theorem Ext.push (M : Nat → Prop) (h : Heap) (o : Obj) : Ext M h (h.push o) :=
  ⟨by simp, fun b hb _ => by simp [Array.getElem?_push, Nat.ne_of_lt hb]⟩

theorem Ext0.of {M : Nat → Prop} {h h' : Heap} (e : Ext0 h h') : Ext M h h' := e.mono fun _ _ k => k.elim

theorem Ext.rowAt {M : Nat → Prop} {h h' : Heap} (e : Ext M h h') {b o : Nat} {cs : List Value} (hm : ¬ M b) (k : rowAt h b o cs) : rowAt h' b o cs :=
  fun j v hv => e.cell hm (k j v hv)

theorem cellAt_push_new (h : Heap) (cs : Array Value) (t : TypeId) (fr : Nat × Nat) (i : Nat) (v : Value) (hv : cs[i]? = some v) : cellAt (h.push (.cells cs t fr)) ⟨h.size, i, none⟩ = some v := by
  simp [cellAt, hv]

/-- The cell's value after a store. -/
def setC (h : Heap) (a : Addr) (v : Value) : Heap :=
  h.modify a.block fun
    | .cells c elem frozen => .cells (if a.spot.isSome then c else c.setIfInBounds a.off v) elem frozen
    | o => o

theorem At.setC {B : World} {h : Heap} {w : World} (k : At B h w) (a : Addr) (v : Value) : At B (setC h a v) (w.setCell a v) := by
  refine ⟨?_, k.os, k.tape, k.output⟩
  rw [← k.heap]; rfl

theorem setC_size (h : Heap) (a : Addr) (v : Value) : (setC h a v).size = h.size := by simp [setC]

theorem Ext.setC {M : Nat → Prop} (h : Heap) (a : Addr) (v : Value) (hm : M a.block) : Ext M h (setC h a v) :=
  ⟨by simp [setC_size], fun b _ hb => by
    have hne : ¬ a.block = b := fun e => hb (e ▸ hm)
    unfold Lw.setC
    rw [Array.getElem?_modify, if_neg hne]⟩

theorem setC_blk {h : Heap} {b o : Nat} {cs : Array Value} {t : TypeId} {fr : Nat × Nat} (hb : h[b]? = some (.cells cs t fr)) (v : Value) : (setC h ⟨b, o, none⟩ v)[b]? = some (.cells (cs.setIfInBounds o v) t fr) := by
  simp [setC, Array.getElem?_modify, hb]

section
variable {P : Program} {ρ : Env} {h : Heap} {dst : Option Nat} {ty : TypeId} {pos : String} {after : Array Edge} {guard : Option (Nat × Bool)} {X : List PanicEntry → Heap → Prop}

theorem OpX.ofRun {o : Oper} {v : Value} {h' : Heap} (k : ∀ n B a w, Fits n ρ a → At B h w → ∃ w', (execOp a.eval o).run P w = .ok (.value v) w' ∧ At B h' w') : OpX P o ρ h (fun u g => u = v ∧ g = h') X := by
  intro n B a w hf ha next Q hn _
  obtain ⟨w', hr, ha'⟩ := k n B a w hf ha
  unfold Oper.wp
  rw [hr]
  exact hn v h' w' ha' ⟨rfl, rfl⟩

theorem OpX.box {t : TypeId} {x : Operand} {v : Value} (hx : opd ρ x = some v) :
    OpX P ⟨dst, .box t x, ty, pos, after, guard⟩ ρ h (fun u g => u = .pointer (some ⟨h.size, 0, none⟩) ∧ g = h.push (.cells v.cells t)) X := by
  refine OpX.ofRun fun n B a w hf ha => ⟨{ w with heap := w.heap.push (.cells v.cells t) }, ?_, ?_⟩
  · simp [execOp, Instr.box, newVar, newRow, hf.eval hx, ha.heap]
  · rw [ha.heap]; exact ha.setHeap _

theorem OpX.alloc {t : TypeId} {z : Value} (hz : (P.info? t).bind (·.zero) = some z) :
    OpX P ⟨dst, .alloc t, ty, pos, after, guard⟩ ρ h (fun u g => u = .pointer (some ⟨h.size, 0, none⟩) ∧ g = h.push (.cells z.cells t)) X := by
  refine OpX.ofRun fun n B a w hf ha => ⟨{ w with heap := w.heap.push (.cells z.cells t) }, ?_, ?_⟩
  · cases hi : P.info? t with
    | none => simp [hi] at hz
    | some i =>
      simp [hi] at hz
      have e := ha.heap
      subst e
      simp [execOp, Instr.alloc, zeroValue, typeInfo, hi, hz, newVar, newRow]
  · rw [ha.heap]; exact ha.setHeap _

theorem OpX.store {t : TypeId} {x y : Operand} {p : Addr} {u v : Value} (hs : szOf P t = some 1) (hx : opd ρ x = some (.pointer (some p))) (hy : opd ρ y = some v) (h1 : v.oneCell' = true) (hc : cellAt h p = some u) (hfz : frozenAt h p = false) :
    OpX P ⟨dst, .store t x y, ty, pos, after, guard⟩ ρ h (fun u g => u = undef ∧ g = setC h p v) X := by
  intro n B a w hf ha next Q hn _
  have hcells : v.cells = #[v] := by cases v <;> simp [Value.oneCell'] at h1 <;> rfl
  have hrun : (execOp a.eval ⟨dst, .store t x y, ty, pos, after, guard⟩).run P w = .ok .skip (w.setCell p v) := by
    simp [execOp, Instr.storeAt, Instr.sureAddr, storeVar, run_sizeOf hs, hf.eval hx, hf.eval hy, hcells, storeCells, run_store P w p v .plain h1, ha.cell, hc, ha.frozen, hfz, Addr.add]
  unfold Oper.wp
  rw [hrun]
  exact hn undef _ _ (ha.setC p v) ⟨rfl, rfl⟩

end

/-! ### A row of the call's own -/

def OwnH (h : Heap) (base : Nat) (e : TypeId) (size : Nat) (v : Value) (n : Nat) (xs : List Value) : Prop :=
  xs.length = n * size ∧
  ((v = .slice none 0 0 ∧ n = 0) ∨
   ∃ g cap cur, v = .slice (some ⟨g, 0, none⟩) n cap ∧ base ≤ g ∧ h[g]? = some (.cells cur e (0, 0)) ∧ n ≤ cap ∧ cap ≤ maxLen ∧ cur.size = cap * size ∧ cur.toList.take (n * size) = xs)

theorem At.own {B : World} {h : Heap} {w : World} (k : At B h w) {base : Nat} {e : TypeId} {size : Nat} {v : Value} {n : Nat} {xs : List Value} : w.ownsRow base e size v n xs ↔ OwnH h base e size v n xs := by
  rw [← k.heap]; rfl

/-- All but one block. -/
def but (r : Option Nat) : Nat → Prop := fun b => some b = r

theorem ext_of_grown {w w' : World} {r : Option Nat} (g : w.grownBy w' r) : Ext (but r) w.heap w'.heap := ⟨g.size, fun b hb hm => g.block b hb hm⟩

theorem At.grown {B : World} {h : Heap} {w w' : World} {r : Option Nat} (k : At B h w) (g : w.grownBy w' r) : At B w'.heap w' := ⟨rfl, g.os.trans k.os, g.tape.trans k.tape, g.output.trans k.output⟩

theorem OwnH.ext {M : Nat → Prop} {h h' : Heap} (x : Ext M h h') {base : Nat} {e : TypeId} {size : Nat} {v : Value} {n : Nat} {xs : List Value} (k : OwnH h base e size v n xs) (hm : ∀ b, v.ownBlock = some b → ¬ M b) : OwnH h' base e size v n xs := by
  refine ⟨k.1, ?_⟩
  rcases k.2 with hn | ⟨g, cap, cur, rfl, hb, hgg, rest⟩
  · exact .inl hn
  · refine .inr ⟨g, cap, cur, rfl, hb, ?_, rest⟩
    rw [x.block g (Array.getElem?_eq_some_iff.1 hgg).1 (hm g rfl)]; exact hgg

theorem OwnH.nil (h : Heap) (base : Nat) (e : TypeId) (size : Nat) : OwnH h base e size (.slice none 0 0) 0 [] := ⟨by simp, .inl ⟨rfl, rfl⟩⟩

theorem OwnH.lower {h : Heap} {base base' : Nat} {e : TypeId} {size : Nat} {v : Value} {n : Nat} {xs : List Value} (k : OwnH h base e size v n xs) (hb : base' ≤ base) : OwnH h base' e size v n xs := by
  refine ⟨k.1, ?_⟩
  rcases k.2 with hn | ⟨g, cap, cur, hv, h1, rest⟩
  · exact .inl hn
  · exact .inr ⟨g, cap, cur, hv, Nat.le_trans hb h1, rest⟩

section
variable {P : Program} {ρ : Env} {h : Heap} {dst : Option Nat} {ty : TypeId} {pos : String} {after : Array Edge} {guard : Option (Nat × Bool)} {X : List PanicEntry → Heap → Prop}

/-- What is known of an element type. -/
structure ElemT (P : Program) (e : TypeId) (size bytes : Nat) : Prop where
  ex : ∃ i z, P.info? e = some i ∧ i.zero = some z ∧ i.size = size ∧ i.bytes = bytes ∧ z.cells.size = size
  pos : 0 < size

theorem run_append_own2 (w : World) (base : Nat) (t ty e : TypeId) (size bytes : Nat) (ht : P.underlying t = some (.slice e)) (he : ElemT P e size bytes)
    (v : Value) (n : Nat) (xs : List Value) (hown : w.ownsRow base e size v n xs)
    (a : Addr) (m c : Nat) (news : List Value) (hl : news.length = m * size) (hnews : ∀ j u, news[j]? = some u → w.cell? (a.add j) = some u) (h1 : ∀ u ∈ news, u.oneCell' = true)
    (h63 : n + m ≤ maxLen) (hbytes : (n + m) * bytes ≤ 140737488355328) (hbase : base ≤ w.heap.size) :
    ∃ v' w', (Builtin.append_ #[t, t] ty #[v, .slice (some a) m c]).run P w = .ok v' w' ∧ w'.ownsRow base e size v' (n + m) (xs ++ news) ∧ w.grownBy w' v.ownBlock ∧
      (v' = .slice none 0 0 ↔ v = .slice none 0 0 ∧ m = 0) ∧ (∀ b, v'.ownBlock = some b → v.ownBlock = some b ∨ w.heap.size ≤ b) := by
  obtain ⟨⟨i, z, hi, hz, rfl, rfl, hzs⟩, hsz⟩ := he
  have hsmall : n + m ≤ 9223372036854775807 := by simp only [maxLen] at h63; omega
  have hlen : (xs ++ news).length = (n + m) * i.size := by rw [List.length_append, hown.1, hl, Nat.add_mul]
  have grown : ∀ (old : Nat), old < n + m → ∀ (row : Option Nat),
      (w.drew.alloc (.cells (xs.toArray ++ news.toArray ++ Builtin.zeroCells z.cells (grownCap w (n + m) old e - (n + m))) e)).ownsRow base e i.size
        (.slice (some ⟨w.heap.size, 0, none⟩) (n + m) (grownCap w (n + m) old e)) (n + m) (xs ++ news) ∧
      w.grownBy (w.drew.alloc (.cells (xs.toArray ++ news.toArray ++ Builtin.zeroCells z.cells (grownCap w (n + m) old e - (n + m))) e)) row := by
    intro old ho row
    have hge := grownCap_ge w (n + m) old e
    have hcm : grownCap w (n + m) old e ≤ maxLen := grownCap_le_maxLen w (n + m) old e h63
    refine ⟨⟨hlen, .inr ⟨w.heap.size, _, _, rfl, hbase, heap_alloc_new w.drew _, hge, hcm, ?_, ?_⟩⟩, ⟨rfl, rfl, rfl, by simp, fun k hk _ => heap_alloc_old w.drew _ k hk⟩⟩
    · simp only [Array.size_append, List.size_toArray, size_zeroCells, hzs, hown.1, hl, ← Nat.add_mul]
      congr 1
      omega
    · simp only [Array.toList_append, List.append_assoc]
      rw [← List.append_assoc, ← hlen]
      exact List.take_left
  rcases hown.2 with ⟨rfl, rfl⟩ | ⟨g, cap, cur, rfl, hbg, hg, hnc, hcm, hcs, htake⟩
  · have hx : xs = [] := List.eq_nil_of_length_eq_zero (by simpa using hown.1)
    subst hx
    by_cases hm : m = 0
    · subst hm
      have hn : news = [] := List.eq_nil_of_length_eq_zero (by simpa using hl)
      subst hn
      refine ⟨.slice none 0 0, w, ?_, World.ownsRow_nil w base e i.size, ⟨rfl, rfl, rfl, Nat.le_refl _, fun _ _ _ => rfl⟩, by simp, by simp [Value.ownBlock]⟩
      simp [Builtin.append_, run_underlying ht, sizeOf, typeInfo, hi, Builtin.lenOf, Builtin.firstCells, loadCells, loadCellsFrom]
    · have hr := run_append_nil (P := P) w t ty e i z ht hi hz a m c news hl hnews (by omega) (by omega) (by have hb := hbytes; simp only [Nat.zero_add] at hb; omega)
      have hgr := grown 0 (by omega) (Value.ownBlock (.slice none 0 0))
      simp only [Nat.zero_add, List.nil_append, Array.empty_append] at hgr ⊢
      exact ⟨_, _, hr, hgr.1, hgr.2, by simp [hm], fun b hb => .inr (by simp [Value.ownBlock] at hb; omega)⟩
  · by_cases hroom : n + m ≤ cap
    · have hfit : n * i.size + news.length ≤ cur.size := by rw [hl, hcs, ← Nat.add_mul]; exact Nat.mul_le_mul_right _ hroom
      have hr := run_append_room (P := P) w t ty e i ht hi g n cap cur hg a m c news hl hnews h1 hroom hfit
      refine ⟨_, _, hr, ⟨hlen, .inr ⟨g, cap, _, rfl, hbg, setRow_heap w g cur _ e _ hg, hroom, hcm, ?_, ?_⟩⟩, ⟨rfl, rfl, rfl, by simp, fun k _ hk => setRow_other w g k _ (fun e => hk (by simp [Value.ownBlock, e]))⟩, by simp, fun b hb => .inl hb⟩
      · simp only [List.size_toArray, List.length_append, List.length_take, List.length_drop, Array.length_toList]
        omega
      · rw [htake, ← hlen]
        exact List.take_left
    · have holds : ∀ j u, xs[j]? = some u → w.cell? ((⟨g, 0, none⟩ : Addr).add j) = some u := hown.cells (g := g) rfl
      have hr := run_append_grow (P := P) w t ty e i z ht hi hz ⟨g, 0, none⟩ n cap xs hown.1 holds a m c news hl hnews (by omega) (by omega) (growslice_fits (by omega) hbytes)
      have hgr := grown cap (by omega) (Value.ownBlock (.slice (some ⟨g, 0, none⟩) n cap))
      exact ⟨_, _, hr, hgr.1, hgr.2, by simp, fun b hb => .inr (by simp [Value.ownBlock] at hb; omega)⟩

theorem OpX.append {t e : TypeId} {size bytes : Nat} {x y : Operand} {v : Value} {n : Nat} {xs news : List Value} {oa : Option Addr} {m c base : Nat} (ht : P.underlying t = some (.slice e)) (he : ElemT P e size bytes)
    (hx : opd ρ x = some v) (hy : opd ρ y = some (.slice oa m c)) (hown : OwnH h base e size v n xs) (hl : news.length = m * size)
    (hnews : m = 0 ∨ ∃ b o, oa = some ⟨b, o, none⟩ ∧ rowAt h b o news) (h1 : ∀ u ∈ news, u.oneCell' = true)
    (h63 : n + m ≤ maxLen) (hbytes : (n + m) * bytes ≤ 140737488355328) (hbase : base ≤ h.size) :
    OpX P ⟨dst, .call ⟨.builtin .append, #[x, y], #[t, t]⟩, ty, pos, after, guard⟩ ρ h (fun v' h' => OwnH h' base e size v' (n + m) (xs ++ news) ∧ Ext (but v.ownBlock) h h' ∧ (v' = .slice none 0 0 ↔ v = .slice none 0 0 ∧ m = 0) ∧ (∀ b, v'.ownBlock = some b → v.ownBlock = some b ∨ h.size ≤ b)) X := by
  intro nn B a w hf ha next Q hn _
  have hw : w.ownsRow base e size v n xs := ha.own.2 hown
  rcases hnews with rfl | ⟨b, o, rfl, hrow⟩
  · have hn0 : news = [] := List.eq_nil_of_length_eq_zero (by simpa using hl)
    subst hn0
    have hrun : (execOp a.eval ⟨dst, .call ⟨.builtin .append, #[x, y], #[t, t]⟩, ty, pos, after, guard⟩).run P w = .ok (.value v) w := by
      obtain ⟨⟨i, z, hi, hz, hsz, hby, hzs⟩, hpos⟩ := he
      rcases hown.2 with ⟨rfl, rfl⟩ | ⟨g, cap, cur, rfl, hb, hgg, hle, rest⟩ <;> cases oa
      · simp [execOp, resolve, invoke, builtin, hf.eval hx, hf.eval hy, Builtin.append_, run_underlying ht, sizeOf, typeInfo, hi, Builtin.lenOf, Builtin.firstCells]
      · simp [execOp, resolve, invoke, builtin, hf.eval hx, hf.eval hy, Builtin.append_, run_underlying ht, sizeOf, typeInfo, hi, Builtin.lenOf, Builtin.firstCells, loadCells, loadCellsFrom]
      · simp [execOp, resolve, invoke, builtin, hf.eval hx, hf.eval hy, Builtin.append_, run_underlying ht, sizeOf, typeInfo, hi, Builtin.lenOf, Builtin.firstCells, hle, storeCells]
      · simp [execOp, resolve, invoke, builtin, hf.eval hx, hf.eval hy, Builtin.append_, run_underlying ht, sizeOf, typeInfo, hi, Builtin.lenOf, Builtin.firstCells, loadCells, loadCellsFrom, hle, storeCells]
    unfold Oper.wp
    rw [hrun]
    exact hn v h w ha ⟨by simpa using hown, Ext.refl _ _, by simp, fun b hb => .inl hb⟩
  · obtain ⟨v', w', hr, h2, h3, h4, h5⟩ := run_append_own2 (P := P) w base t ty e size bytes ht he v n xs hw ⟨b, o, none⟩ m c news hl (fun j u hu => by rw [Addr.add_mid, ha.cell]; exact hrow j u hu) h1 h63 hbytes (by rw [ha.heap]; exact hbase)
    unfold Oper.wp execOp
    simp only [resolve, invoke, builtin, Sem.run_bind, Sem.run_pure, Result.andThen_ok, List.map_toArray, List.map_cons, List.map_nil, hf.eval hx, hf.eval hy, hr]
    refine hn v' w'.heap w' (ha.grown h3) ⟨(At.own (ha.grown h3)).1 h2, ?_, h4, ?_⟩
    · rw [← ha.heap]; exact ext_of_grown h3
    · rw [← ha.heap]; exact h5

theorem map_parts {ρ : Env} {n : Nat} {a : Act} (hf : Fits n ρ a) {ps : Array (Nat × Operand)} {vs : List (Nat × Value)} (h : ps.toList.map (fun p => (p.1, opd ρ p.2)) = vs.map (fun p => (p.1, some p.2))) :
    (ps.map fun (i, x) => (i, a.eval x)) = vs.toArray := by
  apply Array.ext'
  simp only [Array.toList_map]
  generalize ps.toList = l at h
  revert vs
  induction l with
  | nil => intro vs h; cases vs <;> simp_all
  | cons p r ih =>
    intro vs h
    cases vs with
    | nil => simp at h
    | cons q us =>
      obtain ⟨i, x⟩ := p
      obtain ⟨j, v⟩ := q
      simp only [List.map_cons, List.cons.injEq, Prod.mk.injEq] at h ⊢
      exact ⟨⟨h.1.1, hf.eval h.1.2⟩, ih h.2⟩

theorem OpX.buildSlice {t e : TypeId} {size bytes len : Nat} {ps : Array (Nat × Operand)} {vs : List (Nat × Value)} {cells : Array Value} (ht : P.underlying t = some (.slice e)) (he : ElemT P e size bytes)
    (hps : ps.toList.map (fun p => (p.1, opd ρ p.2)) = vs.map (fun p => (p.1, some p.2))) (hlen : len * size ≤ 16777216)
    (hfill : ∀ z : Array Value, z.size = size → Instr.fill (fun i => some (i * size, size)) ((Array.range (len * size)).map (z[· % z.size]!)) vs = some cells) :
    OpX P ⟨dst, .buildSlice t len ps, ty, pos, after, guard⟩ ρ h (fun u g => u = .slice (some ⟨h.size, 0, none⟩) len len ∧ g = h.push (.cells cells e)) X := by
  obtain ⟨⟨i, z, hi, hz, rfl, rfl, hzs⟩, hsz⟩ := he
  refine OpX.ofRun fun n B a w hf ha => ?_
  have e := ha.heap
  subst e
  refine ⟨{ w with heap := w.heap.push (.cells cells _) }, ?_, ha.setHeap _⟩
  have hmp := map_parts hf hps
  have hle : ¬ (len * i.size > 2 ^ 24) := by omega
  by_cases h0 : len * i.size = 0
  · have hf0 := hfill z.cells hzs
    rw [h0] at hf0
    have hr0 : ∀ f : Nat → Value, (Array.range 0).map f = #[] := fun f => by apply Array.ext'; simp
    have hf1 : Instr.fill (fun j => some (j * i.size, i.size)) #[] vs = some cells := by rw [hr0] at hf0; exact hf0
    simp only [execOp, hmp, Instr.buildSlice, Sem.run_bind, run_underlying ht, Result.andThen_ok, sizeOf, typeInfo, run_program, hi, Sem.run_pure, if_neg hle]
    simp [h0, hr0, hf1, newRow]
  · simp only [execOp, hmp, Instr.buildSlice, Sem.run_bind, run_underlying ht, Result.andThen_ok, sizeOf, typeInfo, run_program, hi, Sem.run_pure, if_neg hle, if_neg h0]
    have hf0 := hfill z.cells hzs
    simp [zeroValue, typeInfo, hi, hz, hf0, newRow]

/-- Values of one cell each, one behind the other. -/
theorem fill_ones : ∀ (us : List Value), (∀ u ∈ us, u.oneCell' = true) → ∀ (k : Nat) (pre : List Value) (tl : List Value), pre.length = k → tl.length = us.length →
    Instr.fill (fun i => some (i * 1, 1)) (pre ++ tl).toArray (us.zipIdx k |>.map fun p => (p.2, p.1)) = some (pre ++ us).toArray
  | [], _, k, pre, tl, _, hl => by
    have : tl = [] := List.eq_nil_of_length_eq_zero (by simpa using hl)
    subst this; simp [Instr.fill]
  | u :: us, h1, k, pre, tl, hp, hl => by
    cases tl with
    | nil => simp at hl
    | cons t tl =>
      have hu : u.cells = #[u] := by have := h1 u (by simp); cases u <;> simp [Value.oneCell'] at this <;> rfl
      have ih := fill_ones us (fun v hv => h1 v (by simp [hv])) (k + 1) (pre ++ [u]) tl (by simp [hp]) (by simpa using hl)
      simp only [List.zipIdx_cons, List.map_cons, Instr.fill, hu, Nat.mul_one]
      have h2 : ¬ ((#[u] : Array Value).size ≠ 1 ∨ k + (#[u] : Array Value).size > (pre ++ t :: tl).toArray.size) := by simp; omega
      simp only [List.append_assoc, List.singleton_append, Nat.mul_one] at ih
      have hset : (pre ++ t :: tl).toArray.setIfInBounds k u = (pre ++ u :: tl).toArray := by
        subst hp
        simp [List.set_append_right]
      simp [hset, ih]
      omega

/-- 'buildSlice' of elements of one cell, written out in order. -/
theorem OpX.buildOnes {t e : TypeId} {bytes len : Nat} {ps : Array (Nat × Operand)} {us : List Value} (ht : P.underlying t = some (.slice e)) (he : ElemT P e 1 bytes)
    (hps : ps.toList.map (fun p => (p.1, opd ρ p.2)) = (us.zipIdx.map fun p => (p.2, p.1)).map (fun p => (p.1, some p.2))) (hl : us.length = len) (hlen : len ≤ 16777216) (h1 : ∀ u ∈ us, u.oneCell' = true) :
    OpX P ⟨dst, .buildSlice t len ps, ty, pos, after, guard⟩ ρ h (fun u g => u = .slice (some ⟨h.size, 0, none⟩) len len ∧ g = h.push (.cells us.toArray e)) X := by
  refine OpX.buildSlice ht he hps (by omega) fun z hz => ?_
  have := fill_ones us h1 0 [] ((List.range (len * 1)).map (fun j => z[j % z.size]!)) rfl (by simp [hl])
  simp only [List.nil_append] at this
  rw [← this]
  congr 1
  apply Array.ext'
  simp

end
end Go.Lw
