/- The operations, one by one. -/
import Derived.Test.YtmbikkapabljfaaDoorLwG
import Derived.Laws.AppendOwn
import Derived.Deep.MidRow
import Derived.Laws.MakeOwn
import Derived.IntWalk
import Derived.Laws.Strings
namespace Go.Lw

def szOf (P : Program) (t : TypeId) : Option Nat := (P.info? t).map (·.size)

theorem run_sizeOf {P : Program} {t : TypeId} {n : Nat} (h : szOf P t = some n) (w : World) : (sizeOf t).run P w = .ok n w := by
  unfold szOf at h
  cases hi : P.info? t with
  | none => simp [hi] at h
  | some i => simp [hi] at h; simp [sizeOf, typeInfo, hi, h]

def isRowT (P : Program) (t : TypeId) : Option Bool := (P.underlying t).map TypeDesc.isRow

theorem run_isAgg' {P : Program} {t : TypeId} {b : Bool} (h : isRowT P t = some b) (w : World) : (isAgg t).run P w = .ok b w := by
  unfold isRowT at h
  cases hi : P.underlying t with
  | none => simp [hi] at h
  | some d =>
    simp [hi] at h; subst h
    unfold isAgg
    rw [Sem.run_bind, run_underlying hi w]
    cases d <;> simp [TypeDesc.isRow]

section
variable {P : Program} {ρ : Env} {h : Heap} {dst : Option Nat} {ty : TypeId} {pos : String} {after : Array Edge} {guard : Option (Nat × Bool)}

theorem OpP.move {x : Operand} {v : Value} (hx : opd ρ x = some v) : OpP P ⟨dst, .move x, ty, pos, after, guard⟩ ρ h v := by
  intro n B a w hf _
  simp [execOp, hf.eval hx]

theorem OpP.assign {x : Operand} {v : Value} (hx : opd ρ x = some v) : OpP P ⟨dst, .assign x, ty, pos, after, guard⟩ ρ h v := by
  intro n B a w hf _
  simp [execOp, hf.eval hx]

theorem OpP.pickT {c x y : Operand} {v : Value} (hc : opd ρ c = some (.bool true)) (hx : opd ρ x = some v) : OpP P ⟨dst, .pick c x y, ty, pos, after, guard⟩ ρ h v := by
  intro n B a w hf _
  simp [execOp, hf.eval hc, hf.eval hx, asBool]

theorem OpP.pickF {c x y : Operand} {v : Value} (hc : opd ρ c = some (.bool false)) (hy : opd ρ y = some v) : OpP P ⟨dst, .pick c x y, ty, pos, after, guard⟩ ρ h v := by
  intro n B a w hf _
  simp [execOp, hf.eval hc, hf.eval hy, asBool]

theorem OpP.extract {x : Operand} {vs : Array Value} {i : Nat} {v : Value} (hx : opd ρ x = some (.tuple vs)) (hi : vs[i]? = some v) : OpP P ⟨dst, .extract x i, ty, pos, after, guard⟩ ρ h v := by
  intro n B a w hf _
  simp [execOp, hf.eval hx, Instr.extract, hi]

theorem OpP.nilCheck {x : Operand} {a : Addr} (hx : opd ρ x = some (.pointer (some a))) : OpP P ⟨dst, .nilCheck x, ty, pos, after, guard⟩ ρ h (.pointer (some a)) := by
  intro n B a w hf _
  simp [execOp, hf.eval hx]

/-! len, cap, min, max -/

theorem OpP.lenSlice {t e : TypeId} {x : Operand} {oa : Option Addr} {n c : Nat} (hu : P.underlying t = some (.slice e)) (hx : opd ρ x = some (.slice oa n c)) :
    OpP P ⟨dst, .call ⟨.builtin .len, #[x], #[t]⟩, ty, pos, after, guard⟩ ρ h (.int .i64 n) := by
  intro _ B a w hf _
  simp [execOp, resolve, invoke, builtin, Builtin.len_, run_underlying hu, hf.eval hx, goInt]

theorem OpP.lenString {t : TypeId} {x : Operand} {s : ByteArray} (hu : P.underlying t = some .string) (hx : opd ρ x = some (.string s)) :
    OpP P ⟨dst, .call ⟨.builtin .len, #[x], #[t]⟩, ty, pos, after, guard⟩ ρ h (.int .i64 s.size) := by
  intro _ B a w hf _
  simp [execOp, resolve, invoke, builtin, Builtin.len_, run_underlying hu, hf.eval hx, goInt]

theorem OpP.lenArray {t e : TypeId} {n : Nat} {x : Operand} {v : Value} (hu : P.underlying t = some (.array n e)) (hx : opd ρ x = some v) :
    OpP P ⟨dst, .call ⟨.builtin .len, #[x], #[t]⟩, ty, pos, after, guard⟩ ρ h (.int .i64 n) := by
  intro _ B a w hf _
  simp [execOp, resolve, invoke, builtin, Builtin.len_, run_underlying hu, hf.eval hx, goInt]

theorem OpP.min2 {x y : Operand} {k k' : IntKind} {i j : Int} {ts : Array TypeId} (hx : opd ρ x = some (.int k i)) (hy : opd ρ y = some (.int k' j)) :
    OpP P ⟨dst, .call ⟨.builtin .min, #[x, y], ts⟩, ty, pos, after, guard⟩ ρ h (.int k (if j < i then j else i)) := by
  intro _ B a w hf _
  simp [execOp, resolve, invoke, builtin, Builtin.min_, Builtin.min2, hf.eval hx, hf.eval hy]

theorem OpP.max2 {x y : Operand} {k k' : IntKind} {i j : Int} {ts : Array TypeId} (hx : opd ρ x = some (.int k i)) (hy : opd ρ y = some (.int k' j)) :
    OpP P ⟨dst, .call ⟨.builtin .max, #[x, y], ts⟩, ty, pos, after, guard⟩ ρ h (.int k (if i < j then j else i)) := by
  intro _ B a w hf _
  simp [execOp, resolve, invoke, builtin, Builtin.max_, Builtin.max2, hf.eval hx, hf.eval hy]

/-! integers -/

theorem beq_dec (i j : Int) : (i == j) = decide (i = j) := by
  rw [Bool.eq_iff_iff]; simp


theorem wrap_i64 {i : Int} (hi : -9223372036854775808 ≤ i ∧ i ≤ 9223372036854775807) : IntKind.i64.wrap i = i := by
  have h64 : (2:Int) ^ 64 = 18446744073709551616 := rfl
  have h63 : (2:Int) ^ (64 - 1) = 9223372036854775808 := rfl
  simp only [IntKind.wrap, IntKind.bits, IntKind.signed, h64, h63, Bool.true_and, decide_eq_true_eq]
  split <;> omega

theorem OpP.add {t yt : TypeId} {x y : Operand} {k : IntKind} {i j : Int} (hx : opd ρ x = some (.int k i)) (hy : opd ρ y = some (.int k j)) :
    OpP P ⟨dst, .binOp .add t x y yt, ty, pos, after, guard⟩ ρ h (.int k (k.wrap (i + j))) := by
  intro _ B a w hf _
  simp [execOp, eqGuard, binOp, Op.intArith, hf.eval hx, hf.eval hy]

theorem OpP.sub {t yt : TypeId} {x y : Operand} {k : IntKind} {i j : Int} (hx : opd ρ x = some (.int k i)) (hy : opd ρ y = some (.int k j)) :
    OpP P ⟨dst, .binOp .sub t x y yt, ty, pos, after, guard⟩ ρ h (.int k (k.wrap (i - j))) := by
  intro _ B a w hf _
  simp [execOp, eqGuard, binOp, Op.intArith, hf.eval hx, hf.eval hy]

theorem OpP.mul {t yt : TypeId} {x y : Operand} {k : IntKind} {i j : Int} (hx : opd ρ x = some (.int k i)) (hy : opd ρ y = some (.int k j)) :
    OpP P ⟨dst, .binOp .mul t x y yt, ty, pos, after, guard⟩ ρ h (.int k (k.wrap (i * j))) := by
  intro _ B a w hf _
  simp [execOp, eqGuard, binOp, Op.intArith, hf.eval hx, hf.eval hy]

theorem OpP.add64 {t yt : TypeId} {x y : Operand} {i j : Int} (hx : opd ρ x = some (.int .i64 i)) (hy : opd ρ y = some (.int .i64 j)) (hb : -9223372036854775808 ≤ i + j ∧ i + j ≤ 9223372036854775807) :
    OpP P ⟨dst, .binOp .add t x y yt, ty, pos, after, guard⟩ ρ h (.int .i64 (i + j)) := by
  have := OpP.add (P := P) (h := h) (dst := dst) (ty := ty) (pos := pos) (after := after) (guard := guard) (t := t) (yt := yt) hx hy
  rwa [wrap_i64 hb] at this

theorem OpP.sub64 {t yt : TypeId} {x y : Operand} {i j : Int} (hx : opd ρ x = some (.int .i64 i)) (hy : opd ρ y = some (.int .i64 j)) (hb : -9223372036854775808 ≤ i - j ∧ i - j ≤ 9223372036854775807) :
    OpP P ⟨dst, .binOp .sub t x y yt, ty, pos, after, guard⟩ ρ h (.int .i64 (i - j)) := by
  have := OpP.sub (P := P) (h := h) (dst := dst) (ty := ty) (pos := pos) (after := after) (guard := guard) (t := t) (yt := yt) hx hy
  rwa [wrap_i64 hb] at this

theorem OpP.mul64 {t yt : TypeId} {x y : Operand} {i j : Int} (hx : opd ρ x = some (.int .i64 i)) (hy : opd ρ y = some (.int .i64 j)) (hb : -9223372036854775808 ≤ i * j ∧ i * j ≤ 9223372036854775807) :
    OpP P ⟨dst, .binOp .mul t x y yt, ty, pos, after, guard⟩ ρ h (.int .i64 (i * j)) := by
  have := OpP.mul (P := P) (h := h) (dst := dst) (ty := ty) (pos := pos) (after := after) (guard := guard) (t := t) (yt := yt) hx hy
  rwa [wrap_i64 hb] at this

theorem OpP.quo {t yt : TypeId} {x y : Operand} {k : IntKind} {i j : Int} (hx : opd ρ x = some (.int k i)) (hy : opd ρ y = some (.int k j)) (hj : j ≠ 0) :
    OpP P ⟨dst, .binOp .quo t x y yt, ty, pos, after, guard⟩ ρ h (.int k (k.wrap (i.tdiv j))) := by
  intro _ B a w hf _
  simp [execOp, eqGuard, binOp, Op.intDiv, hf.eval hx, hf.eval hy, hj]

theorem OpP.rem {t yt : TypeId} {x y : Operand} {k : IntKind} {i j : Int} (hx : opd ρ x = some (.int k i)) (hy : opd ρ y = some (.int k j)) (hj : j ≠ 0) :
    OpP P ⟨dst, .binOp .rem t x y yt, ty, pos, after, guard⟩ ρ h (.int k (i.tmod j)) := by
  intro _ B a w hf _
  simp [execOp, eqGuard, binOp, Op.intDiv, hf.eval hx, hf.eval hy, hj]

theorem OpP.lss {t yt : TypeId} {x y : Operand} {k : IntKind} {i j : Int} (hx : opd ρ x = some (.int k i)) (hy : opd ρ y = some (.int k j)) :
    OpP P ⟨dst, .binOp .lss t x y yt, ty, pos, after, guard⟩ ρ h (.bool (decide (i < j))) := by
  intro _ B a w hf _
  simp [execOp, eqGuard, binOp, Op.intCmp, hf.eval hx, hf.eval hy]

theorem OpP.leq {t yt : TypeId} {x y : Operand} {k : IntKind} {i j : Int} (hx : opd ρ x = some (.int k i)) (hy : opd ρ y = some (.int k j)) :
    OpP P ⟨dst, .binOp .leq t x y yt, ty, pos, after, guard⟩ ρ h (.bool (decide (i ≤ j))) := by
  intro _ B a w hf _
  simp [execOp, eqGuard, binOp, Op.intCmp, hf.eval hx, hf.eval hy]

theorem OpP.gtr {t yt : TypeId} {x y : Operand} {k : IntKind} {i j : Int} (hx : opd ρ x = some (.int k i)) (hy : opd ρ y = some (.int k j)) :
    OpP P ⟨dst, .binOp .gtr t x y yt, ty, pos, after, guard⟩ ρ h (.bool (decide (j < i))) := by
  intro _ B a w hf _
  simp [execOp, eqGuard, binOp, Op.intCmp, hf.eval hx, hf.eval hy]

theorem OpP.geq {t yt : TypeId} {x y : Operand} {k : IntKind} {i j : Int} (hx : opd ρ x = some (.int k i)) (hy : opd ρ y = some (.int k j)) :
    OpP P ⟨dst, .binOp .geq t x y yt, ty, pos, after, guard⟩ ρ h (.bool (decide (j ≤ i))) := by
  intro _ B a w hf _
  simp [execOp, eqGuard, binOp, Op.intCmp, hf.eval hx, hf.eval hy]

theorem OpP.eqlInt {t yt : TypeId} {x y : Operand} {k : IntKind} {i j : Int} (hx : opd ρ x = some (.int k i)) (hy : opd ρ y = some (.int k j)) :
    OpP P ⟨dst, .binOp .eql t x y yt, ty, pos, after, guard⟩ ρ h (.bool (decide (i = j))) := by
  intro _ B a w hf _
  simp [execOp, eqGuard, binOp, Op.intCmp, hf.eval hx, hf.eval hy, beq_dec]

theorem OpP.neqInt {t yt : TypeId} {x y : Operand} {k : IntKind} {i j : Int} (hx : opd ρ x = some (.int k i)) (hy : opd ρ y = some (.int k j)) :
    OpP P ⟨dst, .binOp .neq t x y yt, ty, pos, after, guard⟩ ρ h (.bool (decide (¬ i = j))) := by
  intro _ B a w hf _
  simp [execOp, eqGuard, binOp, Op.intCmp, hf.eval hx, hf.eval hy, bne, beq_dec]

theorem OpP.notB {t : TypeId} {x : Operand} {b : Bool} (hx : opd ρ x = some (.bool b)) :
    OpP P ⟨dst, .unOp .not t x, ty, pos, after, guard⟩ ρ h (.bool (!b)) := by
  intro _ B a w hf _
  simp [execOp, Op.unary, hf.eval hx]

theorem OpP.convInt {s d : TypeId} {ds : TypeDesc} {x : Operand} {k k' : IntKind} {i : Int} (hds : P.underlying s = some ds) (hd : P.underlying d = some (.int k')) (hx : opd ρ x = some (.int k i)) :
    OpP P ⟨dst, .convert s d x, ty, pos, after, guard⟩ ρ h (.int k' (k'.wrap i)) := by
  intro _ B a w hf _
  simp [execOp, convert, run_underlying hd, run_underlying hds, Conv.intToInt, hf.eval hx]

theorem OpP.convIn {s d : TypeId} {ds : TypeDesc} {x : Operand} {k k' : IntKind} {i : Int} (hds : P.underlying s = some ds) (hd : P.underlying d = some (.int k')) (hx : opd ρ x = some (.int k i)) (hw : k'.wrap i = i) :
    OpP P ⟨dst, .convert s d x, ty, pos, after, guard⟩ ρ h (.int k' i) := by
  have := OpP.convInt (P := P) (h := h) (dst := dst) (ty := ty) (pos := pos) (after := after) (guard := guard) hds hd hx
  rwa [hw] at this

/-! strings -/

theorem toList_eq (x y : ByteArray) : (x.toList == y.toList) = decide (x = y) := by
  rw [Bool.eq_iff_iff]
  simp only [beq_iff_eq, decide_eq_true_eq]
  constructor
  · intro hxy
    rw [ByteArray.toList_eq, ByteArray.toList_eq] at hxy
    cases x; cases y
    simpa using hxy
  · rintro rfl; rfl

theorem OpP.eqlStr {t yt : TypeId} {x y : Operand} {i j : ByteArray} (hx : opd ρ x = some (.string i)) (hy : opd ρ y = some (.string j)) :
    OpP P ⟨dst, .binOp .eql t x y yt, ty, pos, after, guard⟩ ρ h (.bool (decide (i = j))) := by
  intro _ B a w hf _
  simp [execOp, eqGuard, binOp, Op.stringOp, hf.eval hx, hf.eval hy, toList_eq]

theorem OpP.neqStr {t yt : TypeId} {x y : Operand} {i j : ByteArray} (hx : opd ρ x = some (.string i)) (hy : opd ρ y = some (.string j)) :
    OpP P ⟨dst, .binOp .neq t x y yt, ty, pos, after, guard⟩ ρ h (.bool (decide (¬ i = j))) := by
  intro _ B a w hf _
  simp [execOp, eqGuard, binOp, Op.stringOp, hf.eval hx, hf.eval hy, toList_eq]

theorem OpP.addStr {t yt : TypeId} {x y : Operand} {i j : ByteArray} (hx : opd ρ x = some (.string i)) (hy : opd ρ y = some (.string j)) (hb : i.size + j.size ≤ 9223372036854775807) :
    OpP P ⟨dst, .binOp .add t x y yt, ty, pos, after, guard⟩ ρ h (.string (i ++ j)) := by
  intro _ B a w hf _
  have : ¬ ((9223372036854775807 : Int) < (i.size + j.size : Nat)) := by omega
  simp [execOp, eqGuard, binOp, Op.stringOp, hf.eval hx, hf.eval hy, IntKind.max, IntKind.signed, IntKind.bits]
  omega

theorem OpP.indexStr {t : TypeId} {x y : Operand} {s : ByteArray} {k : IntKind} {j : Int} {b : UInt8} (hu : P.underlying t = some .string) (hx : opd ρ x = some (.string s)) (hy : opd ρ y = some (.int k j)) (i : Nat) (hj : j = i) (hb : s.data[i]? = some b) :
    OpP P ⟨dst, .index t x y, ty, pos, after, guard⟩ ρ h (.int .u8 b.toNat) := by
  intro _ B a w hf _
  subst hj
  have h1 : s[i]? = some b := by
    obtain ⟨hlt, he⟩ := Array.getElem?_eq_some_iff.1 hb
    rw [getElem?_pos s i hlt]
    exact congrArg some he
  simp [execOp, Instr.index, run_underlying hu, asIntOf, hf.eval hx, hf.eval hy, h1]

/-! addresses, loads -/

theorem OpP.indexSlice {t e : TypeId} {x y : Operand} {oa : Option Addr} {b o n c sz : Nat} {k : IntKind} {j : Int} (hu : P.underlying t = some (.slice e)) (hs : szOf P e = some sz)
    (hx : opd ρ x = some (.slice oa n c)) (hy : opd ρ y = some (.int k j)) (i : Nat) (hj : j = i) (ha : oa = some ⟨b, o, none⟩) (hi : i < n) :
    OpP P ⟨dst, .indexAddr t x y, ty, pos, after, guard⟩ ρ h (.pointer (some ⟨b, o + i * sz, none⟩)) := by
  intro _ B a' w hf _
  subst ha; subst hj
  simp [execOp, Instr.indexAt, run_underlying hu, asIntOf, hf.eval hx, hf.eval hy, run_sizeOf hs, hi, Addr.add_mid]

theorem OpP.indexArr {t e : TypeId} {x y : Operand} {b o n sz : Nat} {k : IntKind} {j : Int} (hu : P.underlying t = some (.array n e)) (hs : szOf P e = some sz)
    (hx : opd ρ x = some (.pointer (some ⟨b, o, none⟩))) (hy : opd ρ y = some (.int k j)) (i : Nat) (hj : j = i) (hi : i < n) :
    OpP P ⟨dst, .indexAddr t x y, ty, pos, after, guard⟩ ρ h (.pointer (some ⟨b, o + i * sz, none⟩)) := by
  intro _ B a' w hf _
  subst hj
  simp [execOp, Instr.indexAt, run_underlying hu, asIntOf, hf.eval hx, hf.eval hy, run_sizeOf hs, hi, Instr.sureAddr, Addr.add_mid]

theorem OpP.load {t : TypeId} {x : Operand} {p : Addr} {v : Value} (hr : isRowT P t = some false) (hx : opd ρ x = some (.pointer (some p))) (hc : cellAt h p = some v) :
    OpP P ⟨dst, .load t x, ty, pos, after, guard⟩ ρ h v := by
  intro _ B a w hf ha
  simp [execOp, Instr.loadAt, Instr.sureAddr, loadVar, run_isAgg' hr, hf.eval hx, ha.cell, hc]

/-- The cells from a place on. -/
def rowAt (h : Heap) (b o : Nat) (cs : List Value) : Prop := ∀ j v, cs[j]? = some v → cellAt h ⟨b, o + j, none⟩ = some v

theorem OpP.loadRow {t : TypeId} {x : Operand} {b o : Nat} {cs : List Value} (hr : isRowT P t = some true) (hs : szOf P t = some cs.length) (hx : opd ρ x = some (.pointer (some ⟨b, o, none⟩))) (hc : rowAt h b o cs) :
    OpP P ⟨dst, .load t x, ty, pos, after, guard⟩ ρ h (.agg cs.toArray) := by
  intro _ B a w hf ha
  unfold isRowT at hr
  cases hu : P.underlying t with
  | none => simp [hu] at hr
  | some d =>
    simp [hu] at hr
    have := run_loadAt_mid (P := P) w b o t cs d (fun j v hv => by rw [ha.cell]; exact hc j v hv) hu hr (by simpa [szOf] using hs)
    simp only [execOp, hf.eval hx, Sem.run_bind, this, Result.andThen_ok, Sem.run_pure]

theorem OpP.fieldAddr {t : TypeId} {fs : Array Field} {fd : Field} {x : Operand} {i b o off : Nat} {k : Nat} (hu : P.underlying t = some (.struct fs)) (hfd : fs[i]? = some fd) (hoff : fd.offset = off) (hs : szOf P fd.type = some (k + 1)) (hx : opd ρ x = some (.pointer (some ⟨b, o, none⟩))) :
    OpP P ⟨dst, .fieldAddr t x i, ty, pos, after, guard⟩ ρ h (.pointer (some ⟨b, o + off, none⟩)) := by
  intro _ B a w hf _
  simp [execOp, Instr.fieldAt, run_underlying hu, hfd, Instr.sureAddr, fieldPlace, run_sizeOf hs, hf.eval hx, hoff, Addr.add_mid]

/-! a string's part, a slice's part -/

theorem OpP.sliceStr {t : TypeId} {x lo hi : Operand} {s : ByteArray} {k k' : IntKind} {il jl : Int} (hu : P.underlying t = some .string) (hx : opd ρ x = some (.string s)) (hl : opd ρ lo = some (.int k il)) (i : Nat) (hil : il = i) (hh : opd ρ hi = some (.int k' jl)) (j : Nat) (hjl : jl = j) (hij : i ≤ j) (hj : j ≤ s.size) :
    OpP P ⟨dst, .slice t x (some lo) (some hi) none, ty, pos, after, guard⟩ ρ h (.string (s.extract i j)) := by
  intro _ B a w hf _
  subst hil
  subst hjl
  simp [execOp, Instr.sliceAt, Instr.slice, Instr.sliceBounds, Instr.sliceBound, run_underlying hu, asIntOf, hf.eval hx, hf.eval hl, hf.eval hh, hij, hj]

theorem OpP.sliceStrLo {t : TypeId} {x lo : Operand} {s : ByteArray} {k : IntKind} {il : Int} (hu : P.underlying t = some .string) (hx : opd ρ x = some (.string s)) (hl : opd ρ lo = some (.int k il)) (i : Nat) (hil : il = i) (hij : i ≤ s.size) :
    OpP P ⟨dst, .slice t x (some lo) none none, ty, pos, after, guard⟩ ρ h (.string (s.extract i s.size)) := by
  intro _ B a w hf _
  subst hil
  simp [execOp, Instr.sliceAt, Instr.slice, Instr.sliceBounds, Instr.sliceBound, run_underlying hu, asIntOf, hf.eval hx, hf.eval hl, hij]

theorem OpP.sliceStrHi {t : TypeId} {x hi : Operand} {s : ByteArray} {k : IntKind} {jl : Int} (hu : P.underlying t = some .string) (hx : opd ρ x = some (.string s)) (hh : opd ρ hi = some (.int k jl)) (j : Nat) (hjl : jl = j) (hj : j ≤ s.size) :
    OpP P ⟨dst, .slice t x none (some hi) none, ty, pos, after, guard⟩ ρ h (.string (s.extract 0 j)) := by
  intro _ B a w hf _
  subst hjl
  simp [execOp, Instr.sliceAt, Instr.slice, Instr.sliceBounds, Instr.sliceBound, run_underlying hu, asIntOf, hf.eval hx, hf.eval hh, hj]

/-- Where a part begins. -/
def partAddr (oa : Option Addr) (i sz m : Nat) : Option Addr := if m = i then oa else oa.map (·.add (i * sz))

theorem OpP.sliceSlice {t e : TypeId} {x lo hi : Operand} {oa : Option Addr} {n c sz : Nat} {k k' : IntKind} {il jl : Int} (hu : P.underlying t = some (.slice e)) (hs : szOf P e = some sz) (hx : opd ρ x = some (.slice oa n c)) (hl : opd ρ lo = some (.int k il)) (i : Nat) (hil : il = i) (hh : opd ρ hi = some (.int k' jl)) (j : Nat) (hjl : jl = j) (hij : i ≤ j) (hj : j ≤ c) :
    OpP P ⟨dst, .slice t x (some lo) (some hi) none, ty, pos, after, guard⟩ ρ h (.slice (partAddr oa i sz c) (j - i) (c - i)) := by
  intro _ B a w hf _
  subst hil
  subst hjl
  simp [execOp, Instr.sliceAt, Instr.slice, Instr.sliceBounds, Instr.sliceBound, run_underlying hu, asIntOf, hf.eval hx, hf.eval hl, hf.eval hh, hij, hj, run_sizeOf hs, partAddr]

theorem OpP.sliceSliceLo {t e : TypeId} {x lo : Operand} {oa : Option Addr} {n c sz : Nat} {k : IntKind} {il : Int} (hu : P.underlying t = some (.slice e)) (hs : szOf P e = some sz) (hx : opd ρ x = some (.slice oa n c)) (hl : opd ρ lo = some (.int k il)) (i : Nat) (hil : il = i) (hij : i ≤ n) :
    OpP P ⟨dst, .slice t x (some lo) none none, ty, pos, after, guard⟩ ρ h (.slice (partAddr oa i sz c) (n - i) (c - i)) := by
  intro _ B a w hf _
  subst hil
  simp [execOp, Instr.sliceAt, Instr.slice, Instr.sliceBounds, Instr.sliceBound, run_underlying hu, asIntOf, hf.eval hx, hf.eval hl, hij, run_sizeOf hs, partAddr]

theorem OpP.sliceSliceHi {t e : TypeId} {x hi : Operand} {oa : Option Addr} {n c sz : Nat} {k' : IntKind} {jl : Int} (hu : P.underlying t = some (.slice e)) (hs : szOf P e = some sz) (hx : opd ρ x = some (.slice oa n c)) (hh : opd ρ hi = some (.int k' jl)) (j : Nat) (hjl : jl = j) (hj : j ≤ c) :
    OpP P ⟨dst, .slice t x none (some hi) none, ty, pos, after, guard⟩ ρ h (.slice (partAddr oa 0 sz c) j c) := by
  intro _ B a w hf _
  subst hjl
  simp [execOp, Instr.sliceAt, Instr.slice, Instr.sliceBounds, Instr.sliceBound, run_underlying hu, asIntOf, hf.eval hx, hf.eval hh, hj, run_sizeOf hs, partAddr]

/-! a call -/

theorem OpX.call {f : FuncId} {xs : Array Operand} {ts : Array TypeId} {vs : List Value} {fn : Func} {Φ : Value → Heap → Prop} {X : List PanicEntry → Heap → Prop}
    (hfn : P.funcs[f]? = some fn) (hb : fn.body.isSome = true) (hnm : (fn.name == "runtime.NumGoroutine") = false) (hvs : xs.toList.map (opd ρ) = vs.map some) (k : CallsH P f vs.toArray h (fun e h' => match e with | .returned v => Φ v h' | .panicked c => X c h' | .outgrown => False)) :
    OpX P ⟨dst, .call ⟨.value (.func f), xs, ts⟩, ty, pos, after, guard⟩ ρ h Φ X := by
  intro n B a w hf ha next Q hn hq
  have hargs : xs.map a.eval = vs.toArray := by
    apply Array.ext'
    simp only [Array.toList_map]
    have : ∀ (l : List Operand) (us : List Value), l.map (opd ρ) = us.map some → l.map a.eval = us := by
      intro l
      induction l with
      | nil => intro us hu; cases us <;> simp_all
      | cons x r ih =>
        intro us hu
        cases us with
        | nil => simp at hu
        | cons u us =>
          simp only [List.map_cons, List.cons.injEq] at hu ⊢
          exact ⟨hf.eval hu.1, ih us hu.2⟩
    exact this _ _ hvs
  have hrun : (execOp a.eval ⟨dst, .call ⟨.value (.func f), xs, ts⟩, ty, pos, after, guard⟩).run P w = .ok (.enter f vs.toArray) w := by
    have hb' : fn.body ≠ none := by intro hbb; simp [hbb] at hb
    have hnm' : ¬ fn.name = "runtime.NumGoroutine" := by simpa using hnm
    simp [execOp, resolve, Act.eval, Deferred.ofValue, invoke, callFunc, hfn, hnm', hb', hargs]
  unfold Oper.wp
  rw [hrun]
  refine (k B w ha).mono fun e w' ⟨h', ha', hr⟩ => ?_
  cases e with
  | returned v => exact hn v h' w' ha' hr
  | panicked c => exact hq c h' w' ha' hr
  | outgrown => exact hr.elim

end
end Go.Lw
