/- What the proof of the statement leans on (part 13). -/
import Derived.Lib.ConvBytes
import Derived.Lib.AtoiErrMem
import Derived.Laws.Runes
import Derived.Test.YteicdopggikieaaDoorQl

namespace Go.Lw
open Go.RowKit
section
variable {P : Program} {ρ : Env} {h : Heap} {dst : Option Nat} {ty : TypeId} {pos : String} {after : Array Edge} {guard : Option (Nat × Bool)} {X : List PanicEntry → Heap → Prop}
theorem OpP.intStr {s d : TypeId} {x : Operand} {k : IntKind} {n : Int} {u : TypeDesc} (hs : P.underlying s = some u) (hd : P.underlying d = some .string) (hx : opd ρ x = some (.int k n)) :
 OpP P ⟨dst, .convert s d x, ty, pos, after, guard⟩ ρ h (.string (Utf8.encode n)) := by
 intro _ B a w hf ha
 simp only [execOp, hf.eval hx, Sem.run_bind, run_convert_int_string w s d k n (by rw [hs]; rfl) hd, Result.andThen_ok, Sem.run_pure]
theorem OpX.strBytes {s d e : TypeId} {x : Operand} {u : TypeDesc} {l : ByteArray} (hs : P.underlying s = some u) (hd : P.underlying d = some (.slice e)) (he : P.underlying e = some (.int .u8)) (hx : opd ρ x = some (.string l)) (hl : l.size ≤ maxLen) :
 OpX P ⟨dst, .convert s d x, ty, pos, after, guard⟩ ρ h (fun v g => SlR .byte g (fun _ => False) v l.data.toList ∧ Ext0 h g) X := by
 intro nn B a w hf ha next Q hn _
 have hrun : (execOp a.eval ⟨dst, .convert s d x, ty, pos, after, guard⟩).run P w = .ok (.value (.slice (some ⟨w.heap.size, 0, none⟩) l.size (grownCap w l.size 0 e))) (Lib.bytesWorld w e l) := by
  simp only [execOp, hf.eval hx, Sem.run_bind, Lib.run_convert_string_bytes w s d e l hs hd he, Result.andThen_ok, Sem.run_pure]
 unfold Oper.wp
 rw [hrun]
 have hb := Lib.bytesWorld_below w e l
 refine hn _ (Lib.bytesWorld w e l).heap _ ⟨rfl, hb.os.trans ha.os, hb.tape.trans ha.tape, hb.output.trans ha.output⟩ ⟨⟨_, _, _, rfl, by simp, grownCap_ge _ _ _ _, grownCap_le_maxLen _ _ _ _ hl, fun i y hy => ?_⟩, by rw [← ha.heap]; exact Ext0.below hb⟩
 obtain ⟨hi, hy⟩ := List.getElem?_eq_some_iff.1 hy
 refine ⟨_, _, [.int .u8 y.toNat], rfl, fun k => k, ?_, rfl⟩
 have hc := Lib.bytesWorld_cell w e l i (by simpa using hi)
 intro j v hv
 cases j with
 | succ j => simp at hv
 | zero =>
  cases hv
  have e1 : l.data.toList.getD i 0 = y := by rw [List.getD_eq_getElem?_getD, List.getElem?_eq_getElem hi, hy]; rfl
  rw [e1] at hc
  rw [show (0 : Nat) + i * Elt.byte.sz + 0 = i by show 0 + i * 1 + 0 = i; omega]
  exact hc
theorem OpP.sliceArrLo {t e : TypeId} {x lo : Operand} {b o m sz : Nat} {k : IntKind} {il : Int} (hu : P.underlying t = some (.array m e)) (hs : szOf P e = some sz) (hx : opd ρ x = some (.pointer (some ⟨b, o, none⟩))) (hl : opd ρ lo = some (.int k il)) (i : Nat) (hil : il = i) (hij : i ≤ m) :
 OpP P ⟨dst, .slice t x (some lo) none none, ty, pos, after, guard⟩ ρ h (.slice (partAddr (some ⟨b, o, none⟩) i sz m) (m - i) (m - i)) := by
 intro _ B a w hf _
 subst hil
 simp [execOp, Instr.sliceAt, Instr.sliceBounds, Instr.sliceBound, run_underlying hu, asIntOf, hf.eval hx, hf.eval hl, hij, run_sizeOf hs, partAddr, Instr.sureAddr]
 split <;> rfl
theorem OpP.sliceArrAll {t e : TypeId} {x : Operand} {b o m sz : Nat} (hu : P.underlying t = some (.array m e)) (hs : szOf P e = some sz) (hx : opd ρ x = some (.pointer (some ⟨b, o, none⟩))) :
 OpP P ⟨dst, .slice t x none none none, ty, pos, after, guard⟩ ρ h (.slice (partAddr (some ⟨b, o, none⟩) 0 sz m) (m - 0) (m - 0)) := by
 intro _ B a w hf _
 simp [execOp, Instr.sliceAt, Instr.sliceBounds, Instr.sliceBound, run_underlying hu, hf.eval hx, run_sizeOf hs, partAddr, Instr.sureAddr]
 split <;> simp
theorem run_equal_ifaceI {t T : TypeId} {ms : Array (String × TypeId)} {k : IntKind} {i : TypeInfo} (hu : P.underlying t = some (.interface ms)) (hT : P.underlying T = some (.int k)) (hi : P.info? T = some i) (hc : i.comparable = true) (a b : Int) (w : World) :
 (Op.equal t (.iface T (.int k a)) (.iface T (.int k b))).run P w = .ok (a == b) w := by
 have hti : (typeInfo T).run P w = .ok i w := by simp [typeInfo, hi]
 have h1 : ∀ d : Nat, (Op.equalIn (d + 1) T (.int k a) (.int k b)).run P w = .ok (a == b) w := fun d => by simp [Op.equalIn, run_underlying hT]
 have h2 : ∀ d : Nat, (Op.equalIn (d + 2) t (.iface T (.int k a)) (.iface T (.int k b))).run P w = .ok (a == b) w := fun d => by
  rw [Op.equalIn]
  simp [run_underlying hu, hti, hc, h1 d]
 exact h2 9998
theorem OpP.neqIfaceI {t yt T : TypeId} {ms : Array (String × TypeId)} {x y : Operand} {k : IntKind} {a b : Int} {i : TypeInfo} (hu : P.underlying t = some (.interface ms)) (hT : P.underlying T = some (.int k)) (hi : P.info? T = some i) (hc : i.comparable = true)
 (hx : opd ρ x = some (.iface T (.int k a))) (hy : opd ρ y = some (.iface T (.int k b))) : OpP P ⟨dst, .binOp .neq t x y yt, ty, pos, after, guard⟩ ρ h (.bool (decide (a ≠ b))) := by
 intro _ B c w hf _
 simp [execOp, eqGuard, binOp, hf.eval hx, hf.eval hy, run_equal_ifaceI hu hT hi hc a b w]
 by_cases e : a = b <;> simp [e]
end
end Go.Lw
namespace Go.Proofs.YteicdopggikieaaDoor
open Go Go.Lw
set_option maxRecDepth 20000
def TzAt (h : Heap) : Prop := cellAt h ⟨8, 15, none⟩ = some (.int .u8 4)
theorem TzAt.ext0 {h h' : Heap} (k : TzAt h) (e : Ext0 h h') : TzAt h' := e.cell (fun k => k) k
theorem tz64_calls {h : Heap} (hT : TzAt h) : CallsH Tryd.prog 107 #[.int .u64 16] h (Ret fun r h' => r = .int .i64 4 ∧ h' = h) := by
 refine CallsH.of Tryd.func107 rfl rfl ?_
 refine xrd Tryd.func107 1 [0, 2] rfl ?_
 refine G.seq rfl ?_
 refine xrd Tryd.func107 2 [0, 2, 4] rfl ?_
 refine G.ite rfl rfl (fun c => ?_) (fun c => ?_)
 · exact absurd c (by decide)
 · refine G.skip rfl ?_
   refine xra Tryd.func107 2 rfl ?_
   refine xp rfl (OpP.neg rfl) ?_
   refine xp rfl (OpP.bits_and rfl rfl) ?_
   refine xp rfl (OpP.mul rfl rfl) ?_
   refine xp rfl (OpP.shr rfl rfl (by decide)) ?_
   refine xp rfl (OpP.indexArr Tryd.underlying143 H.sz5 rfl rfl 15 (by decide +kernel) (by decide)) ?_
   refine xp rfl (OpP.load H.ag5 rfl hT) ?_
   refine xp rfl (OpP.convInt Tryd.underlying5 Tryd.underlying3 rfl) ?_
   refine xqd 1 [0, 2, 4] rfl ?_
   refine G.ret Tryd.func107 rfl rfl ?_
   exact ⟨_, rfl, rfl, rfl⟩
theorem tz_calls {h : Heap} (hT : TzAt h) : CallsH Tryd.prog 96 #[.int .u64 16] h (Ret fun r h' => r = .int .i64 4 ∧ h' = h) := by
 refine CallsH.of Tryd.func96 rfl rfl ?_
 refine xrd Tryd.func96 1 [0, 2] rfl ?_
 refine G.seq rfl ?_
 refine G.cond rfl rfl (fun hc => absurd hc Bool.false_ne_true) (fun _ => ?_)
 refine G.skip rfl ?_
 refine xra Tryd.func96 1 rfl ?_
 refine xo rfl (OpX.call (vs := [_]) Tryd.func107 rfl H.nm107 rfl (CallsH.toX (tz64_calls hT))) ?_
 rintro _ _ ⟨rfl, rfl⟩
 refine xqd 1 [0, 2] rfl ?_
 refine G.ret Tryd.func96 rfl rfl ?_
 exact ⟨_, rfl, rfl, rfl⟩
theorem pow_calls {h : Heap} : CallsH Tryd.prog 95 #[.int .i64 16] h (Ret fun r h' => r = .bool true ∧ h' = h) := by
 refine CallsH.of Tryd.func95 rfl rfl ?_
 refine xrd Tryd.func95 1 [0, 2] rfl ?_
 refine xra Tryd.func95 2 rfl ?_
 refine xp rfl (OpP.sub64 rfl rfl ⟨by omega, by omega⟩) ?_
 refine xp rfl (OpP.bits_and rfl rfl) ?_
 refine xqd 2 [0, 2] rfl ?_
 refine G.ret Tryd.func95 rfl rfl ?_
 exact ⟨_, rfl, congrArg Value.bool (by decide +kernel), rfl⟩
end Go.Proofs.YteicdopggikieaaDoor
