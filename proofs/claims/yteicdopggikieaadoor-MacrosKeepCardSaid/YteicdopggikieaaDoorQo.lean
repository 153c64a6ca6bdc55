/- What the proof of the statement leans on (part 15). -/
import Derived.Lib.MakeNoZero
import Derived.Laws.CopyOwn
import Derived.Test.YteicdopggikieaaDoorQn

namespace Go.Lw
open Go.RowKit
section
variable {P : Program} {ρ : Env} {h : Heap} {dst : Option Nat} {ty : TypeId} {pos : String} {after : Array Edge} {guard : Option (Nat × Bool)} {X : List PanicEntry → Heap → Prop}
theorem OpP.capSlice {t e : TypeId} {x : Operand} {oa : Option Addr} {n c : Nat} (hu : P.underlying t = some (.slice e)) (hx : opd ρ x = some (.slice oa n c)) :
 OpP P ⟨dst, .call ⟨.builtin .cap, #[x], #[t]⟩, ty, pos, after, guard⟩ ρ h (.int .i64 c) := by
 intro _ B a w hf _
 simp [execOp, resolve, invoke, builtin, Builtin.cap_, run_underlying hu, hf.eval hx, goInt]
theorem OpP.copyNone {t t' e : TypeId} {x y : Operand} {oa ob : Option Addr} {n c m d : Nat} (hu : P.underlying t = some (.slice e)) (hs : (P.info? e).map (·.size) = some 1) (hx : opd ρ x = some (.slice oa n c)) (hy : opd ρ y = some (.slice ob m d)) (h0 : Nat.min m n = 0) :
 OpP P ⟨dst, .call ⟨.builtin .copy, #[x, y], #[t, t']⟩, ty, pos, after, guard⟩ ρ h (.int .i64 0) := by
 intro _ B a w hf _
 have hrun := run_copy_none (P := P) w t t' ty e oa ob n c m d hu hs h0
 simp [execOp, resolve, invoke, builtin, hf.eval hx, hf.eval hy, hrun, goInt]
theorem OpX.makeNoZero {f : FuncId} {fn : Func} {x : Operand} {ts ps : Array TypeId} {t e : TypeId} {i : Int} (hf : P.funcs[f]? = some fn) (hname : (fn.name == "runtime.NumGoroutine") = false)
 (hb : fn.body.isNone = true) (hn : Extern.findNext fn = none) (he : Extern.find fn = some (Extern.BytealgMakeNoZero.makeNoZero ps #[t])) (ht : P.underlying t = some (.slice e)) (hx : opd ρ x = some (.int .i64 i)) (n : Nat) (hi : i = n) (hle : n ≤ 1000000000) :
 OpX P ⟨dst, .call ⟨.value (.func f), #[x], ts⟩, ty, pos, after, guard⟩ ρ h (fun v g => ∃ cs : Array Value, v = .slice (some ⟨h.size, 0, none⟩) n cs.size ∧ g = h.push (.cells cs e) ∧ n ≤ cs.size ∧ cs.size ≤ maxLen) X := by
 intro nn B a w hfit ha next Q hq _
 subst hi
 obtain ⟨cs, hr, h1, h2⟩ := Lib.run_makeNoZero (P := P) w ps t e ht n (by omega)
 have hc := run_callFunc_extern (P := P) hf hname hb hn he #[.int .i64 n] w
 rw [hr] at hc
 have hrun : (execOp a.eval ⟨dst, .call ⟨.value (.func f), #[x], ts⟩, ty, pos, after, guard⟩).run P w = .ok (.value (.slice (some ⟨w.heap.size, 0, none⟩) n cs.size)) (w.drew.drew.alloc (.cells cs e)) := by
  simp only [execOp, resolve, Act.eval, Deferred.ofValue, invoke]
  simp [hfit.eval hx, hc]
 unfold Oper.wp
 rw [hrun]
 refine hq _ (w.heap.push (.cells cs e)) _ ⟨rfl, ha.os, ha.tape, ha.output⟩ ⟨cs, by rw [ha.heap], by rw [ha.heap], h1, h2 (by simp only [maxLen]; omega)⟩
end
end Go.Lw
namespace Go.Proofs.YteicdopggikieaaDoor
open Go Go.Lw
set_option maxRecDepth 20000
theorem zero_info : (Tryd.prog.info? 5).map (·.size) = some 1 := by kernel_rfl
theorem grow_calls {h : Heap} {b : Nat} {p : Value} (hk : Blk h b 85 [p, .slice none 0 0]) (n : Nat) (hn : n ≤ 1000000000) :
 CallsH Tryd.prog 72 #[.pointer (some ⟨b, 0, none⟩), .int .i64 (n : Nat)] h (Ret fun _ h' => (∃ v, Blk h' b 85 [p, v] ∧ OwB h' (b + 1) 5 v []) ∧ Ext (fun x => x = b) h h' ∧ h.size ≤ h'.size) := by
 have hkl := hk.lt
 have hc1 := hk.cell (i := 1) rfl
 refine CallsH.of Tryd.func72 rfl rfl ?_
 refine G.seq rfl ?_
 refine G.draw (fun x => Array.size h ≤ x) (fun i => Nat.blt i 16) (sz := 16) (listed := #[false, false, false, false, false, false, false, false, false, false, false, false, false, false, false, false]) Tryd.func72 H.mixed rfl rfl rfl ?_
 refine xtq 0 1 (by kernel_rfl) rfl ?_
 refine xtq 1 3 (by kernel_rfl) rfl ?_
 refine xtp 2 7 (by kernel_rfl) rfl (fun h' e => OpP.fieldAddr (off := 1) Tryd.underlying85 rfl rfl H.sz83 rfl) ?_
 refine xtp 3 15 (by kernel_rfl) rfl (fun h' e => OpP.load H.ag83 rfl (e.cell (show ¬ Array.size h ≤ b by omega) hc1)) ?_
 refine xtp 4 31 (by kernel_rfl) rfl (fun h' e => OpP.capSlice Tryd.underlying83 rfl) ?_
 refine xtp 5 63 (by kernel_rfl) rfl (fun h' e => OpP.mul64 rfl rfl ⟨by omega, by omega⟩) ?_
 refine xtq 6 127 (by kernel_rfl) rfl ?_
 refine xtp 7 255 (by kernel_rfl) rfl (fun h' e => OpP.add64 rfl rfl ⟨by omega, by omega⟩) ?_
 refine xtq 9 767 (by kernel_rfl) rfl ?_
 refine xtq 10 1791 (by kernel_rfl) rfl ?_
 refine xtp 11 3839 (by kernel_rfl) rfl (fun h' e => OpP.fieldAddr (off := 1) Tryd.underlying85 rfl rfl H.sz83 rfl) ?_
 refine xtp 12 7935 (by kernel_rfl) rfl (fun h' e => OpP.load H.ag83 rfl (e.cell (show ¬ Array.size h ≤ b by omega) hc1)) ?_
 refine xtp 13 16127 (by kernel_rfl) rfl (fun h' e => OpP.lenSlice Tryd.underlying83 rfl) ?_
 refine xto 8 16383 (by kernel_rfl) rfl (OpX.makeNoZero (ps := _) (t := 83) Tryd.func87 (by decide +kernel) (by kernel_rfl) (by kernel_rfl) rfl Tryd.underlying83 rfl n (by omega) hn) ?_
 rintro _ h1 ⟨cs, rfl, hh1, hn1, hn2⟩
 refine ⟨fun _ => by rw [hh1]; exact Ext.push _ _ _, ?_⟩
 refine xtp 14 32767 (by kernel_rfl) rfl (fun h' e => OpP.sliceSliceHi Tryd.underlying83 H.sz5 rfl rfl 0 rfl (Nat.zero_le _)) ?_
 refine xtq 15 65535 (by kernel_rfl) rfl ?_
 refine RD.done (by kernel_rfl) ?_
 refine xu [0, 1, 4] rfl ?_
 refine xra Tryd.func72 3 rfl ?_
 refine xp rfl (OpP.fieldAddr (off := 1) Tryd.underlying85 rfl rfl H.sz83 rfl) ?_
 have e1 : Ext0 h h1 := by rw [hh1]; exact Ext.push _ _ _
 have k1 := hk.ext0 e1
 have ho : OwB h1 (b + 1) 5 (.slice (partAddr (some ⟨h.size, 0, none⟩) 0 1 cs.size) 0 cs.size) [] := by
  have hp : partAddr (some ⟨h.size, 0, none⟩) 0 1 cs.size = some ⟨h.size, 0, none⟩ := by
   unfold partAddr
   split
   · rfl
   · rfl
  rw [hp]
  exact ⟨rfl, .inr ⟨h.size, cs.size, cs, rfl, hkl, by rw [hh1]; simp, Nat.zero_le _, hn2, by simp, by simp⟩⟩
 refine xp rfl (OpP.load H.ag83 rfl (k1.cell (i := 1) rfl)) ?_
 refine xp rfl (OpP.copyNone Tryd.underlying83 zero_info rfl rfl rfl) ?_
 refine xd [0, 1, 4] rfl ?_
 refine G.reg Tryd.func72 rfl ?_
 refine xqp 3 rfl rfl (OpP.fieldAddr (off := 1) Tryd.underlying85 rfl rfl H.sz83 rfl) ?_
 refine RW.op0 rfl rfl rfl (OpX.storeOne H.sz83 rfl rfl k1 (by first | decide | exact of_decide_eq_true rfl | (simp; done) | (simp; omega)) rfl) ?_
 rintro _ h2 ⟨rfl, k2, x2, z2⟩
 refine xd [0, 1, 4] rfl ?_
 refine G.fall Tryd.func72 rfl ?_
 have z1 := e1.size
 refine ⟨_, rfl, ⟨_, k2, OwnH.ext x2 ho (fun g hg => ?_)⟩, ?_, by omega⟩
 · have := (OwnH.lt ho hg).1; omega
 · exact (e1.mono (fun _ _ k => k.elim)).trans x2
theorem Grow_calls {h : Heap} {b : Nat} (hk : Blk h b 85 [.pointer none, .slice none 0 0]) (n : Nat) (hn : n ≤ 1000000000) :
 CallsH Tryd.prog 64 #[.pointer (some ⟨b, 0, none⟩), .int .i64 (n : Nat)] h (Ret fun _ h' => BldH h' b 85 5 [] ∧ Ext (fun x => x = b) h h') := by
 refine CallsH.of Tryd.func64 rfl rfl ?_
 refine xra Tryd.func64 1 rfl ?_
 refine xo rfl (OpX.call (vs := [_]) Tryd.func67 rfl H.nm67 rfl (CallsH.toX (copyCheck_calls hk (.inl rfl)))) ?_
 rintro _ h1 ⟨k1, x1, z1⟩
 refine xd [0, 1] rfl ?_
 refine G.seq rfl ?_
 refine xrd Tryd.func64 2 [0, 1, 7] rfl ?_
 refine G.cond rfl rfl (fun hc => absurd hc (by simp)) (fun _ => ?_)
 refine G.skip rfl ?_
 refine G.seq rfl ?_
 refine G.draw (fun _ => False) (fun i => Nat.blt i 13) (sz := 13) (listed := #[false, false, false, false, false, false, false, false, false, false, false, false, false]) Tryd.func64 H.mixed rfl rfl rfl ?_
 refine xtq 0 1 (by kernel_rfl) rfl ?_
 refine xtq 1 3 (by kernel_rfl) rfl ?_
 refine xtp 2 7 (by kernel_rfl) rfl (fun h' e => OpP.fieldAddr (off := 1) Tryd.underlying85 rfl rfl H.sz83 rfl) ?_
 refine xtp 3 15 (by kernel_rfl) rfl (fun h' e => OpP.load H.ag83 rfl (e.cell (fun q => q) (k1.cell (i := 1) rfl))) ?_
 refine xtp 4 31 (by kernel_rfl) rfl (fun h' e => OpP.capSlice Tryd.underlying83 rfl) ?_
 refine xtq 5 63 (by kernel_rfl) rfl ?_
 refine xtq 6 127 (by kernel_rfl) rfl ?_
 refine xtp 7 255 (by kernel_rfl) rfl (fun h' e => OpP.fieldAddr (off := 1) Tryd.underlying85 rfl rfl H.sz83 rfl) ?_
 refine xtp 8 511 (by kernel_rfl) rfl (fun h' e => OpP.load H.ag83 rfl (e.cell (fun q => q) (k1.cell (i := 1) rfl))) ?_
 refine xtp 9 1023 (by kernel_rfl) rfl (fun h' e => OpP.lenSlice Tryd.underlying83 rfl) ?_
 refine xtp 10 2047 (by kernel_rfl) rfl (fun h' e => OpP.sub64 rfl rfl ⟨by omega, by omega⟩) ?_
 refine xtq 11 4095 (by kernel_rfl) rfl ?_
 refine xtq 12 8191 (by kernel_rfl) rfl ?_
 refine RD.done (by kernel_rfl) ?_
 refine xu [0, 1, 7, 21] rfl ?_
 refine G.ite rfl rfl (fun hlt => ?_) (fun hlt => ?_)
 · refine G.reg Tryd.func64 rfl ?_
   refine xqm 2 rfl ?_
   refine xo rfl (OpX.call (vs := [_, _]) Tryd.func72 rfl H.nm72 rfl (CallsH.toX (grow_calls k1 n hn))) ?_
   rintro _ h2 ⟨⟨v, k2, ho⟩, x2, z2⟩
   refine xd [0, 1, 7, 21] rfl ?_
   refine G.fall Tryd.func64 rfl ?_
   exact ⟨_, rfl, ⟨_, _, k2, .inr rfl, ho⟩, x1.trans x2⟩
 · refine G.skip rfl ?_
   refine G.fall Tryd.func64 rfl ?_
   exact ⟨_, rfl, ⟨_, _, k1, .inr rfl, OwE.nil _ _ _ _⟩, x1⟩
abbrev eBs : Elt By := .flat (fun x => .string (bs x)) (fun _ => rfl)
def sumL (ws : List By) : Nat := (ws.map List.length).sum
theorem sumL_take {ws : List By} {i : Nat} {w : By} (h : ws[i]? = some w) : sumL (ws.take (i + 1)) = sumL (ws.take i) + w.length := by
 unfold sumL; rw [List.take_add_one, h]; simp
theorem joinP_len : ∀ ws : List By, (joinP ws).length = sumL ws + (ws.length - 1)
 | [] => rfl
 | x :: xs => by
  have : ∀ l : List By, (l.flatMap fun y => (32 : UInt8) :: y).length = sumL l + l.length := by
   intro l
   induction l with
   | nil => rfl
   | cons y l ih => rw [List.flatMap_cons, List.length_append, ih]; simp [sumL]; omega
  rw [joinP, List.length_append, this]
  simp [sumL]; omega
theorem sumL_le (ws : List By) (i : Nat) : sumL (ws.take i) ≤ sumL ws := by
 have : sumL (ws.take i ++ ws.drop i) = sumL (ws.take i) + sumL (ws.drop i) := by unfold sumL; rw [List.map_append, List.sum_append]
 rw [List.take_append_drop] at this; omega
theorem Join_calls {h : Heap} {O : Nat → Prop} {v : Value} {ws : List By} (hv : SlR eBs h O v ws) (hb : (joinP ws).length ≤ 100000000) :
 CallsH Tryd.prog 46 #[v, .string (bs [32])] h (Ret fun r h' => r = .string (bs (joinP ws)) ∧ Ext0 h h') := by
 obtain ⟨oa, n, c, rfl, hsl⟩ := hv.open
 have hn := hsl.len
 subst hn
 have hjl := joinP_len ws
 have h32 : (bs [32]).size = 1 := rfl
 refine CallsH.of Tryd.func46 rfl rfl ?_
 refine xrd Tryd.func46 1 [0, 1, 4] rfl ?_
 refine G.seq rfl ?_
 refine xra Tryd.func46 1 rfl ?_
 refine xp rfl (OpP.lenSlice Tryd.underlying68 rfl) ?_
 refine xd [0, 1, 4, 12] rfl ?_
 refine G.block rfl rfl ?_
 refine xrd Tryd.func46 2 [0, 1, 4, 12, 13] rfl ?_
 refine G.ite rfl rfl (fun h0 => ?_) (fun h0 => ?_)
 · have : ws = [] := List.eq_nil_of_length_eq_zero (by omega)
   subst this
   refine xrd Tryd.func46 1 [0, 1, 4, 12, 13] rfl ?_
   refine G.ret Tryd.func46 rfl rfl ?_
   exact ⟨_, rfl, rfl, Ext.refl _ _⟩
 · refine xrd Tryd.func46 2 [0, 1, 4, 12, 13, 15] rfl ?_
   refine G.ite rfl rfl (fun h1 => ?_) (fun h1 => ?_)
   · obtain ⟨x, rfl⟩ : ∃ x, ws = [x] := List.length_eq_one_iff.1 (by omega)
     obtain ⟨b, o, y, ha, _, hy, hc⟩ := hsl.at (show 0 < [x].length from Nat.one_pos)
     cases hy
     refine xra Tryd.func46 1 rfl ?_
     refine xp rfl (OpP.indexSlice Tryd.underlying68 H.sz9 rfl rfl 0 rfl ha Nat.one_pos) ?_
     refine xp rfl (OpP.load H.ag9 rfl hc) ?_
     refine xqd 1 [0, 1, 4, 12, 13, 15] rfl ?_
     refine G.ret Tryd.func46 rfl rfl ?_
     exact ⟨_, rfl, by simp [joinP]; rfl, Ext.refl _ _⟩
   · refine G.skip rfl ?_
     refine G.blkEnd ?_
     refine xrd Tryd.func46 1 [0, 1, 4, 5, 12, 13, 15] rfl ?_
     refine G.seq rfl ?_
     refine xra Tryd.func46 1 rfl ?_
     refine xp rfl (OpP.lenString Tryd.underlying9 rfl) ?_
     refine xqd 1 [0, 1, 4, 5, 12, 13, 15, 22] rfl ?_
     refine G.cond rfl rfl (fun _ => ?_) (fun hc => absurd hc (by decide))
     have hq : ((9223372036854775807 : Int).tdiv ((ws.length : Int) - 1)) ≥ 2 := by
      rw [Int.tdiv_eq_ediv_of_nonneg (by decide)]
      exact (Int.le_ediv_iff_mul_le (by omega)).2 (by omega)
     have hq2 : ((9223372036854775807 : Int).tdiv ((ws.length : Int) - 1)) ≤ 9223372036854775807 := by
      rw [Int.tdiv_eq_ediv_of_nonneg (by decide)]
      exact Int.ediv_le_self _ (by decide)
     have hq3 : IntKind.i64.wrap ((9223372036854775807 : Int).tdiv ((ws.length : Int) - 1)) = ((9223372036854775807 : Int).tdiv ((ws.length : Int) - 1)) := wrap_i64 ⟨by omega, by omega⟩
     refine G.seq rfl ?_
     refine xra Tryd.func46 1 rfl ?_
     refine xp rfl (OpP.lenString Tryd.underlying9 rfl) ?_
     refine xqp 1 rfl rfl (OpP.lenSlice Tryd.underlying68 rfl) ?_
     refine xp rfl (OpP.sub64 rfl rfl ⟨by omega, by omega⟩) ?_
     refine xp rfl (OpP.quo rfl rfl (by omega)) ?_
     refine xqd 1 [0, 1, 4, 5, 12, 13, 15, 22, 29] rfl ?_
     refine G.cond rfl rfl (fun hc => absurd hc (by rw [hq3]; simp; omega)) (fun _ => ?_)
     refine G.skip rfl ?_
     refine G.reg Tryd.func46 rfl ?_
     refine xqp 2 rfl rfl (OpP.lenString Tryd.underlying9 rfl) ?_
     refine xqp 1 rfl rfl (OpP.lenSlice Tryd.underlying68 rfl) ?_
     refine xp rfl (OpP.sub64 rfl rfl ⟨by omega, by omega⟩) ?_
     refine xp rfl (OpP.mul64 rfl rfl ⟨by rw [h32]; omega, by rw [h32]; omega⟩) ?_
     refine xp rfl (OpP.add64 rfl rfl ⟨by rw [h32]; omega, by rw [h32]; omega⟩) ?_
     refine xqd 1 [0, 1, 4, 5, 12, 13, 15, 22, 29] rfl ?_
     refine G.seq rfl ?_
     refine xra Tryd.func46 1 rfl ?_
     refine xp rfl (OpP.lenSlice Tryd.underlying68 rfl) ?_
     refine xqd 1 [0, 1, 4, 5, 12, 13, 15, 22, 29, 39, 40, 41] rfl ?_
     refine G.block rfl rfl ?_
     rw [show (0 : Int) + ((bs [32]).size : Int) * ((ws.length : Int) - 1) = ((ws.length - 1 + sumL (ws.take 0) : Nat) : Int) by rw [h32, List.take_zero]; show _ = ((ws.length - 1 + 0 : Nat) : Int); omega]
     refine G.loop (σ := Nat) (fun i => [(0, .slice oa ws.length c), (1, .string (bs [32])), (5, .int .i64 ((ws.length - 1 + sumL (ws.take i) : Nat) : Int)), (39, .slice oa ws.length c), (40, .int .i64 (ws.length : Nat)), (41, .int .i64 (i : Nat))]) (fun i h' => i ≤ ws.length ∧ h' = h) (fun i => ws.length - i) (0) rfl ⟨rfl, rfl, rfl, rfl, rfl, rfl, trivial⟩ ⟨Nat.zero_le _, rfl⟩ ?_
     rintro i g ⟨hi, hg⟩ ih
     subst hg
     have hsle := sumL_le ws (i + 1)
     refine xrd Tryd.func46 1 [0, 1, 5, 39, 40, 41, 42] rfl ?_
     refine G.seq rfl ?_
     refine G.ite rfl rfl (fun hlt => ?_) (fun hlt => ?_)
     · have hil : i < ws.length := by omega
       obtain ⟨w, hw⟩ : ∃ w, ws[i]? = some w := ⟨_, List.getElem?_eq_getElem hil⟩
       have hst := sumL_take hw
       have hwz := bs_size w
       obtain ⟨b, o, y, ha, _, hy, hc⟩ := hsl.at hil
       rw [hw] at hy
       cases hy
       refine G.skip rfl ?_
       refine G.seq rfl ?_
       refine G.block rfl rfl ?_
       refine xr Tryd.func46 rfl ?_
       refine xp rfl (OpP.indexSlice Tryd.underlying68 H.sz9 rfl rfl i rfl ha (by omega)) ?_
       refine xp rfl (OpP.load H.ag9 rfl hc) ?_
       refine xqd 1 [0, 1, 5, 7, 39, 40, 41, 42] rfl ?_
       refine G.seq rfl ?_
       refine xra Tryd.func46 1 rfl ?_
       refine xp rfl (OpP.lenString Tryd.underlying9 rfl) ?_
       refine xqp 1 rfl rfl (OpP.sub64 rfl rfl ⟨by omega, by omega⟩) ?_
       refine xqd 1 [0, 1, 5, 7, 39, 40, 41, 42, 49] rfl ?_
       refine G.cond rfl rfl (fun hc => absurd hc (by simp; omega)) (fun _ => ?_)
       refine G.skip rfl ?_
       refine G.reg Tryd.func46 rfl ?_
       refine xqp 2 rfl rfl (OpP.lenString Tryd.underlying9 rfl) ?_
       refine xp rfl (OpP.add64 rfl rfl ⟨by omega, by omega⟩) ?_
       refine xqd 1 [0, 1, 5, 7, 39, 40, 41, 42, 49] rfl ?_
       refine G.blkEnd ?_
       refine G.reg Tryd.func46 rfl ?_
       refine xp rfl (OpP.add64 rfl rfl ⟨by omega, by omega⟩) ?_
       refine xqd 1 [0, 1, 5, 7, 39, 40, 41, 42, 49] rfl ?_
       exact ih (i + 1) _ _ ⟨rfl, rfl, congrArg (fun x : Int => some (Value.int .i64 x)) (by rw [hst, hwz]; omega), rfl, rfl, rfl, trivial⟩ ⟨by omega, rfl⟩ (by omega)
     · have hie : ws.take i = ws := List.take_of_length_le (by omega)
       rw [hie]
       refine G.exit rfl rfl ?_
       refine xr Tryd.func46 rfl ?_
       refine xo rfl (OpX.allocN H.zr85) ?_
       rintro _ h1 ⟨rfl, k1, e1, z1⟩
       refine xd [0, 1, 5, 8, 39, 40, 41, 42] rfl ?_
       refine xra Tryd.func46 1 rfl ?_
       have k1 : Blk h1 g.size 85 [.pointer none, .slice none 0 0] := k1
       obtain ⟨x, tl, rfl⟩ : ∃ x tl, ws = x :: tl := by cases ws with | nil => simp at h0 | cons x tl => exact ⟨x, tl, rfl⟩
       refine xo rfl (OpX.call (vs := [_, _]) Tryd.func64 rfl H.nm64 rfl (CallsH.toX (Grow_calls k1 _ (by omega)))) ?_
       rintro _ h2 ⟨hb2, x2⟩
       refine xd [0, 1, 5, 8, 39, 40, 41, 42] rfl ?_
       refine xra Tryd.func46 1 rfl ?_
       have e02 := Ext0.only e1 x2 (Nat.le_refl _)
       have hxz := bs_size x
       have hxl : x.length ≤ sumL (x :: tl) := by simp [sumL]
       obtain ⟨b, o, y, ha, _, hy, hc⟩ := (hsl.mv (Mv.ext0 e02)).at (show 0 < (x :: tl).length by simp)
       cases hy
       refine xp rfl (OpP.indexSlice Tryd.underlying68 H.sz9 rfl rfl 0 rfl ha (by simp)) ?_
       refine xp rfl (OpP.load H.ag9 rfl hc) ?_
       refine xo rfl (OpX.call (vs := [_, _]) Tryd.func56 rfl H.nm56 rfl (CallsH.toX (writeString_calls (bs x) hb2 (by rw [hxz]; simp only [List.length_nil]; omega)))) ?_
       rintro _ h3 ⟨rfl, hb3, x3⟩
       refine xd [0, 1, 5, 8, 39, 40, 41, 42] rfl ?_
       refine G.seq rfl ?_
       refine xra Tryd.func46 1 rfl ?_
       rw [bs_list, List.nil_append] at hb3
       have e03 := Ext0.above e02 x3 (Nat.le_refl _)
       have hpart := hsl.part (i := 1) (j := (x :: tl).length) (by simp) (Nat.le_refl _)
       rw [List.take_length, List.drop_one, List.tail_cons] at hpart
       refine xp rfl (OpP.sliceSliceLo Tryd.underlying68 H.sz9 rfl rfl 1 rfl (by simp)) ?_
       refine xp rfl (OpP.lenSlice Tryd.underlying68 rfl) ?_
       refine xqd 1 [0, 1, 5, 8, 39, 40, 41, 42, 63, 64, 65] rfl ?_
       refine G.block rfl rfl ?_
       refine G.loop (σ := Nat) (fun i => [(1, .string (bs [32])), (8, .pointer (some ⟨g.size, 0, none⟩)), (63, .slice (partAddr oa 1 1 c) ((x :: tl).length - 1) (c - 1)), (64, .int .i64 (((x :: tl).length - 1 : Nat) : Int)), (65, .int .i64 (i : Nat))]) (fun i h' => i ≤ tl.length ∧ BldH h' g.size 85 5 (joinP (x :: tl.take i)) ∧ Ext0 g h') (fun i => tl.length - i) (0) rfl ⟨rfl, rfl, rfl, rfl, rfl, trivial⟩ ⟨Nat.zero_le _, by simpa [joinP] using hb3, e03⟩ ?_
       rintro i g4 ⟨hi, hb4, e04⟩ ih
       have hjt := joinP_len (x :: tl.take i)
       have hst := sumL_le (x :: tl) (i + 1)
       rw [List.take_succ_cons] at hst
       simp only [List.length_cons, List.length_take] at hjt
       simp only [List.length_cons] at hb hjl
       have hlc : (x :: tl).length - 1 = tl.length := rfl
       refine xrd Tryd.func46 1 [1, 8, 63, 64, 65, 66] rfl ?_
       refine G.seq rfl ?_
       refine G.ite rfl rfl (fun hlt4 => ?_) (fun hlt4 => ?_)
       · have hil : i < tl.length := by omega
         obtain ⟨w, hw⟩ : ∃ w, tl[i]? = some w := ⟨_, List.getElem?_eq_getElem hil⟩
         have hwz := bs_size w
         have hst2 := sumL_le (x :: tl) (i + 2)
         rw [List.take_succ_cons] at hst2
         have htk : tl.take (i + 1) = tl.take i ++ [w] := by rw [List.take_add_one, hw]; rfl
         have hs2 : sumL (x :: tl.take (i + 1)) = sumL (x :: tl.take i) + w.length := by rw [htk]; simp [sumL]; omega
         have hjn : joinP (x :: tl.take (i + 1)) = (joinP (x :: tl.take i) ++ [32]) ++ w := by rw [htk]; simp [joinP]
         obtain ⟨b5, o5, y5, ha5, _, hy5, hc5⟩ := (hpart.mv (Mv.ext0 e04)).at (show i < (x :: tl).length - 1 by omega)
         rw [hw] at hy5
         cases hy5
         refine G.skip rfl ?_
         refine G.seq rfl ?_
         refine G.block rfl rfl ?_
         refine xr Tryd.func46 rfl ?_
         refine xp rfl (OpP.indexSlice Tryd.underlying68 H.sz9 rfl rfl i rfl ha5 (by omega)) ?_
         refine xp rfl (OpP.load H.ag9 rfl hc5) ?_
         refine xqd 1 [1, 8, 10, 63, 64, 65, 66] rfl ?_
         refine xra Tryd.func46 1 rfl ?_
         refine xo rfl (OpX.call (vs := [_, _]) Tryd.func56 rfl H.nm56 rfl (CallsH.toX (writeString_calls (bs [32]) hb4 (by rw [h32]; omega)))) ?_
         rintro _ h5 ⟨rfl, hb5, x5⟩
         refine xd [1, 8, 10, 63, 64, 65, 66] rfl ?_
         refine G.reg Tryd.func46 rfl ?_
         refine xqm 1 rfl ?_
         rw [bs_list] at hb5
         refine xo rfl (OpX.call (vs := [_, _]) Tryd.func56 rfl H.nm56 rfl (CallsH.toX (writeString_calls (bs w) hb5 (by rw [hwz, List.length_append]; simp only [List.length_cons, List.length_nil]; omega)))) ?_
         rintro _ h6 ⟨rfl, hb6, x6⟩
         refine xd [1, 8, 10, 63, 64, 65, 66] rfl ?_
         refine G.blkEnd ?_
         refine G.reg Tryd.func46 rfl ?_
         refine xp rfl (OpP.add64 rfl rfl ⟨by omega, by omega⟩) ?_
         refine xqd 1 [1, 8, 10, 63, 64, 65, 66] rfl ?_
         rw [bs_list, ← hjn] at hb6
         exact ih (i + 1) _ _ ⟨rfl, rfl, rfl, rfl, rfl, trivial⟩ ⟨by omega, hb6, Ext0.above (Ext0.above e04 x5 (Nat.le_refl _)) x6 (Nat.le_refl _)⟩ (by omega)
       · have hie : tl.take i = tl := List.take_of_length_le (by omega)
         rw [hie] at hb4
         refine G.exit rfl rfl ?_
         refine xr Tryd.func46 rfl ?_
         refine xo rfl (OpX.call (vs := [_]) Tryd.func57 rfl H.nm57 rfl (CallsH.toX (bString_calls hb4 (by omega)))) ?_
         rintro _ h5 ⟨rfl, x5⟩
         refine xqd 1 [1, 4, 8, 63, 64, 65, 66] rfl ?_
         refine G.ret Tryd.func46 rfl rfl ?_
         exact ⟨_, rfl, rfl, Ext0.above e04 x5 (Nat.le_refl _)⟩
theorem ky_one (k : Ky) : ∀ v ∈ encKy k, v.oneCell' = true := fun v hv => by simp [encKy] at hv; rcases hv with rfl | rfl | rfl <;> rfl
abbrev eKy : Elt Ky := .record 3 (by decide) encKy (fun _ => rfl) ky_one
theorem putK_take {ks : List Ky} {i : Nat} {k : Ky} (h : ks[i]? = some k) : ((ks.take (i + 1)).filter fun k => mayP k).map wordK = (((ks.take i).filter fun k => mayP k).map wordK) ++ (if mayP k = true then [wordK k] else []) := by
 rw [List.take_add_one, h]
 by_cases hm : mayP k = true <;> simp [hm]
theorem Put_calls {h : Heap} (hg : MacG h) {O : Nat → Prop} {v : Value} {ks : List Ky} (hv : SlR eKy h O v ks) (hk : ∀ k ∈ ks, KyOk k) (hn : ks.length ≤ 1000000) (hb : (putK ks).length ≤ 100000000) :
 CallsH Tryd.prog 15 #[v] h (Ret fun r h' => r = .string (bs (putK ks)) ∧ Ext0 h h') := by
 obtain ⟨oa, n, c, rfl, hsl⟩ := hv.open
 have hln := hsl.len
 subst hln
 refine CallsH.of Tryd.func15 rfl rfl ?_
 refine xrd Tryd.func15 1 [0, 2] rfl ?_
 refine xrd Tryd.func15 1 [0, 2, 3] rfl ?_
 refine G.seq rfl ?_
 refine xra Tryd.func15 1 rfl ?_
 refine xp rfl (OpP.lenSlice Tryd.underlying22 rfl) ?_
 refine xqd 1 [0, 2, 3, 6, 7, 8] rfl ?_
 refine G.block rfl rfl ?_
 refine G.loop (σ := Nat × Value) (fun q => [(3, q.2), (6, .slice oa ks.length c), (7, .int .i64 (ks.length : Nat)), (8, .int .i64 (q.1 : Nat))]) (fun q h' => q.1 ≤ ks.length ∧ OwE (fun x : By => Value.string (bs x)) h' h.size 9 q.2 (((ks.take q.1).filter fun k => mayP k).map wordK) ∧ Ext0 h h') (fun q => ks.length - q.1) ((0, .slice none 0 0)) rfl ⟨rfl, rfl, rfl, rfl, trivial⟩ ⟨Nat.zero_le _, OwE.nil _ _ _ _, Ext.refl _ _⟩ ?_
 rintro ⟨i, va⟩ g ⟨hi, ho, eg⟩ ih
 try dsimp only
 dsimp only at hi ho
 refine xrd Tryd.func15 1 [3, 6, 7, 8, 9] rfl ?_
 refine G.seq rfl ?_
 refine G.ite rfl rfl (fun hlt => ?_) (fun hlt => ?_)
 · obtain ⟨b, o, k, ha, _, hx, hrow⟩ := (hsl.mv (Mv.ext0 eg)).recd (show i < ks.length by omega)
   have hkk := hk k (List.mem_of_getElem? hx)
   have hpt := putK_take hx
   have zg := eg.size
   have hll : (((ks.take i).filter fun k => mayP k).map wordK).length ≤ ks.length := by
    rw [List.length_map]
    exact Nat.le_trans (List.length_filter_le _ _) (by rw [List.length_take]; omega)
   refine G.skip rfl ?_
   refine G.seq rfl ?_
   refine G.block rfl rfl ?_
   refine xr Tryd.func15 rfl ?_
   refine xp rfl (OpP.indexSlice Tryd.underlying22 H.sz27 rfl rfl i rfl ha (by omega)) ?_
   refine xp rfl (OpP.loadRowN H.ag27 H.sz27 rfl hrow (by first | rfl | (simp; done) | (simp; omega))) ?_
   refine xo rfl (OpX.allocN H.zr27) ?_
   rintro _ h1 ⟨rfl, k1, e1, z1⟩
   refine RW.op0 rfl rfl rfl (OpX.storeBlk H.sz27 rfl rfl k1 (by first | rfl | (simp; done) | (simp; omega)) (by first | decide | exact of_decide_eq_true rfl | (simp; done) | (simp; omega)) (ky_one _)) ?_
   rintro _ h2 ⟨rfl, k2, x2, z2⟩
   refine xd [3, 5, 6, 7, 8, 9] rfl ?_
   refine xr Tryd.func15 rfl ?_
   have k2 : Blk h2 g.size 27 (encKy k) := k2
   have e2 := Ext0.only e1 x2 (Nat.le_refl _)
   have hg2 := (hg.ext0 eg).ext0 e2
   refine xp rfl (OpP.loadRowN H.ag27 H.sz27 rfl k2.row (by first | rfl | (simp; done) | (simp; omega))) ?_
   refine xo rfl (OpX.call (vs := [_]) Tryd.func34 rfl H.nm34 rfl (CallsH.toX (may_calls hg2 k))) ?_
   rintro _ h3 ⟨rfl, e3⟩
   refine xd [3, 5, 6, 7, 8, 9, 13] rfl ?_
   have k3 := k2.ext0 e3
   refine G.cond rfl rfl (fun hm => ?_) (fun hm => ?_)
   · refine G.reg Tryd.func15 rfl ?_
     refine xqp 1 rfl rfl (OpP.loadRowN H.ag27 H.sz27 rfl k3.row (by first | rfl | (simp; done) | (simp; omega))) ?_
     refine xo rfl (OpX.call (vs := [_]) Tryd.func11 rfl H.nm11 rfl (CallsH.toX (Name_calls (hg2.ext0 e3) k hkk))) ?_
     rintro _ h4 ⟨rfl, e4⟩
     refine xo rfl (OpX.buildOnes (us := [_]) Tryd.underlying68 H.el9 rfl rfl (by decide) (by simp [Value.oneCell'])) ?_
     rintro _ _ ⟨rfl, rfl⟩
     have e24 := (e2.trans e3).trans e4
     have ho4 := OwE.ext0 ho e24
     refine xo rfl (OpX.appendNew Tryd.underlying68 H.el9 rfl rfl (ho4) rfl rfl (by first | decide | simp [Value.oneCell']) (by omega) (by decide) (by have := e24.size; omega)) ?_
     rintro v5 h5 ⟨ho5, hx5, hx5', hv5⟩
     refine xqd 1 [3, 5, 6, 7, 8, 9, 13] rfl ?_
     refine G.blkEnd ?_
     refine G.reg Tryd.func15 rfl ?_
     refine xp rfl (OpP.add64 rfl rfl ⟨by omega, by omega⟩) ?_
     refine xqd 1 [3, 5, 6, 7, 8, 9, 13] rfl ?_
     have hnk : nameP k = wordK k := by unfold nameP; rw [if_pos hm]
     rw [if_pos hm] at hpt
     have ho6 : OwE (fun x : By => Value.string (bs x)) h5 h.size 9 v5 (((ks.take (i + 1)).filter fun k => mayP k).map wordK) := by
      rw [hpt]
      show OwnH _ _ _ _ _ _ _
      rw [List.length_append, List.map_append, ← hnk]
      exact ho5
     exact ih (i + 1, v5) _ _ ⟨rfl, rfl, rfl, rfl, trivial⟩ ⟨by show i + 1 ≤ _; omega, ho6, OwE.grown (eg.trans e24) ho4 (Nat.le_refl _) hx5⟩ (by show ks.length - (i + 1) < ks.length - i; omega)
   · rw [if_neg (by rw [hm]; decide), List.append_nil] at hpt
     refine G.skip rfl ?_
     refine G.blkEnd ?_
     refine G.reg Tryd.func15 rfl ?_
     refine xp rfl (OpP.add64 rfl rfl ⟨by omega, by omega⟩) ?_
     refine xqd 1 [3, 5, 6, 7, 8, 9, 13] rfl ?_
     exact ih (i + 1, va) _ _ ⟨rfl, rfl, rfl, rfl, trivial⟩ ⟨by show i + 1 ≤ _; omega, by rw [hpt]; exact OwE.ext0 ho (e2.trans e3), eg.trans (e2.trans e3)⟩ (by show ks.length - (i + 1) < ks.length - i; omega)
 · have hie : ks.take i = ks := List.take_of_length_le (by omega)
   rw [hie] at ho
   have hsr : SlR eBs g (fun x => ¬ h.size ≤ x) va ((ks.filter fun k => mayP k).map wordK) := OwE.read (h1 := fun _ => rfl) ho (fun b hb q => q hb)
   refine G.exit rfl rfl ?_
   refine xra Tryd.func15 1 rfl ?_
   refine xo rfl (OpX.call (vs := [_, _]) Tryd.func46 rfl H.nm46 rfl (CallsH.toX (Join_calls hsr hb))) ?_
   rintro _ h1 ⟨rfl, e1⟩
   refine xqd 1 [2, 3, 6, 7, 8, 9] rfl ?_
   refine G.ret Tryd.func15 rfl rfl ?_
   exact ⟨_, rfl, rfl, eg.trans e1⟩
theorem split_calls {h : Heap} (hg : StrG h) (s : By) (hs : s.length ≤ 1000000) :
 CallsH Tryd.prog 47 #[.string (bs s), .string (bs [32])] h (Ret fun r h' => OwE (fun x : By => Value.string (bs x)) h' h.size 9 r (splitS 32 s) ∧ Ext0 h h') := by
 obtain ⟨m, hm⟩ := hg.most
 have hz := bs_size s
 have h32 : (bs [32]).size = 1 := rfl
 refine CallsH.ofBelow fun w hw => ?_
 subst hw
 refine (Tryd.strings_Split (bs s) (bs [32]) m w (by omega) hm (by omega)).mono ?_
 rintro e w' ⟨rfl, rfl⟩
 have hl := Lib.splitB_all (bs [32]) (by omega) 0 _ (bs s) rfl
 have hd := Lib.splitB_data (bs [32]) 0 (Lib.countB (bs s) (bs [32])) (bs s)
 have hle := Lib.countB_le (bs [32]) (by omega) (bs s).size (bs s) (Nat.le_refl _)
 have hc : Lib.countB (bs s) (bs [32]) = Lib.count s [32] := by rw [Lib.countB, bs_list, bs_list]
 rw [bs_list, bs_list, hc, split_one] at hd
 have hm2 : (Lib.splitB (bs [32]) 0 (Lib.countB (bs s) (bs [32])) (bs s)).map Value.string = (splitS 32 s).map fun x => Value.string (bs x) := by
  rw [hc, ← hd, List.map_map]
  exact List.map_congr_left fun x _ => congrArg Value.string (bs_of x).symm
 have hl2 : (splitS 32 s).length = Lib.countB (bs s) (bs [32]) + 1 := by rw [← hd, List.length_map, ← hc]; exact hl
 refine ⟨_, rfl, ⟨?_, Ext.push _ _ _⟩, rfl, rfl, rfl⟩
 rw [hm2]
 exact OwE.made (fun x : By => Value.string (bs x)) w.heap 9 _ _ hl2 (by simp only [maxLen]; omega) _ (Nat.le_refl _) rfl
theorem OwnH.down {h : Heap} {base b' : Nat} {t : TypeId} {sz : Nat} {v : Value} {n : Nat} {xs : List Value} (k : OwnH h base t sz v n xs) (hb : b' ≤ base) : OwnH h b' t sz v n xs :=
 ⟨k.1, k.2.imp id fun ⟨g, cap, cur, a, b, r⟩ => ⟨g, cap, cur, a, Nat.le_trans hb b, r⟩⟩
theorem splitS_len (c : UInt8) : ∀ s : By, (splitS c s).length ≤ s.length + 1 ∧ ∀ w ∈ splitS c s, w.length ≤ s.length
 | [] => by simp [splitS]
 | b :: r => by
  have ih := splitS_len c r
  rw [splitS]
  split
  · refine ⟨by simp only [List.length_cons]; omega, fun w hw => ?_⟩
    rcases List.mem_cons.1 hw with rfl | hw
    · simp
    · have := ih.2 w hw; simp only [List.length_cons]; omega
  · cases hr : splitS c r with
    | nil => simp
    | cons x xs =>
     rw [hr] at ih
     refine ⟨by simp only [List.length_cons] at ih ⊢; omega, fun w hw => ?_⟩
     rcases List.mem_cons.1 hw with rfl | hw
     · have := ih.2 x (by simp); simp only [List.length_cons]; omega
     · have := ih.2 w (by simp [hw]); simp only [List.length_cons]; omega
theorem Get_calls {h : Heap} (hg : MacG h) (s : By) (hs : s.length ≤ 100000) :
 CallsH Tryd.prog 17 #[.string (bs s)] h (Ret fun r h' => (∃ v, r = .tuple #[v, .int .i64 (getK s).2.1, .int .i64 (getK s).2.2] ∧ OwR 3 encKy h' h.size 27 v (getK s).1) ∧ Ext0 h h') := by
 refine CallsH.of Tryd.func17 rfl rfl ?_
 refine xrd Tryd.func17 3 [0, 2, 3, 4] rfl ?_
 refine G.seq rfl ?_
 refine xra Tryd.func17 1 rfl ?_
 refine xp rfl (OpP.eqlStr rfl rfl) ?_
 refine xd [0, 2, 3, 4, 10] rfl ?_
 refine G.ite rfl rfl (fun h0 => ?_) (fun h0 => ?_)
 · have h0 := bs_inj (m := []) h0
   have hK : getK s = ([], 0, 0) := by unfold getK; rw [if_pos h0]
   rw [hK]
   refine xrd Tryd.func17 3 [0, 2, 3, 4, 10] rfl ?_
   refine G.ret Tryd.func17 rfl rfl ?_
   exact ⟨_, rfl, ⟨_, rfl, OwR.nil _ _ _ _ _⟩, Ext.refl _ _⟩
 · have hK : getK s = getW (splitS 32 s) 0 [] := by unfold getK; rw [if_neg (fun e => h0 (by rw [e]; rfl))]
   rw [hK]
   obtain ⟨hwl, hwm⟩ := splitS_len 32 s
   obtain ⟨ws, hws⟩ : ∃ ws, ws = splitS 32 s := ⟨_, rfl⟩
   rw [← hws] at hwl hwm ⊢
   refine G.skip rfl ?_
   refine G.seq rfl ?_
   refine xra Tryd.func17 1 rfl ?_
   refine xo rfl (OpX.call (vs := [_, _]) Tryd.func47 rfl H.nm47 rfl (CallsH.toX (split_calls hg.str s (by omega)))) ?_
   rintro v0 h1 ⟨ho, e1⟩
   rw [← hws] at ho
   have hsr : SlR eBs h1 (fun x => ¬ h.size ≤ x) v0 ws := OwE.read (h1 := fun _ => rfl) ho (fun b hb q => q hb)
   obtain ⟨oa, n, c, rfl, hsl⟩ := hsr.open
   have hln := hsl.len
   subst hln
   refine xp rfl (OpP.lenSlice Tryd.underlying68 rfl) ?_
   refine xqd 1 [0, 2, 3, 4, 10, 12, 13, 14] rfl ?_
   refine G.block rfl rfl ?_
   refine G.loop (σ := Nat × Value × List Ky) (fun q => [(2, q.2.1), (12, .slice oa ws.length c), (13, .int .i64 (ws.length : Nat)), (14, .int .i64 (q.1 : Nat))]) (fun q h' => (q.1 ≤ ws.length ∧ q.2.2.length = q.1 ∧ getW (ws.drop q.1) (q.1 : Nat) q.2.2 = getW ws 0 []) ∧ OwR 3 encKy h' h1.size 27 q.2.1 q.2.2 ∧ Ext0 h1 h') (fun q => ws.length - q.1) ((0, .slice none 0 0, [])) rfl ⟨rfl, rfl, rfl, rfl, trivial⟩ ⟨⟨Nat.zero_le _, rfl, rfl⟩, OwR.nil _ _ _ _ _, Ext.refl _ _⟩ ?_
   rintro ⟨i, va, acc⟩ g ⟨⟨hi, hal, hx⟩, hv, eg⟩ ih
   try dsimp only
   dsimp only at hi hal hx hv
   have e0g := e1.trans eg
   have zg := e0g.size
   refine xrd Tryd.func17 1 [2, 12, 13, 14, 15] rfl ?_
   refine G.seq rfl ?_
   refine G.ite rfl rfl (fun hlt => ?_) (fun hlt => ?_)
   · have hil : i < ws.length := by omega
     obtain ⟨w, hw⟩ : ∃ w, ws[i]? = some w := ⟨_, List.getElem?_eq_getElem hil⟩
     have hwl2 := hwm w (List.mem_of_getElem? hw)
     have hdr : ws.drop i = w :: ws.drop (i + 1) := by
      rw [List.drop_eq_getElem_cons hil]
      rw [List.getElem?_eq_getElem hil] at hw
      cases hw; rfl
     rw [hdr, getW] at hx
     obtain ⟨b, o, y, ha, _, hy, hc⟩ := (hsl.mv (Mv.ext0 eg)).at hil
     rw [hw] at hy
     cases hy
     refine G.skip rfl ?_
     refine G.seq rfl ?_
     refine G.block rfl rfl ?_
     refine xra Tryd.func17 1 rfl ?_
     refine xp rfl (OpP.indexSlice Tryd.underlying68 H.sz9 rfl rfl i rfl ha (by omega)) ?_
     refine xp rfl (OpP.load H.ag9 rfl hc) ?_
     refine xqd 2 [2, 5, 6, 12, 13, 14, 15] rfl ?_
     refine xra Tryd.func17 1 rfl ?_
     refine xo rfl (OpX.call (vs := [_]) Tryd.func13 rfl H.nm13 rfl (CallsH.toX (Key_calls (hg.ext0 e0g) w (by omega)))) ?_
     rintro _ h2 ⟨⟨k, ok, rfl, hkr⟩, e2⟩
     refine xqm 3 rfl ?_
     refine xo rfl (OpX.allocN H.zr27) ?_
     rintro _ h3 ⟨rfl, k3, e3, z3⟩
     refine RW.op0 rfl rfl rfl (OpX.storeBlk H.sz27 rfl rfl k3 (by first | rfl | (simp; done) | (simp; omega)) (by first | decide | exact of_decide_eq_true rfl | (simp; done) | (simp; omega)) (ky_one _)) ?_
     rintro _ h4 ⟨rfl, k4, x4, z4⟩
     refine xqd 1 [2, 5, 6, 7, 8, 12, 13, 14, 15] rfl ?_
     refine G.seq rfl ?_
     refine xrd Tryd.func17 2 [2, 5, 6, 7, 8, 12, 13, 14, 15, 25] rfl ?_
     have k4 : Blk h4 h2.size 27 (encKy k) := k4
     have e24 := Ext0.only e3 x4 (Nat.le_refl _)
     have eg4 := e2.trans e24
     have hkv := hkr.val
     unfold keyV at hkv
     refine G.cond rfl rfl (fun hok => ?_) (fun hok => ?_)
     · have hok : ok = false := by simpa using hok
       have hn : keyP w = none := by
        cases hp : keyP w with
        | none => rfl
        | some k' => rw [hp] at hkv; have := (Prod.mk.inj hkv).2; rw [hok] at this; cases this
       rw [hn] at hx
       rw [← hx]
       refine xra Tryd.func17 1 rfl ?_
       refine xp rfl (OpP.add64 rfl rfl ⟨by omega, by omega⟩) ?_
       refine xqd 3 [2, 3, 4, 5, 6, 7, 8, 12, 13, 14, 15, 25] rfl ?_
       refine G.ret Tryd.func17 rfl rfl ?_
       exact ⟨_, rfl, ⟨_, rfl, OwR.nil _ _ _ _ _⟩, e0g.trans eg4⟩
     · have hok : ok = true := by simpa using hok
       have hn : keyP w = some k := by
        cases hp : keyP w with
        | none => rw [hp] at hkv; have := (Prod.mk.inj hkv).2; rw [hok] at this; cases this
        | some k' => rw [hp] at hkv; rw [(Prod.mk.inj hkv).1]
       rw [hn] at hx
       have hv4 := OwR.ext0 hv eg4
       have hsl0 := hsl.cap
       have z5 := eg4.size
       have z6 := eg.size
       refine G.skip rfl ?_
       refine G.reg Tryd.func17 rfl ?_
       refine xqp 1 rfl rfl (OpP.loadRowN H.ag27 H.sz27 rfl k4.row (by first | rfl | (simp; done) | (simp; omega))) ?_
       refine xo rfl (OpX.buildRec (cs := [_, _, _]) Tryd.underlying22 H.el27 rfl rfl (by decide)) ?_
       rintro _ _ ⟨rfl, rfl⟩
       refine xo rfl (OpX.appendNew Tryd.underlying22 H.el27 rfl rfl (hv4) rfl rfl (ky_one _) (by omega) (by decide) (by omega)) ?_
       rintro v5 h5 ⟨ho5, hx5, hx5', hv5⟩
       refine xqd 1 [2, 5, 6, 7, 8, 12, 13, 14, 15, 25] rfl ?_
       refine G.blkEnd ?_
       refine G.reg Tryd.func17 rfl ?_
       refine xp rfl (OpP.add64 rfl rfl ⟨by omega, by omega⟩) ?_
       refine xqd 1 [2, 5, 6, 7, 8, 12, 13, 14, 15, 25] rfl ?_
       exact ih (i + 1, v5, acc ++ [k]) _ _ ⟨rfl, rfl, rfl, rfl, trivial⟩ ⟨⟨by show i + 1 ≤ _; omega, by simp [hal], hx⟩, OwR.of ho5 rfl rfl, Ext.own (eg.trans eg4) hv4 (Nat.le_refl _) hx5⟩ (by show ws.length - (i + 1) < ws.length - i; omega)
   · have hie : i = ws.length := by omega
     rw [hie, List.drop_length, getW] at hx
     rw [← hx]
     refine G.exit rfl rfl ?_
     refine xrd Tryd.func17 4 [2, 3, 4, 12, 13, 14, 15] rfl ?_
     refine G.ret Tryd.func17 rfl rfl ?_
     exact ⟨_, rfl, ⟨_, rfl, OwnH.down hv e1.size⟩, e0g⟩
theorem register_calls {h : Heap} (r : Int) : CallsH Tryd.prog 50 #[.int .i32 r] h (Ret fun v h' => v = .bool (regP r) ∧ h' = h) := by
 refine CallsH.of Tryd.func50 rfl rfl ?_
 refine xrd Tryd.func50 1 [0, 2] rfl ?_
 refine G.seq rfl ?_
 refine G.regTo1 [(2, .bool (regP r))] [(0, _)] ⟨rfl, trivial⟩ Tryd.func50 rfl ?_ ?_
 · refine xqm 3 rfl ?_
   refine RW.split (d := 5) rfl (fun c => ?_) (fun c => ?_)
   · have c := of_decide_eq_true c
     refine xqm 4 rfl ?_
     refine RW.done rfl ?_
     exact ⟨rfl, at_bool rfl (by unfold regP; rw [decide_eq_decide]; omega), rfl, trivial⟩
   · have c := of_decide_eq_false c
     refine xqm 4 rfl ?_
     refine RW.done rfl ?_
     exact ⟨rfl, at_bool rfl (by unfold regP; rw [eq_comm, decide_eq_false]; omega), rfl, trivial⟩
 · refine G.ret Tryd.func50 rfl rfl ?_
   exact ⟨_, rfl, rfl, rfl⟩
def macC (vs : List Value) (k : Nat) : List Value := .bool true :: (vs ++ [.int .i64 (k : Nat)])
theorem macC_in {vs : List Value} (h : vs.length = 26) (k : Nat) : (macC vs k)[27]? = some (.int .i64 (k : Nat)) := by
 unfold macC
 rw [List.getElem?_cons_succ, List.getElem?_append_right (by omega), h]; rfl
theorem macC_at {vs : List Value} {i : Nat} {v : Value} (h : vs[i]? = some v) (k : Nat) : (macC vs k)[1 + i]? = some v := by
 have hi := (List.getElem?_eq_some_iff.1 h).1
 unfold macC
 rw [Nat.add_comm, List.getElem?_cons_succ, List.getElem?_append_left hi, h]
theorem macC_setIn {vs : List Value} (h : vs.length = 26) (k j : Nat) {v : Value} (hv : v = .int .i64 (j : Nat)) : (macC vs k).set 27 v = macC vs j := by
 subst hv
 unfold macC
 rw [List.set_cons_succ, List.set_append_right _ _ (by omega), h]; rfl
theorem macC_set {vs : List Value} {i : Nat} (h : i < vs.length) (k : Nat) (v : Value) : (macC vs k).set (1 + i) v = macC (vs.set i v) k := by
 unfold macC
 rw [Nat.add_comm, List.set_cons_succ, List.set_append_left _ _ h]
def RegsR (h : Heap) (O : Nat → Prop) (vs : List Value) (ls : List (List Ky)) : Prop := vs.length = 26 ∧ ls.length = 26 ∧ ∀ (i : Nat) (l : List Ky), ls[i]? = some l → ∃ v, vs[i]? = some v ∧ SlR eKy h O v l
theorem RegsR.mv {h h' : Heap} {O O' : Nat → Prop} {vs : List Value} {ls : List (List Ky)} (k : RegsR h O vs ls) (m : Mv O O' h h') : RegsR h' O' vs ls :=
 ⟨k.1, k.2.1, fun i l hl => (k.2.2 i l hl).imp fun _ q => ⟨q.1, q.2.mv m⟩⟩
theorem RegsR.set {h : Heap} {O : Nat → Prop} {vs : List Value} {ls : List (List Ky)} (k : RegsR h O vs ls) (i : Nat) {v : Value} {l : List Ky} (hv : SlR eKy h O v l) : RegsR h O (vs.set i v) (ls.set i l) := by
 refine ⟨by rw [List.length_set]; exact k.1, by rw [List.length_set]; exact k.2.1, fun j x hx => ?_⟩
 rw [List.getElem?_set] at hx
 rw [List.getElem?_set]
 split
 · rename_i e
   rw [if_pos e] at hx
   have h1 := k.1
   have h2 := k.2.1
   split at hx
   · cases hx
     exact ⟨v, by rw [if_pos (by omega)], hv⟩
   · cases hx
 · rename_i e
   rw [if_neg e] at hx
   exact k.2.2 j x hx
def MacO (O : Nat → Prop) (h : Heap) (b : Nat) (s : Rg) : Prop :=
 RgOk s ∧ ∃ vs, Blk h b 60 (macC vs s.1) ∧ RegsR h (fun x => x = b ∨ O x) vs s.2
theorem MacO.lt {O : Nat → Prop} {h : Heap} {b : Nat} {s : Rg} (k : MacO O h b s) : b < h.size := by
 obtain ⟨_, _, q, _⟩ := k
 exact q.lt
theorem MacO.ext {O M : Nat → Prop} {h h' : Heap} {b : Nat} {s : Rg} (k : MacO O h b s) (e : Ext M h h') (hb : ¬ M b) (hM : ∀ y, M y → y < h.size → O y) : MacO O h' b s := by
 obtain ⟨k1, vs, k2, k3⟩ := k
 exact ⟨k1, vs, k2.ext e hb, k3.mv (Mv.ofExt e fun y hy q => ⟨fun m => q (.inr (hM y m hy)), q⟩)⟩
theorem MacO.ext0 {O : Nat → Prop} {h h' : Heap} {b : Nat} {s : Rg} (k : MacO O h b s) (e : Ext0 h h') : MacO O h' b s := k.ext e (fun q => q) (fun _ q _ => q.elim)
theorem cloneK_calls {h : Heap} {v : Value} {O : Nat → Prop} {xs : List Ky} (hv : SlR eKy h O v xs) (hx : xs.length ≤ 1000000) :
 CallsH Tryd.prog 52 #[v] h (Ret fun r h' => OwR 3 encKy h' h.size 27 r xs ∧ Ext0 h h') := by
 obtain ⟨va, vn, vc, rfl, hvs⟩ := hv.open
 have hl : xs.length = vn := hvs.len
 subst hl
 refine CallsH.of Tryd.func52 rfl rfl ?_
 refine xrd Tryd.func52 1 [0, 2] rfl ?_
 refine G.seq rfl ?_
 refine xra Tryd.func52 1 rfl ?_
 refine xp rfl (OpP.eqlNilS Tryd.underlying22 rfl rfl) ?_
 refine xd [0, 2, 4] rfl ?_
 refine G.cond rfl rfl (fun hn => ?_) (fun hn => ?_)
 · refine xrd Tryd.func52 1 [0, 2, 4] rfl ?_
   refine G.ret Tryd.func52 rfl rfl ?_
   have hx0 : xs = [] := by
    have hva : va = none := by simpa using hn
    rcases xs with _ | ⟨x, xs⟩
    · rfl
    · obtain ⟨b, o, cs, ha, _⟩ := hvs.get 0 x rfl
      rw [hva] at ha; cases ha
   subst hx0
   exact ⟨_, rfl, OwR.nil _ _ _ _ _, Ext.refl _ _⟩
 · refine G.skip rfl ?_
   refine xr Tryd.func52 rfl ?_
   refine xo rfl (OpX.buildEmpty Tryd.underlying22 H.el27) ?_
   rintro _ h1 ⟨rfl, hh1⟩
   have e1 : Ext0 h h1 := by rw [hh1]; exact Ext.push _ _ _
   have z1 : h1.size = h.size + 1 := by rw [hh1]; simp
   have ho1 : OwnH h1 h.size 27 3 (.slice (some ⟨h.size, 0, none⟩) 0 0) 0 [] := by rw [hh1]; exact OwnH.empty h _ 3 h.size (Nat.le_refl _)
   have hrow := (hvs.mv (Mv.ext0 e1)).rowR
   refine xqm 1 rfl ?_
   refine xo rfl (OpX.append Tryd.underlying22 H.el27 rfl rfl ho1 (flatMap_len (enc := encKy) (sz := 3) (fun _ => rfl) xs) hrow (fun u hu => by obtain ⟨x, _, hx⟩ := List.mem_flatMap.1 hu; exact ky_one x u hx) (by simp only [maxLen]; omega) (by omega) (by omega)) ?_
   rintro v2 h2 ⟨ho2, hx2, _, hv2⟩
   refine xqd 1 [0, 2, 4] rfl ?_
   refine G.ret Tryd.func52 rfl rfl ?_
   refine ⟨_, rfl, ?_, Ext.own e1 ho1 (Nat.le_refl _) hx2⟩
   have : OwnH h2 h.size 27 3 v2 (0 + xs.length) ([] ++ xs.flatMap encKy) := ho2
   rw [Nat.zero_add, List.nil_append] at this
   exact this
theorem mnone_made {h : Heap} {b : Nat} {t : TypeId} {x : Bool} {cs : List Value} (k : Blk h b t (.bool x :: cs)) :
 CallsH Tryd.prog 49 #[.pointer (some ⟨b, 0, none⟩)] h (Ret fun r h' => r = .bool (!x) ∧ h' = h) := by
 refine CallsH.of Tryd.func49 rfl rfl ?_
 refine xrd Tryd.func49 1 [0, 2] rfl ?_
 refine xra Tryd.func49 1 rfl ?_
 refine xp rfl (OpP.eqlNil Tryd.underlying39 rfl rfl) ?_
 refine xqm 1 rfl ?_
 refine RW.know (d := 5) (b' := false) rfl (rfl) ?_
 refine xqp 2 rfl rfl (OpP.fieldAddr (off := 0) Tryd.underlying60 rfl rfl H.sz4 rfl) ?_
 refine xp rfl (OpP.load H.ag4 rfl (k.cell (i := 0) rfl)) ?_
 refine xqd 3 [0, 2] rfl ?_
 refine G.ret Tryd.func49 rfl rfl ?_
 exact ⟨_, rfl, rfl, rfl⟩
theorem New_calls {h : Heap} : CallsH Tryd.prog 21 #[] h (Ret fun r h' => (r = .pointer (some ⟨h.size, 0, none⟩) ∧ ∀ O : Nat → Prop, MacO O h' h.size newR) ∧ Ext0 h h') := by
 refine CallsH.of Tryd.func21 rfl rfl ?_
 refine xrd Tryd.func21 1 [0] rfl ?_
 refine xr Tryd.func21 rfl ?_
 refine xp rfl (OpP.build (H.bd60_0 _) rfl) ?_
 refine xo rfl (OpX.boxN rfl) ?_
 rintro _ h1 ⟨rfl, k1, e1, z1⟩
 refine xqd 1 [0] rfl ?_
 refine G.ret Tryd.func21 rfl rfl ?_
 refine ⟨_, rfl, ⟨rfl, fun O => ⟨RgOk.new, List.replicate 26 (.slice none 0 0), k1, by simp, by simp [newR], fun i l hl => ?_⟩⟩, e1⟩
 have hi : i < 26 := by have := (List.getElem?_eq_some_iff.1 hl).1; simpa [newR] using this
 have : l = [] := by have := List.mem_of_getElem? hl; exact (List.mem_replicate.1 this).2
 subst this
 exact ⟨.slice none 0 0, by rw [List.getElem?_replicate, if_pos hi], SlR.nil _ _ _⟩
theorem Start_calls {O : Nat → Prop} {h : Heap} {b : Nat} {s : Rg} (k : MacO O h b s) (r : Int) :
 CallsH Tryd.prog 22 #[.pointer (some ⟨b, 0, none⟩), .int .i32 r] h (Ret fun v h' => (v = .int .i64 (startR r s).2 ∧ MacO O h' b (startR r s).1) ∧ Ext (fun y => y = b) h h') := by
 obtain ⟨hk, vs, kb, hv⟩ := k
 have hvl := hv.1
 refine CallsH.of Tryd.func22 rfl rfl ?_
 refine xrd Tryd.func22 1 [0, 1, 4] rfl ?_
 refine G.seq rfl ?_
 refine G.block rfl rfl ?_
 refine xra Tryd.func22 1 rfl ?_
 refine xo rfl (OpX.call (vs := [_]) Tryd.func49 rfl H.nm49 rfl (CallsH.toX ((mnone_made kb)))) ?_
 rintro _ h ⟨rfl, rfl⟩
 refine xqd 1 [0, 1, 4, 5] rfl ?_
 refine G.cond rfl rfl (fun hc => absurd hc (by decide)) (fun _ => ?_)
 refine G.seq rfl ?_
 refine G.regTo1 [(8, .bool (decide (¬ (regP r = true ∧ s.1 = 0))))] [(0, _), (1, _), (4, _), (5, _)] ⟨rfl, rfl, rfl, rfl, trivial⟩ Tryd.func22 rfl ?_ ?_
 · refine xqm 1 rfl ?_
   refine xo rfl (OpX.call (vs := [_]) Tryd.func50 rfl H.nm50 rfl (CallsH.toX (register_calls r))) ?_
   rintro _ h ⟨rfl, rfl⟩
   refine xqm 2 rfl ?_
   refine RW.split (d := 12) rfl (fun c => ?_) (fun c => ?_)
   · have c' : regP r = false := by simpa using c
     refine xqm 7 rfl ?_
     refine RW.done rfl ?_
     exact ⟨rfl, at_bool rfl (by simp [c']), rfl, rfl, rfl, rfl, trivial⟩
   · have c' : regP r = true := by simpa using c
     refine xqp 2 rfl rfl (OpP.fieldAddr (off := 27) Tryd.underlying60 rfl rfl H.sz3 rfl) ?_
     refine xp rfl (OpP.load H.ag3 rfl (kb.cell (i := 27) (macC_in hvl _))) ?_
     refine xqm 3 rfl ?_
     refine RW.done rfl ?_
     exact ⟨rfl, at_bool rfl (by rw [decide_eq_decide]; simp only [c', eq_self, true_and]; omega), rfl, rfl, rfl, rfl, trivial⟩
 · refine G.ite rfl rfl (fun hc => ?_) (fun hc => ?_)
   · refine xrd Tryd.func22 1 [0, 1, 4, 5, 8] rfl ?_
     refine G.ret Tryd.func22 rfl rfl ?_
     have hS : startR r s = (s, 2) := if_neg hc
     rw [hS]
     exact ⟨_, rfl, ⟨rfl, hk, vs, kb, hv⟩, Ext.refl _ _⟩
   · have hc : regP r = true ∧ s.1 = 0 := Classical.not_not.1 hc
     have hr := regP_iff.1 hc.1
     have hS : startR r s = (((r - 96).toNat, s.2.set (r - 97).toNat []), 0) := if_pos hc
     have hok := hk.start r
     rw [hS] at hok ⊢
     have kb : Blk h b 60 (.bool true :: (vs ++ [.int .i64 (s.1 : Nat)])) := kb
     refine G.skip rfl ?_
     refine G.blkEnd ?_
     refine xra Tryd.func22 2 rfl ?_
     refine xp rfl (OpP.sub rfl rfl) ?_
     refine xp rfl (OpP.convIn Tryd.underlying21 Tryd.underlying3 rfl (wrap_i64 (by rw [wrap_i32 (by omega)]; omega))) ?_
     rw [wrap_i32 (show _ by omega)]
     refine xp rfl (OpP.add64 rfl rfl ⟨by omega, by omega⟩) ?_
     refine xqp 1 rfl rfl (OpP.fieldAddr (off := 27) Tryd.underlying60 rfl rfl H.sz3 rfl) ?_
     refine RW.op0 rfl rfl rfl (OpX.storeOne H.sz3 rfl rfl kb (by first | decide | exact of_decide_eq_true rfl | (simp; done) | (simp; omega)) rfl) ?_
     rintro _ h1 ⟨rfl, k1, x1, z1⟩
     have k1 : Blk h1 b 60 (macC vs (r - 96).toNat) := by
      rw [← macC_setIn (v := .int .i64 (r - 97 + 1)) hvl s.1 _ (by congr 1; omega)]
      exact k1
     have k1' : Blk h1 b 60 (.bool true :: (vs ++ [.int .i64 ((r - 96).toNat : Nat)])) := k1
     refine xd [0, 1, 4, 5, 8] rfl ?_
     refine G.seq rfl ?_
     refine G.draw (fun b => Array.size h1 ≤ b) (fun i => Nat.blt i 9) (sz := 10) (listed := #[false, false, false, false, false, false, false, false, false, false]) Tryd.func22 H.mixed rfl rfl rfl ?_
     refine xtq 0 1 (by kernel_rfl) rfl ?_
     refine xtq 1 3 (by kernel_rfl) rfl ?_
     refine xtq 2 7 (by kernel_rfl) rfl ?_
     refine xtp 3 15 (by kernel_rfl) rfl (fun h' e => OpP.fieldAddr (off := 27) Tryd.underlying60 rfl rfl H.sz3 rfl) ?_
     refine xtp 4 31 (by kernel_rfl) rfl (fun h' e => OpP.load H.ag3 rfl (e.old (k1.cell (i := 27) (macC_in hvl _)))) ?_
     refine xtp 5 63 (by kernel_rfl) rfl (fun h' e => OpP.sub64 rfl rfl ⟨by omega, by omega⟩) ?_
     refine xto 6 127 (by kernel_rfl) rfl (OpP.toX (OpP.nilCheck rfl)) ?_
     rintro _ hq_ ⟨rfl, hqe_⟩
     replace hqe_ := hqe_.symm
     subst hqe_
     refine ⟨fun _ => Ext.refl _ _, ?_⟩
     refine xto 7 255 (by kernel_rfl) rfl (OpP.toX (OpP.fieldAddr (off := 1) Tryd.underlying60 rfl rfl H.sz50 rfl)) ?_
     rintro _ hq_ ⟨rfl, hqe_⟩
     replace hqe_ := hqe_.symm
     subst hqe_
     refine ⟨fun _ => Ext.refl _ _, ?_⟩
     refine xtp 8 511 (by kernel_rfl) rfl (fun h' e => OpP.indexArr Tryd.underlying50 H.sz22 rfl rfl (r - 97).toNat (by omega) (by omega)) ?_
     refine xt0 9 1023 (by kernel_rfl) rfl (OpX.storeOne H.sz22 rfl rfl k1' (by first | decide | exact of_decide_eq_true rfl | (simp; done) | (simp; omega)) rfl) ?_
     rintro _ h2 ⟨rfl, k2, x2, z2⟩
     refine ⟨fun hk => (nomatch hk), ?_⟩
     refine RD.done (by kernel_rfl) ?_
     refine xu [0, 1, 4, 5, 8] rfl ?_
     refine xrd Tryd.func22 1 [0, 1, 4, 5, 8] rfl ?_
     refine G.ret Tryd.func22 rfl rfl ?_
     rw [Nat.mul_one] at k2
     have x12 := x1.trans x2
     refine ⟨_, rfl, ⟨rfl, hok, vs.set (r - 97).toNat (.slice none 0 0), ?_, RegsR.set (hv.mv (Mv.ofExt x12 fun y _ q => ⟨fun e => q (.inl e), q⟩)) _ (SlR.nil _ _ _)⟩, x12⟩
     rw [← macC_set (by omega)]
     exact k2
theorem Stop_calls {O : Nat → Prop} {h : Heap} {b : Nat} {s : Rg} (k : MacO O h b s) :
 CallsH Tryd.prog 23 #[.pointer (some ⟨b, 0, none⟩)] h (Ret fun v h' => (v = .int .i64 (stopR s).2 ∧ MacO O h' b (stopR s).1) ∧ Ext (fun y => y = b) h h') := by
 obtain ⟨hk, vs, kb, hv⟩ := k
 have hvl := hv.1
 refine CallsH.of Tryd.func23 rfl rfl ?_
 refine xrd Tryd.func23 1 [0, 2] rfl ?_
 refine G.seq rfl ?_
 refine G.block rfl rfl ?_
 refine xra Tryd.func23 1 rfl ?_
 refine xo rfl (OpX.call (vs := [_]) Tryd.func49 rfl H.nm49 rfl (CallsH.toX ((mnone_made kb)))) ?_
 rintro _ h ⟨rfl, rfl⟩
 refine xqd 1 [0, 2, 3] rfl ?_
 refine G.cond rfl rfl (fun hc => absurd hc (by decide)) (fun _ => ?_)
 refine xra Tryd.func23 2 rfl ?_
 refine xp rfl (OpP.fieldAddr (off := 27) Tryd.underlying60 rfl rfl H.sz3 rfl) ?_
 refine xp rfl (OpP.load H.ag3 rfl (kb.cell (i := 27) (macC_in hvl _))) ?_
 refine xqd 2 [0, 2, 3, 6] rfl ?_
 refine G.ite rfl rfl (fun h0 => ?_) (fun h0 => ?_)
 · have hS : stopR s = (s, 4) := if_pos (by omega)
   rw [hS]
   refine xrd Tryd.func23 1 [0, 2, 3, 6] rfl ?_
   refine G.ret Tryd.func23 rfl rfl ?_
   exact ⟨_, rfl, ⟨rfl, hk, vs, kb, hv⟩, Ext.refl _ _⟩
 · have hok := hk.stop
   have hS : stopR s = ((0, s.2), 0) := if_neg (by omega)
   rw [hS] at hok ⊢
   have kb : Blk h b 60 (.bool true :: (vs ++ [.int .i64 (s.1 : Nat)])) := kb
   refine G.skip rfl ?_
   refine G.blkEnd ?_
   refine xra Tryd.func23 2 rfl ?_
   refine xp rfl (OpP.fieldAddr (off := 27) Tryd.underlying60 rfl rfl H.sz3 rfl) ?_
   refine RW.op0 rfl rfl rfl (OpX.storeOne H.sz3 rfl rfl kb (by first | decide | exact of_decide_eq_true rfl | (simp; done) | (simp; omega)) rfl) ?_
   rintro _ h1 ⟨rfl, k1, x1, z1⟩
   refine xd [0, 2, 3, 6] rfl ?_
   refine xrd Tryd.func23 1 [0, 2, 3, 6] rfl ?_
   refine G.ret Tryd.func23 rfl rfl ?_
   refine ⟨_, rfl, ⟨rfl, hok, vs, ?_, hv.mv (Mv.ofExt x1 fun y _ q => ⟨fun e => q (.inl e), q⟩)⟩, x1⟩
   rw [← macC_setIn (v := .int .i64 0) hvl s.1 0 rfl]
   exact k1
theorem Keeps_calls {O : Nat → Prop} {h : Heap} {b : Nat} {s : Rg} (k : MacO O h b s) :
 CallsH Tryd.prog 32 #[.pointer (some ⟨b, 0, none⟩)] h (Ret fun v h' => v = .tuple #[.int .i32 (keepsR s).1, .bool (keepsR s).2] ∧ h' = h) := by
 obtain ⟨hk, vs, kb, hv⟩ := k
 have hvl := hv.1
 have hin := hk.in'
 refine CallsH.of Tryd.func32 rfl rfl ?_
 refine xrd Tryd.func32 2 [0, 2, 3] rfl ?_
 refine G.seq rfl ?_
 refine G.seq rfl ?_
 refine G.regTo1 [(12, .bool (decide (s.1 = 0)))] [(0, _), (2, _), (3, _)] ⟨rfl, rfl, rfl, trivial⟩ Tryd.func32 rfl ?_ ?_
 · refine xqm 1 rfl ?_
   refine xo rfl (OpX.call (vs := [_]) Tryd.func49 rfl H.nm49 rfl (CallsH.toX ((mnone_made kb)))) ?_
   rintro _ h ⟨rfl, rfl⟩
   refine xqm 1 rfl ?_
   refine RW.know (d := 6) (b' := false) rfl (rfl) ?_
   refine xqp 2 rfl rfl (OpP.fieldAddr (off := 27) Tryd.underlying60 rfl rfl H.sz3 rfl) ?_
   refine xp rfl (OpP.load H.ag3 rfl (kb.cell (i := 27) (macC_in hvl _))) ?_
   refine xqm 2 rfl ?_
   refine RW.done rfl ?_
   exact ⟨rfl, at_bool rfl (by rw [decide_eq_decide]; omega), rfl, rfl, rfl, trivial⟩
 · refine G.ite rfl rfl (fun h0 => ?_) (fun h0 => ?_)
   · have hS : keepsR s = (0, false) := if_pos h0
     rw [hS]
     refine xrd Tryd.func32 2 [0, 2, 3, 12] rfl ?_
     refine G.ret Tryd.func32 rfl rfl ?_
     exact ⟨_, rfl, rfl, rfl⟩
   · have hS : keepsR s = (96 + (s.1 : Int), true) := if_neg h0
     rw [hS]
     refine G.skip rfl ?_
     refine xra Tryd.func32 2 rfl ?_
     refine xp rfl (OpP.fieldAddr (off := 27) Tryd.underlying60 rfl rfl H.sz3 rfl) ?_
     refine xp rfl (OpP.load H.ag3 rfl (kb.cell (i := 27) (macC_in hvl _))) ?_
     refine xp rfl (OpP.convInt Tryd.underlying3 Tryd.underlying21 rfl) ?_
     refine xp rfl (OpP.add rfl rfl) ?_
     refine xp rfl (OpP.sub rfl rfl) ?_
     refine xqd 2 [0, 2, 3, 12] rfl ?_
     refine G.ret Tryd.func32 rfl rfl ?_
     refine ⟨_, rfl, ?_, rfl⟩
     rw [wrap_i32 (show -2147483648 ≤ (s.1 : Int) ∧ (s.1 : Int) < 2147483648 by omega), wrap_i32 (show -2147483648 ≤ 97 + (s.1 : Int) ∧ 97 + (s.1 : Int) < 2147483648 by omega), wrap_i32 (by omega)]
     rw [show 97 + (s.1 : Int) - 1 = 96 + (s.1 : Int) by omega]
     rfl
theorem Keys_calls {O : Nat → Prop} {h : Heap} {b : Nat} {s : Rg} (k : MacO O h b s) (r : Int) :
 CallsH Tryd.prog 26 #[.pointer (some ⟨b, 0, none⟩), .int .i32 r] h (Ret fun v h' => OwR 3 encKy h' h.size 27 v (keysR r s) ∧ Ext0 h h') := by
 obtain ⟨hk, vs, kb, hv⟩ := k
 have hvl := hv.1
 refine CallsH.of Tryd.func26 rfl rfl ?_
 refine xrd Tryd.func26 1 [0, 1, 4] rfl ?_
 refine G.seq rfl ?_
 refine G.seq rfl ?_
 refine G.regTo1 [(11, .bool (decide (¬ regP r = true)))] [(0, _), (1, _), (4, _)] ⟨rfl, rfl, rfl, trivial⟩ Tryd.func26 rfl ?_ ?_
 · refine xqm 1 rfl ?_
   refine xo rfl (OpX.call (vs := [_]) Tryd.func49 rfl H.nm49 rfl (CallsH.toX ((mnone_made kb)))) ?_
   rintro _ h ⟨rfl, rfl⟩
   refine xqm 1 rfl ?_
   refine RW.know (d := 7) (b' := false) rfl (rfl) ?_
   refine xqm 1 rfl ?_
   refine xo rfl (OpX.call (vs := [_]) Tryd.func50 rfl H.nm50 rfl (CallsH.toX (register_calls r))) ?_
   rintro _ h ⟨rfl, rfl⟩
   refine xqm 2 rfl ?_
   refine RW.done rfl ?_
   exact ⟨rfl, at_bool rfl (by cases regP r <;> rfl), rfl, rfl, rfl, trivial⟩
 · refine G.ite rfl rfl (fun h0 => ?_) (fun h0 => ?_)
   · have hS : keysR r s = [] := if_neg h0
     rw [hS]
     refine xrd Tryd.func26 1 [0, 1, 4, 11] rfl ?_
     refine G.ret Tryd.func26 rfl rfl ?_
     exact ⟨_, rfl, OwR.nil _ _ _ _ _, Ext.refl _ _⟩
   · have h0 := Classical.not_not.1 h0
     have hr := regP_iff.1 h0
     have hS : keysR r s = s.has (r - 97).toNat := if_pos h0
     rw [hS]
     obtain ⟨v, hvi, hvr⟩ := hv.2.2 (r - 97).toNat _ (Rg.has_some hk (by omega))
     refine G.skip rfl ?_
     refine xra Tryd.func26 2 rfl ?_
     refine xp rfl (OpP.sub rfl rfl) ?_
     refine xqp 1 rfl rfl (OpP.fieldAddr (off := 1) Tryd.underlying60 rfl rfl H.sz50 rfl) ?_
     rw [wrap_i32 (show _ by omega)]
     refine xp rfl (OpP.indexArr Tryd.underlying50 H.sz22 rfl rfl (r - 97).toNat (by omega) (by omega)) ?_
     refine xp rfl (OpP.load H.ag22 rfl (by rw [Nat.mul_one]; exact kb.cell (macC_at hvi _))) ?_
     refine xo rfl (OpX.call (vs := [_]) Tryd.func52 rfl H.nm52 rfl (CallsH.toX (cloneK_calls hvr (by have := hk.has (r - 97).toNat; omega)))) ?_
     rintro _ h1 ⟨ho, e1⟩
     refine xqd 1 [0, 1, 4, 11] rfl ?_
     refine G.ret Tryd.func26 rfl rfl ?_
     exact ⟨_, rfl, ho, e1⟩
theorem good_calls {h : Heap} (r : Int) : CallsH Tryd.prog 48 #[.int .i32 r] h (Ret fun v h' => v = .bool (decide (goodP r)) ∧ h' = h) := by
 refine CallsH.of Tryd.func48 rfl rfl ?_
 refine xrd Tryd.func48 1 [0, 2] rfl ?_
 refine G.seq rfl ?_
 refine G.regTo1 [(2, .bool (decide (goodP r)))] [(0, _)] ⟨rfl, trivial⟩ Tryd.func48 rfl ?_ ?_
 · refine xqm 3 rfl ?_
   refine RW.split (d := 5) rfl (fun c => ?_) (fun c => ?_)
   · have c := of_decide_eq_true c
     refine xqm 4 rfl ?_
     refine RW.split (d := 9) rfl (fun d => ?_) (fun d => ?_)
     · have d := of_decide_eq_true d
       refine xqm 8 rfl ?_
       refine RW.done rfl ?_
       exact ⟨rfl, at_bool rfl (by rw [decide_eq_true (show goodP r from .inl ⟨c, d⟩)]), rfl, trivial⟩
     · have d := of_decide_eq_false d
       refine xqm 3 rfl ?_
       refine RW.split (d := 12) rfl (fun e => ?_) (fun e => ?_)
       · have e := of_decide_eq_true e
         refine xqm 5 rfl ?_
         refine RW.done rfl ?_
         exact ⟨rfl, at_bool rfl (by rw [decide_eq_decide]; unfold goodP; omega), rfl, trivial⟩
       · have e := of_decide_eq_false e
         refine xqm 5 rfl ?_
         refine RW.done rfl ?_
         exact ⟨rfl, at_bool rfl (by rw [eq_comm, decide_eq_false (show ¬ goodP r by unfold goodP; omega)]), rfl, trivial⟩
   · have c := of_decide_eq_false c
     refine xqm 7 rfl ?_
     refine RW.split (d := 12) rfl (fun e => ?_) (fun e => ?_)
     · have e := of_decide_eq_true e
       refine xqm 5 rfl ?_
       refine RW.done rfl ?_
       exact ⟨rfl, at_bool rfl (by rw [decide_eq_decide]; unfold goodP; omega), rfl, trivial⟩
     · have e := of_decide_eq_false e
       refine xqm 5 rfl ?_
       refine RW.done rfl ?_
       exact ⟨rfl, at_bool rfl (by rw [eq_comm, decide_eq_false (show ¬ goodP r by unfold goodP; omega)]), rfl, trivial⟩
 · refine G.ret Tryd.func48 rfl rfl ?_
   exact ⟨_, rfl, rfl, rfl⟩
theorem toList_dec (x y : By) : ((bs x).toList == (bs y).toList) = decide (x = y) := by
 rw [toList_eq, decide_eq_decide]
 exact ⟨fun h => bs_inj h, fun h => by rw [h]⟩
theorem fieldsK : Tryd.prog.underlying 27 = some (.struct (Tryd.prog.fieldsOf 27)) := by kernel_rfl
theorem stoodK : Tryd.prog.stoodInHeld 27 = false := by kernel_rfl
theorem guardK : Tryd.prog.eqGuardType Tryd.prog.depth 27 = false := by kernel_rfl
theorem kyEqG {t : TypeId} (hf : ∃ f0 f1 f2 : Field, (Tryd.prog.fieldsOf t).toList = [f0, f1, f2] ∧ (f0.name ≠ "_" ∧ f0.type = 3 ∧ f0.offset = 0) ∧ (f1.name ≠ "_" ∧ f1.type = 21 ∧ f1.offset = 1) ∧ (f2.name ≠ "_" ∧ f2.type = 9 ∧ f2.offset = 2))
 (hi : isRowT Tryd.prog 3 = some false) (hj : isRowT Tryd.prog 21 = some false) (hs : isRowT Tryd.prog 9 = some false) (x y : Ky) (w : World) : (Op.eqFields 9999 (encKy x).toArray (encKy y).toArray (Tryd.prog.fieldsOf t).toList).run Tryd.prog w = .ok (decide (x = y)) w := by
 obtain ⟨f0, f1, f2, e, ⟨n0, t0, o0⟩, ⟨n1, t1, o1⟩, ⟨n2, t2, o2⟩⟩ := hf
 rw [e]
 have h2 := eqFields_one (P := Tryd.prog) (d := 9999) (xs := (encKy x).toArray) (ys := (encKy y).toArray) (fs := []) (w := w) n2 (by rw [t2]; exact hs) (u := .string (bs x.2.2)) (v := .string (bs y.2.2)) (by rw [o2]; rfl) (by rw [o2]; rfl) (by rw [t2]; exact run_equalIn_string w 9998 _ _ _ Tryd.underlying9) rfl
 have h1 := eqFields_one n1 (by rw [t1]; exact hj) (u := .int .i32 x.2.1) (v := .int .i32 y.2.1) (by rw [o1]; rfl) (by rw [o1]; rfl) (by rw [t1]; exact run_equalIn_int w 9998 _ _ _ _ _ Tryd.underlying21) h2
 have h0 := eqFields_one n0 (by rw [t0]; exact hi) (u := .int .i64 x.1) (v := .int .i64 y.1) (by rw [o0]; rfl) (by rw [o0]; rfl) (by rw [t0]; exact run_equalIn_int w 9998 _ _ _ _ _ Tryd.underlying3) h1
 rw [h0]
 congr 1
 obtain ⟨a, b, c⟩ := x
 obtain ⟨a', b', c'⟩ := y
 simp only [Prod.mk.injEq, beq_dec, Bool.and_true, toList_dec]
 rw [Bool.eq_iff_iff]
 simp
theorem kyEq (x y : Ky) (w : World) : (Op.eqFields 9999 (encKy x).toArray (encKy y).toArray (Tryd.prog.fieldsOf 27).toList).run Tryd.prog w = .ok (decide (x = y)) w :=
 kyEqG ⟨_, _, _, rfl, ⟨by decide, rfl, rfl⟩, ⟨by decide, rfl, rfl⟩, ⟨by decide, rfl, rfl⟩⟩ (by kernel_rfl) (by kernel_rfl) (by kernel_rfl) x y w
theorem keys_calls {h : Heap} {v w : Value} {O O' : Nat → Prop} {xs ys : List Ky} (hv : SlR eKy h O v xs) (hw : SlR eKy h O' w ys) :
 CallsH Tryd.prog 19 #[v, w] h (Ret fun r h' => r = .bool (decide (xs = ys)) ∧ h' = h) := by
 obtain ⟨va, vn, vc, rfl, hvs⟩ := hv.open
 obtain ⟨wa, wn, wc, rfl, hws⟩ := hw.open
 have hxl : xs.length = vn := hvs.len
 have hyl : ys.length = wn := hws.len
 have hvc := hvs.le
 have hvm := hvs.cap
 simp only [maxLen] at hvm
 refine CallsH.of Tryd.func19 rfl rfl ?_
 refine xrd Tryd.func19 1 [0, 1, 4] rfl ?_
 refine G.seq rfl ?_
 refine xra Tryd.func19 1 rfl ?_
 refine xp rfl (OpP.lenSlice Tryd.underlying22 rfl) ?_
 refine xqp 1 rfl rfl (OpP.lenSlice Tryd.underlying22 rfl) ?_
 refine xqd 1 [0, 1, 4, 10] rfl ?_
 refine G.ite rfl rfl (fun hne => ?_) (fun hne => ?_)
 · refine xrd Tryd.func19 1 [0, 1, 4, 10] rfl ?_
   refine G.ret Tryd.func19 rfl rfl ?_
   rw [decide_eq_false (fun k : xs = ys => hne (by rw [← hxl, ← hyl, k]))]
   exact ⟨_, rfl, rfl, rfl⟩
 · have hnn : vn = wn := by omega
   refine G.skip rfl ?_
   refine G.seq rfl ?_
   refine xrd Tryd.func19 1 [0, 1, 4, 5, 10] rfl ?_
   refine G.block rfl rfl ?_
   refine G.loop (σ := Nat) (fun i => [(0, .slice va vn vc), (1, .slice wa wn wc), (5, .int .i64 (i : Nat))]) (fun i h' => h' = h ∧ i ≤ vn ∧ ∀ j, j < i → xs[j]? = ys[j]?) (fun i => vn - i) (0) rfl ⟨rfl, rfl, rfl, trivial⟩ ⟨rfl, Nat.zero_le _, fun j hj => by omega⟩ ?_
   rintro i g ⟨rfl, hi, hin⟩ ih
   refine G.seq rfl ?_
   refine xra Tryd.func19 2 rfl ?_
   refine xp rfl (OpP.lenSlice Tryd.underlying22 rfl) ?_
   refine xqd 1 [0, 1, 5, 14] rfl ?_
   refine G.ite rfl rfl (fun hlt => ?_) (fun hlt => ?_)
   · have hlt' : i < vn := by omega
     obtain ⟨b1, o1, x, ha, _, hx, hrow⟩ := hvs.recd hlt'
     obtain ⟨b2, o2, y, hb, _, hy, hrow2⟩ := hws.recd (i := i) (by omega)
     refine G.skip rfl ?_
     refine G.seq rfl ?_
     refine G.block rfl rfl ?_
     refine G.seq rfl ?_
     refine G.drawQ Tryd.func19 H.mixed rfl (by kernel_rfl) ?_
     refine RQ.pureS rfl rfl rfl rfl (OpP.move rfl) ?_
     refine RQ.pureS rfl rfl rfl rfl (OpP.move rfl) ?_
     refine RQ.pureS rfl rfl rfl rfl (OpP.indexSlice Tryd.underlying22 H.sz27 rfl rfl i rfl ha (by omega)) ?_
     refine RQ.pureS rfl rfl rfl rfl (OpP.loadRowN H.ag27 H.sz27 rfl hrow (by first | rfl | (simp; done) | (simp; omega))) ?_
     refine RQ.pureS rfl rfl rfl rfl (OpP.move rfl) ?_
     refine RQ.pureS rfl rfl rfl rfl (OpP.move rfl) ?_
     refine RQ.pureS rfl rfl rfl rfl (OpP.indexSlice Tryd.underlying22 H.sz27 rfl rfl i rfl hb (by omega)) ?_
     refine RQ.pureS rfl rfl rfl rfl (OpP.loadRowN H.ag27 H.sz27 rfl hrow2 (by first | rfl | (simp; done) | (simp; omega))) ?_
     refine RQ.pureS rfl rfl rfl rfl (OpP.neqAgg fieldsK stoodK guardK rfl rfl (kyEq _ _)) ?_
     refine RQ.done rfl ?_
     refine xu [0, 1, 5, 14, 25] rfl ?_
     refine G.cond rfl rfl (fun hk => ?_) (fun hk => ?_)
     · have hk' : ¬ x = y := by simpa using hk
       refine xrd Tryd.func19 1 [0, 1, 4, 5, 14, 25] rfl ?_
       refine G.ret Tryd.func19 rfl rfl ?_
       rw [decide_eq_false (fun k : xs = ys => hk' (by rw [k, hy] at hx; exact (Option.some.inj hx).symm))]
       exact ⟨_, rfl, rfl, rfl⟩
     · have hk' : x = y := by simpa using hk
       subst hk'
       refine G.skip rfl ?_
       refine G.blkEnd ?_
       refine G.reg Tryd.func19 rfl ?_
       refine xqp 1 rfl rfl (OpP.add64 rfl rfl ⟨by omega, by omega⟩) ?_
       refine xqd 1 [0, 1, 5, 14, 25] rfl ?_
       exact ih (i + 1) _ _ ⟨rfl, rfl, rfl, trivial⟩ ⟨rfl, by omega, fun j hj => by rcases Nat.lt_or_ge j i with q | q; exact hin j q; obtain rfl : j = i := (by omega); rw [hx, hy]⟩ (by omega)
   · obtain rfl : i = vn := by omega
     refine G.exit rfl rfl ?_
     refine xrd Tryd.func19 1 [0, 1, 4, 5, 14] rfl ?_
     refine G.ret Tryd.func19 rfl rfl ?_
     rw [decide_eq_true (show xs = ys from List.ext_getElem? fun j => by
      rcases Nat.lt_or_ge j i with q | q
      · exact hin j q
      · rw [List.getElem?_eq_none (by omega), List.getElem?_eq_none (by omega)])]
     exact ⟨_, rfl, rfl, rfl⟩
def GreatP (l : List Ky) (n : Int) : Prop := (∃ k ∈ l, 100 < k.2.2.length) ∨ n < l.length
theorem keep_calls {O O' : Nat → Prop} {h : Heap} {b : Nat} {s : Rg} (k : MacO O h b s) {v : Value} {l : List Ky} (hl : SlR eKy h O' v l) (hll : l.length ≤ 1000) (hO : ∀ y, O y → y < h.size) :
 CallsH Tryd.prog 51 #[.pointer (some ⟨b, 0, none⟩), v] h (Ret fun r h' => (r = .int .i64 (keepR l s).2 ∧ MacO O h' b (keepR l s).1) ∧ Ext (fun y => y = b) h h') := by
 obtain ⟨hk, vs, kb, hv⟩ := k
 have hvl := hv.1
 have hin := hk.in'
 obtain ⟨la, ln, lc, rfl, hls⟩ := hl.open
 have hln : l.length = ln := hls.len
 subst hln
 have hlc := hls.le
 refine CallsH.of Tryd.func51 rfl rfl ?_
 refine xrd Tryd.func51 1 [0, 1, 4] rfl ?_
 refine G.seq rfl ?_
 refine xra Tryd.func51 2 rfl ?_
 refine xp rfl (OpP.fieldAddr (off := 27) Tryd.underlying60 rfl rfl H.sz3 rfl) ?_
 refine xp rfl (OpP.load H.ag3 rfl (kb.cell (i := 27) (macC_in hvl _))) ?_
 refine xqd 1 [0, 1, 4, 10] rfl ?_
 refine G.ite rfl rfl (fun h0 => ?_) (fun h0 => ?_)
 · have hS : keepR l s = (s, 0) := if_pos (by omega)
   rw [hS]
   refine xrd Tryd.func51 1 [0, 1, 4, 10] rfl ?_
   refine G.ret Tryd.func51 rfl rfl ?_
   exact ⟨_, rfl, ⟨rfl, hk, vs, kb, hv⟩, Ext.refl _ _⟩
 · have h0 : ¬ s.1 = 0 := by omega
   obtain ⟨v, hvi, hvr⟩ := hv.2.2 (s.1 - 1) _ (Rg.has_some hk (by omega))
   have hhl := hk.has (s.1 - 1)
   have hok := hk.keep l
   unfold keepR at hok ⊢
   rw [if_neg h0] at hok ⊢
   obtain ⟨va, vn, vc, rfl, hvsl⟩ := hvr.open
   have hvn : (s.has (s.1 - 1)).length = vn := hvsl.len
   refine G.skip rfl ?_
   refine G.seq rfl ?_
   refine G.drawQ Tryd.func51 H.mixed rfl (by kernel_rfl) ?_
   refine RQ.pureS rfl rfl rfl rfl (OpP.move rfl) ?_
   refine RQ.pureS rfl rfl rfl rfl (OpP.move rfl) ?_
   refine RQ.pureS rfl rfl rfl rfl (OpP.nilCheck rfl) ?_
   refine RQ.pureS rfl rfl rfl rfl (OpP.fieldAddr (off := 27) Tryd.underlying60 rfl rfl H.sz3 rfl) ?_
   refine RQ.pureS rfl rfl rfl rfl (OpP.load H.ag3 rfl (kb.cell (i := 27) (macC_in hvl _))) ?_
   refine RQ.pureS rfl rfl rfl rfl (OpP.sub64 rfl rfl ⟨by omega, by omega⟩) ?_
   refine RQ.pureS rfl rfl rfl rfl (OpP.nilCheck rfl) ?_
   refine RQ.pureS rfl rfl rfl rfl (OpP.fieldAddr (off := 1) Tryd.underlying60 rfl rfl H.sz50 rfl) ?_
   refine RQ.pureS rfl rfl rfl rfl (OpP.indexArr Tryd.underlying50 H.sz22 rfl rfl (s.1 - 1) (by omega) (by omega)) ?_
   refine RQ.pureS rfl rfl rfl rfl (OpP.load H.ag22 rfl (by rw [Nat.mul_one]; exact kb.cell (macC_at hvi _))) ?_
   refine RQ.pureS rfl rfl rfl rfl (OpP.assign rfl) ?_
   refine RQ.done rfl ?_
   refine xu [0, 1, 4, 5, 10] rfl ?_
   refine G.seq rfl ?_
   refine xra Tryd.func51 1 rfl ?_
   refine xp rfl (OpP.lenSlice Tryd.underlying22 rfl) ?_
   refine xqp 1 rfl rfl (OpP.lenSlice Tryd.underlying22 rfl) ?_
   refine xp rfl (OpP.add64 rfl rfl ⟨by omega, by omega⟩) ?_
   refine xqd 1 [0, 1, 4, 5, 10, 26] rfl ?_
   refine G.ite rfl rfl (fun hgt => ?_) (fun hgt => ?_)
   · rw [if_pos (by omega)]
     refine xrd Tryd.func51 1 [0, 1, 4, 5, 10, 26] rfl ?_
     refine G.ret Tryd.func51 rfl rfl ?_
     exact ⟨_, rfl, ⟨rfl, hk, vs, kb, hv⟩, Ext.refl _ _⟩
   · rw [if_neg (by omega)] at hok ⊢
     have kb' : Blk h b 60 (.bool true :: (vs ++ [.int .i64 (s.1 : Nat)])) := kb
     refine G.skip rfl ?_
     refine G.seq rfl ?_
     refine G.draw (fun b => Array.size h ≤ b) (fun i => Nat.blt i 13) (sz := 14) (listed := #[false, false, false, false, false, false, false, false, false, false, false, false, false, false]) Tryd.func51 H.mixed rfl rfl rfl ?_
     refine xtq 0 1 (by kernel_rfl) rfl ?_
     refine xtq 1 3 (by kernel_rfl) rfl ?_
     refine xtq 2 7 (by kernel_rfl) rfl ?_
     refine xtp 3 15 (by kernel_rfl) rfl (fun h' e => OpP.fieldAddr (off := 27) Tryd.underlying60 rfl rfl H.sz3 rfl) ?_
     refine xtp 4 31 (by kernel_rfl) rfl (fun h' e => OpP.load H.ag3 rfl (e.old (kb.cell (i := 27) (macC_in hvl _)))) ?_
     refine xtp 5 63 (by kernel_rfl) rfl (fun h' e => OpP.sub64 rfl rfl ⟨by omega, by omega⟩) ?_
     refine xtq 6 127 (by kernel_rfl) rfl ?_
     refine xtq 8 383 (by kernel_rfl) rfl ?_
     refine xtq 10 1407 (by kernel_rfl) rfl ?_
     refine xtp 11 3455 (by kernel_rfl) rfl (fun h' e => OpP.fieldAddr (off := 1) Tryd.underlying60 rfl rfl H.sz50 rfl) ?_
     refine xto 7 3583 (by kernel_rfl) rfl (OpX.call (vs := [_]) Tryd.func52 rfl H.nm52 rfl (CallsH.toX (cloneK_calls hvr (by omega)))) ?_
     rintro v1 h1 ⟨ho1, e1⟩
     refine ⟨fun _ => e1.of, ?_⟩
     have z1 := e1.size
     have hrow := (hls.mv (Mv.ext0 e1)).rowR
     refine xto 9 4095 (by kernel_rfl) rfl (OpX.append Tryd.underlying22 H.el27 rfl rfl ho1 (flatMap_len (enc := encKy) (sz := 3) (fun _ => rfl) l) hrow (fun u hu => by obtain ⟨x, _, hx⟩ := List.mem_flatMap.1 hu; exact ky_one x u hx) (by simp only [maxLen]; omega) (by omega) (by omega)) ?_
     rintro v2 h2 ⟨ho2, hx2, _, hv2⟩
     refine ⟨fun _ => hx2.mono (fun y _ q => by have := (OwnH.lt ho1 q.symm).1; omega), ?_⟩
     have own1 : ∀ y, v1.ownBlock = some y → h.size ≤ y := fun y q => (OwnH.lt ho1 q).1
     have hbl := kb.lt
     have kb2 : Blk h2 b 60 (.bool true :: (vs ++ [.int .i64 (s.1 : Nat)])) := (kb'.ext0 e1).ext hx2 (fun q => by have := own1 _ q.symm; omega)
     have e02 : Ext0 h h2 := Ext.own e1 ho1 (Nat.le_refl _) hx2
     refine xtp 12 8191 (by kernel_rfl) rfl (fun h' e => OpP.indexArr Tryd.underlying50 H.sz22 rfl rfl (s.1 - 1) (by omega) (by omega)) ?_
     refine xt0 13 16383 (by kernel_rfl) rfl (OpX.storeOne H.sz22 rfl rfl kb2 (by first | decide | exact of_decide_eq_true rfl | (simp; done) | (simp; omega)) (by obtain ⟨_, _, rfl, _⟩ := OwnH.open ho2; rfl)) ?_
     rintro _ h3 ⟨rfl, k3, x3, z3⟩
     refine ⟨fun hk => (nomatch hk), ?_⟩
     refine RD.done (by kernel_rfl) ?_
     refine xu [0, 1, 4, 5, 10, 26] rfl ?_
     refine xrd Tryd.func51 1 [0, 1, 4, 5, 10, 26] rfl ?_
     refine G.ret Tryd.func51 rfl rfl ?_
     rw [Nat.mul_one] at k3
     have x03 : Ext (fun y => y = b) h h3 := (Ext0.of e02).trans x3
     have ho2' : OwR 3 encKy h2 h.size 27 v2 (s.has (s.1 - 1) ++ l) := by unfold OwR; rw [List.length_append, List.flatMap_append]; exact ho2
     have hr3 : SlR eKy h2 (fun x => x = b ∨ O x) v2 (s.has (s.1 - 1) ++ l) := OwR.read ho2' (fun y hy q => by rcases q with q | q; omega; have := hO y q; omega)
     refine ⟨_, rfl, ⟨rfl, hok, vs.set (s.1 - 1) v2, ?_, RegsR.set (hv.mv (Mv.ofExt x03 fun y _ q => ⟨fun e => q (.inl e), q⟩)) _ (hr3.mv (Mv.ofExt x3 fun y _ q => ⟨fun e => q (.inl e), q⟩))⟩, x03⟩
     rw [← macC_set (by omega)]
     exact k3
theorem Key_put {O : Nat → Prop} {h : Heap} (hg : MacG h) {b : Nat} {s : Rg} (k : MacO O h b s) (x : Ky) (hO : ∀ y, O y → y < h.size) :
 CallsH Tryd.prog 25 #[.pointer (some ⟨b, 0, none⟩), .agg (encKy x).toArray] h (Ret fun r h' => (r = .int .i64 (keyR x s).2 ∧ MacO O h' b (keyR x s).1) ∧ Ext (fun y => y = b) h h') := by
 obtain ⟨kd, r, t⟩ := x
 have hbl := k.lt
 refine CallsH.of Tryd.func25 rfl rfl ?_
 refine xr Tryd.func25 rfl ?_
 refine xo rfl (OpX.boxN rfl) ?_
 rintro _ h1 ⟨rfl, k1, e1, z1⟩
 refine xqd 1 [0, 1, 3, 4] rfl ?_
 refine G.seq rfl ?_
 refine G.block rfl rfl ?_
 refine xra Tryd.func25 1 rfl ?_
 have k1 : Blk h1 h.size 27 (encKy (kd, r, t)) := k1
 have km := k.ext0 e1
 obtain ⟨hk, vs, kb, hv⟩ := id km
 refine xo rfl (OpX.call (vs := [_]) Tryd.func49 rfl H.nm49 rfl (CallsH.toX ((mnone_made kb)))) ?_
 rintro _ h1 ⟨rfl, rfl⟩
 refine xqd 1 [0, 1, 3, 4, 5] rfl ?_
 refine G.cond rfl rfl (fun hc => absurd hc (by decide)) (fun _ => ?_)
 refine xr Tryd.func25 rfl ?_
 refine xp rfl (OpP.loadRowN H.ag27 H.sz27 rfl k1.row (by first | rfl | (simp; done) | (simp; omega))) ?_
 refine xo rfl (OpX.call (vs := [_]) Tryd.func34 rfl H.nm34 rfl (CallsH.toX (may_calls (hg.ext0 e1) (kd, r, t)))) ?_
 rintro _ h2 ⟨rfl, e2⟩
 refine xqd 2 [0, 1, 3, 4, 5, 8] rfl ?_
 have e02 := e1.trans e2
 refine G.cond rfl rfl (fun hm => ?_) (fun hm => ?_)
 · have hm : mayP (kd, r, t) = false := by simpa using hm
   have hS : keyR (kd, r, t) s = (s, 2) := if_neg (by rw [hm]; decide)
   rw [hS]
   refine xrd Tryd.func25 1 [0, 1, 3, 4, 5, 8] rfl ?_
   refine G.ret Tryd.func25 rfl rfl ?_
   exact ⟨_, rfl, ⟨rfl, k.ext0 e02⟩, Ext0.of e02⟩
 · have hm : mayP (kd, r, t) = true := by simpa using hm
   have hS : keyR (kd, r, t) s = keepR [(kd, r, t)] s := if_pos hm
   rw [hS]
   refine G.skip rfl ?_
   refine G.blkEnd ?_
   refine xra Tryd.func25 1 rfl ?_
   refine xp rfl (OpP.loadRowN H.ag27 H.sz27 rfl (k1.ext0 e2).row (by first | rfl | (simp; done) | (simp; omega))) ?_
   refine xo rfl (OpX.buildRec (cs := [_, _, _]) Tryd.underlying22 H.el27 rfl rfl (by decide)) ?_
   rintro _ h3 ⟨rfl, hh3⟩
   have e3 : Ext0 h2 h3 := by rw [hh3]; exact Ext.push _ _ _
   have hsl : SlR eKy h3 (fun _ => False) (.slice (some ⟨h2.size, 0, none⟩) 1 1) [(kd, r, t)] := by rw [hh3]; exact recs_made h2 [(kd, r, t)] _ 1 rfl (by decide) rfl
   have e03 := e02.trans e3
   refine xo rfl (OpX.call (vs := [_, _]) Tryd.func51 rfl H.nm51 rfl (CallsH.toX (keep_calls (k.ext0 e03) hsl (by simp) (fun y hy => by have := hO y hy; have := e03.size; omega)))) ?_
   rintro _ h4 ⟨⟨rfl, k4⟩, x4⟩
   refine xqd 1 [0, 1, 3, 4, 5, 8] rfl ?_
   refine G.ret Tryd.func25 rfl rfl ?_
   exact ⟨_, rfl, ⟨rfl, k4⟩, (Ext0.of e03).trans x4⟩
theorem macs_one {h : Heap} {O : Nat → Prop} {vs : List Value} {s : Rg} (hk : RgOk s) (hv : RegsR h O vs s.2) (k : Nat) : ∀ v ∈ (.bool true :: (vs ++ [.int .i64 (k : Nat)]) : List Value).toArray.toList, v.oneCell' = true := by
 intro v hv'
 have hvl := hv.1
 have hv' : v ∈ (Value.bool true :: (vs ++ [Value.int .i64 (k : Nat)])) := hv'
 rcases List.mem_cons.1 hv' with rfl | hv'
 · rfl
 · rcases List.mem_append.1 hv' with q | q
   · obtain ⟨i, hi⟩ := List.getElem?_of_mem q
     obtain ⟨w, hw, hr⟩ := hv.2.2 i _ (Rg.has_some hk (by have := (List.getElem?_eq_some_iff.1 hi).1; omega))
     rw [hi] at hw; cases hw
     obtain ⟨_, _, _, rfl, _⟩ := hr.open
     rfl
   · have q : v = .int .i64 (k : Nat) := by simpa using q
     rw [q]; rfl
theorem Copy_calls {O : Nat → Prop} {h : Heap} {b : Nat} {s : Rg} (k : MacO O h b s) :
 CallsH Tryd.prog 30 #[.pointer (some ⟨b, 0, none⟩)] h (Ret fun r h' => (r = .pointer (some ⟨h.size, 0, none⟩) ∧ MacO (fun y => y = b ∨ O y) h' h.size s) ∧ Ext0 h h') := by
 have hbl := k.lt
 obtain ⟨hk, vs, kb, hv⟩ := id k
 have hvl := hv.1
 refine CallsH.of Tryd.func30 rfl rfl ?_
 refine xrd Tryd.func30 1 [0, 2] rfl ?_
 refine G.seq rfl ?_
 refine xra Tryd.func30 1 rfl ?_
 refine xo rfl (OpX.call (vs := [_]) Tryd.func49 rfl H.nm49 rfl (CallsH.toX ((mnone_made kb)))) ?_
 rintro _ h ⟨rfl, rfl⟩
 refine xd [0, 2, 5] rfl ?_
 refine G.cond rfl rfl (fun hc => absurd hc (by decide)) (fun _ => ?_)
 have kb' : Blk h b 60 (.bool true :: (vs ++ [.int .i64 (s.1 : Nat)])) := kb
 refine G.skip rfl ?_
 refine xra Tryd.func30 2 rfl ?_
 refine xp rfl (OpP.loadRowN H.ag60 H.sz60 rfl kb'.row (by first | rfl | (simp; done) | (simp; omega))) ?_
 refine xo rfl (OpX.allocN H.zr60) ?_
 rintro _ h1 ⟨rfl, k1, e1, z1⟩
 refine RW.op0 rfl rfl rfl (OpX.storeBlk H.sz60 rfl rfl k1 (by first | rfl | (simp; done) | (simp; omega)) (by first | decide | exact of_decide_eq_true rfl | (simp; done) | (simp; omega)) (macs_one hk hv s.1)) ?_
 rintro _ h2 ⟨rfl, k2, x2, z2⟩
 refine xd [0, 2, 3, 5] rfl ?_
 refine xrd Tryd.func30 1 [0, 2, 3, 5] rfl ?_
 refine G.ret Tryd.func30 rfl rfl ?_
 have x02 : Ext0 h h2 := Ext0.only e1 x2 (Nat.le_refl _)
 refine ⟨_, rfl, ⟨rfl, hk, vs, ?_, hv.mv (Mv.ofExt x02 fun y hy q => ⟨id, fun r => by rcases r with r | r; omega; exact q r⟩)⟩, x02⟩
 refine (congrArg (Blk h2 h.size _) ?_).mp k2
 show over _ 0 _ = macC vs s.1
 unfold over macC
 simp [hvl, Value.cells]
theorem keep_same (l : List Ky) (s : Rg) (h : (keepR l s).2 ≠ 0) : (keepR l s).1 = s := by
 unfold keepR at h ⊢
 split
 · rfl
 · rename_i h1
   rw [if_neg h1] at h
   split
   · rfl
   · rename_i h2
     rw [if_neg h2] at h
     exact absurd rfl h
theorem Play_calls {O : Nat → Prop} {h : Heap} {b : Nat} {s : Rg} (k : MacO O h b s) (r n : Int) (hO : ∀ y, O y → y < h.size) :
 CallsH Tryd.prog 24 #[.pointer (some ⟨b, 0, none⟩), .int .i32 r, .int .i64 n] h (Ret fun v h' => (∃ w, v = .tuple #[w, .int .i64 (playR r n s).2.2] ∧ OwR 3 encKy h' h.size 27 w (playR r n s).1 ∧ MacO O h' b (playR r n s).2.1) ∧ Ext (fun y => y = b) h h') := by
 have hbl := k.lt
 obtain ⟨hk, vs, kb, hv⟩ := id k
 have hvl := hv.1
 have hin := hk.in'
 refine CallsH.of Tryd.func24 rfl rfl ?_
 refine xrd Tryd.func24 2 [0, 1, 2, 6, 7] rfl ?_
 refine G.seq rfl ?_
 refine G.block rfl rfl ?_
 refine xra Tryd.func24 1 rfl ?_
 refine xo rfl (OpX.call (vs := [_]) Tryd.func49 rfl H.nm49 rfl (CallsH.toX ((mnone_made kb)))) ?_
 rintro _ h ⟨rfl, rfl⟩
 refine xqd 1 [0, 1, 2, 6, 7, 11] rfl ?_
 refine G.cond rfl rfl (fun hc => absurd hc (by decide)) (fun _ => ?_)
 refine G.seq rfl ?_
 refine G.regTo1 [(14, .bool (decide (¬ (regP r = true ∧ 0 ≤ n ∧ (s.1 : Int) ≠ r - 96))))] [(0, _), (1, _), (2, _), (6, _), (7, _), (11, _)] ⟨rfl, rfl, rfl, rfl, rfl, rfl, trivial⟩ Tryd.func24 rfl ?_ ?_
 · refine xqm 1 rfl ?_
   refine xo rfl (OpX.call (vs := [_]) Tryd.func50 rfl H.nm50 rfl (CallsH.toX (register_calls r))) ?_
   rintro _ h ⟨rfl, rfl⟩
   refine xqm 2 rfl ?_
   refine RW.split (d := 18) rfl (fun c => ?_) (fun c => ?_)
   · have c' : regP r = false := by simpa using c
     refine xqm 15 rfl ?_
     refine RW.done rfl ?_
     exact ⟨rfl, at_bool rfl (by simp [c']), rfl, rfl, rfl, rfl, rfl, rfl, trivial⟩
   · have c' : regP r = true := by simpa using c
     have hr := regP_iff.1 c'
     refine xqm 4 rfl ?_
     refine RW.split (d := 22) rfl (fun d => ?_) (fun d => ?_)
     · have d := of_decide_eq_true d
       refine xqm 11 rfl ?_
       refine RW.done rfl ?_
       exact ⟨rfl, at_bool rfl (by rw [eq_comm, decide_eq_true]; omega), rfl, rfl, rfl, rfl, rfl, rfl, trivial⟩
     · have d := of_decide_eq_false d
       have hw : IntKind.i32.wrap (r - 97) = r - 97 := wrap_i32 (by omega)
       refine xqp 2 rfl rfl (OpP.fieldAddr (off := 27) Tryd.underlying60 rfl rfl H.sz3 rfl) ?_
       refine xp rfl (OpP.load H.ag3 rfl (kb.cell (i := 27) (macC_in hvl _))) ?_
       refine xqp 1 rfl rfl (OpP.sub rfl rfl) ?_
       refine xp rfl (OpP.convIn Tryd.underlying21 Tryd.underlying3 rfl (wrap_i64 (by rw [hw]; omega))) ?_
       refine xp rfl (OpP.add64 rfl rfl ⟨by rw [hw]; omega, by rw [hw]; omega⟩) ?_
       refine xqm 3 rfl ?_
       refine RW.done rfl ?_
       exact ⟨rfl, at_bool rfl (by rw [hw, decide_eq_decide]; simp only [c', eq_self, true_and]; omega), rfl, rfl, rfl, rfl, rfl, rfl, trivial⟩
 · refine G.ite rfl rfl (fun hc => ?_) (fun hc => ?_)
   · have hS : playR r n s = ([], s, 2) := if_neg hc
     rw [hS]
     refine xrd Tryd.func24 2 [0, 1, 2, 6, 7, 11, 14] rfl ?_
     refine G.ret Tryd.func24 rfl rfl ?_
     exact ⟨_, rfl, ⟨_, rfl, OwR.nil _ _ _ _ _, k⟩, Ext.refl _ _⟩
   · have hc := Classical.not_not.1 hc
     have hr := regP_iff.1 hc.1
     unfold playR
     rw [if_pos hc]
     obtain ⟨v, hvi, hvr⟩ := hv.2.2 (r - 97).toNat _ (Rg.has_some hk (by omega))
     have hhl := hk.has (r - 97).toNat
     obtain ⟨L, hL⟩ : ∃ L, L = s.has (r - 97).toNat := ⟨_, rfl⟩
     rw [← hL] at hvr hhl ⊢
     obtain ⟨va, vn, vc, rfl, hvs⟩ := hvr.open
     have hvn : L.length = vn := hvs.len
     subst hvn
     have hw : IntKind.i32.wrap (r - 97) = r - 97 := wrap_i32 (by omega)
     refine G.skip rfl ?_
     refine G.blkEnd ?_
     refine xra Tryd.func24 2 rfl ?_
     refine xp rfl (OpP.sub rfl rfl) ?_
     refine xqp 1 rfl rfl (OpP.fieldAddr (off := 1) Tryd.underlying60 rfl rfl H.sz50 rfl) ?_
     refine xp rfl (OpP.indexArr Tryd.underlying50 H.sz22 rfl rfl (r - 97).toNat (by rw [hw]; omega) (by omega)) ?_
     refine xp rfl (OpP.load H.ag22 rfl (by rw [Nat.mul_one]; exact kb.cell (macC_at hvi _))) ?_
     refine xqd 1 [0, 1, 2, 6, 7, 8, 11, 14] rfl ?_
     refine G.seq rfl ?_
     refine G.seq rfl ?_
     refine G.regTo1 [(49, .bool (decide (500 < n * L.length)))] [(0, _), (1, _), (2, _), (6, _), (7, _), (8, _), (11, _), (14, _)] ⟨rfl, rfl, rfl, rfl, rfl, rfl, rfl, rfl, trivial⟩ Tryd.func24 rfl ?_ ?_
     · refine xqp 1 rfl rfl (OpP.lenSlice Tryd.underlying22 rfl) ?_
       refine xqm 2 rfl ?_
       refine RW.split (d := 43) rfl (fun c => ?_) (fun c => ?_)
       · have c := of_decide_eq_true c
         have hdv : n ≤ (500 : Int).tdiv (L.length : Nat) ↔ n * L.length ≤ 500 := by
          rw [Int.tdiv_eq_ediv_of_nonneg (by omega), Int.le_ediv_iff_mul_le (by omega)]
         have hd0 : 0 ≤ (500 : Int).tdiv (L.length : Nat) ∧ (500 : Int).tdiv (L.length : Nat) ≤ 500 := by
          rw [Int.tdiv_eq_ediv_of_nonneg (by omega)]
          exact ⟨Int.ediv_nonneg (by omega) (by omega), Int.ediv_le_self _ (by omega)⟩
         refine xqp 2 rfl rfl (OpP.lenSlice Tryd.underlying22 rfl) ?_
         refine xp rfl (OpP.quo rfl rfl (by omega)) ?_
         refine xqm 2 rfl ?_
         refine RW.done rfl ?_
         exact ⟨rfl, at_bool rfl (by rw [wrap_i64 (by omega), decide_eq_decide]; omega), rfl, rfl, rfl, rfl, rfl, rfl, rfl, rfl, trivial⟩
       · have c := of_decide_eq_false c
         refine xqm 6 rfl ?_
         refine RW.done rfl ?_
         exact ⟨rfl, at_bool rfl (by rw [eq_comm, decide_eq_false]; rw [show (L.length : Int) = 0 by omega]; omega), rfl, rfl, rfl, rfl, rfl, rfl, rfl, rfl, trivial⟩
     · refine G.ite rfl rfl (fun hf => ?_) (fun hf => ?_)
       · refine xrd Tryd.func24 2 [0, 1, 2, 6, 7, 8, 11, 14, 49] rfl ?_
         refine G.ret Tryd.func24 rfl rfl ?_
         rw [if_pos hf]
         exact ⟨_, rfl, ⟨_, rfl, OwR.nil _ _ _ _ _, k⟩, Ext.refl _ _⟩
       · rw [if_neg hf]
         obtain ⟨m, hm⟩ : ∃ m : Nat, (if 500 < n then 500 else n) = (m : Nat) := ⟨(if 500 < n then 500 else n).toNat, by split <;> omega⟩
         have hmn : (m : Int) = n ∨ (m = 500 ∧ 500 < n) := by split at hm <;> omega
         have htm : timesR n.toNat L = timesR m L := by
          by_cases hL0 : L.length = 0
          · rw [List.eq_nil_iff_length_eq_zero.2 hL0, times_nil, times_nil]
          · have : n ≤ 500 := Int.le_trans (by have := Int.mul_le_mul_of_nonneg_left (show (1 : Int) ≤ (L.length : Nat) by omega) hc.2.1; rwa [Int.mul_one] at this) (Int.not_lt.1 hf)
            rw [show n.toNat = m by omega]
         have hml : m * L.length ≤ 500 := by
          have := Nat.mul_le_mul_right L.length (show m ≤ n.toNat by omega)
          have h2 : ((n.toNat * L.length : Nat) : Int) = n * L.length := by rw [Int.natCast_mul, Int.toNat_of_nonneg hc.2.1]
          omega
         rw [htm]
         refine G.skip rfl ?_
         refine xrd Tryd.func24 1 [0, 1, 2, 6, 7, 8, 9, 11, 14, 49] rfl ?_
         refine G.seq rfl ?_
         refine xra Tryd.func24 1 rfl ?_
         refine xp rfl (OpP.min2 rfl rfl) ?_
         refine xqd 1 [0, 1, 2, 6, 7, 8, 9, 11, 14, 49, 51, 52] rfl ?_
         refine G.block rfl rfl ?_
         rw [hm]
         refine G.loop (σ := Nat × Value) (fun q => [(0, .pointer (some ⟨b, 0, none⟩)), (8, .slice va L.length vc), (9, q.2), (51, .int .i64 (m : Nat)), (52, .int .i64 (q.1 : Nat))]) (fun q h' => q.1 ≤ m ∧ OwR 3 encKy h' h.size 27 q.2 (timesR q.1 L) ∧ Ext0 h h') (fun q => m - q.1) ((0, .slice none 0 0)) rfl ⟨rfl, rfl, rfl, rfl, rfl, trivial⟩ ⟨Nat.zero_le _, OwR.nil _ _ _ _ _, Ext.refl _ _⟩ ?_
         rintro ⟨i, w⟩ g ⟨hi, hw', eg⟩ ih
         try dsimp only
         dsimp only at hi hw'
         have hil := Nat.mul_le_mul_right L.length hi
         have htl := times_len i L
         have zg := eg.size
         refine xrd Tryd.func24 1 [0, 8, 9, 51, 52, 53] rfl ?_
         refine G.seq rfl ?_
         refine G.ite rfl rfl (fun hlt => ?_) (fun hlt => ?_)
         · have hil2 := Nat.mul_le_mul_right L.length (show i + 1 ≤ m by omega)
           rw [Nat.succ_mul] at hil2
           have hrow := (hvs.mv (Mv.ext0 eg)).rowR
           refine G.skip rfl ?_
           refine G.seq rfl ?_
           refine G.block rfl rfl ?_
           refine G.reg Tryd.func24 rfl ?_
           refine xqm 2 rfl ?_
           refine xo rfl (OpX.append Tryd.underlying22 H.el27 rfl rfl hw' (flatMap_len (enc := encKy) (sz := 3) (fun _ => rfl) L) hrow (fun u hu => by obtain ⟨x, _, hx⟩ := List.mem_flatMap.1 hu; exact ky_one x u hx) (by simp only [maxLen]; omega) (by omega) (by omega)) ?_
           rintro v2 h2 ⟨ho2, hx2, _, hv2⟩
           refine xqd 1 [0, 8, 9, 51, 52, 53] rfl ?_
           refine G.blkEnd ?_
           refine G.reg Tryd.func24 rfl ?_
           refine xp rfl (OpP.add64 rfl rfl ⟨by omega, by omega⟩) ?_
           refine xqd 1 [0, 8, 9, 51, 52, 53] rfl ?_
           have ho2' : OwR 3 encKy h2 h.size 27 v2 (timesR (i + 1) L) := by unfold OwR; rw [times_succ, List.length_append, List.flatMap_append]; exact ho2
           exact ih (i + 1, v2) _ _ ⟨rfl, rfl, rfl, rfl, rfl, trivial⟩ ⟨by show i + 1 ≤ _; omega, ho2', Ext.own eg hw' (Nat.le_refl _) hx2⟩ (by show m - (i + 1) < m - i; omega)
         · obtain rfl : i = m := by omega
           have hsr : SlR eKy g (fun y => ¬ h.size ≤ y) w (timesR i L) := OwR.read hw' (fun y hy q => q hy)
           refine G.exit rfl rfl ?_
           refine G.seq rfl ?_
           refine xra Tryd.func24 2 rfl ?_
           refine xo rfl (OpX.call (vs := [_, _]) Tryd.func51 rfl H.nm51 rfl (CallsH.toX (keep_calls (k.ext0 eg) hsr (by omega) (fun y hy => by have := hO y hy; omega)))) ?_
           rintro _ h2 ⟨⟨rfl, k2⟩, x2⟩
           refine xqd 1 [0, 8, 9, 10, 51, 52, 53] rfl ?_
           refine xrd Tryd.func24 2 [0, 8, 9, 10, 51, 52, 53, 62] rfl ?_
           have hk2 := keep_same (timesR i L) s
           have own1 : ∀ y, w.ownBlock = some y → h.size ≤ y := fun y q => (OwnH.lt hw' q).1
           refine G.ite rfl rfl (fun he => ?_) (fun he => ?_)
           · rw [if_neg he]
             rw [hk2 he] at k2
             refine xrd Tryd.func24 3 [0, 6, 7, 8, 9, 10, 51, 52, 53, 62] rfl ?_
             refine G.ret Tryd.func24 rfl rfl ?_
             exact ⟨_, rfl, ⟨_, rfl, OwR.nil _ _ _ _ _, k2⟩, (Ext0.of eg).trans x2⟩
           · have he := Classical.not_not.1 he
             rw [if_pos he]
             refine G.skip rfl ?_
             refine xrd Tryd.func24 3 [0, 6, 7, 8, 9, 10, 51, 52, 53, 62] rfl ?_
             refine G.ret Tryd.func24 rfl rfl ?_
             exact ⟨_, rfl, ⟨_, rfl, OwnH.ext x2 hw' (fun y q e => by have := own1 y q; have e : y = b := e; omega), k2⟩, (Ext0.of eg).trans x2⟩
theorem special_calls {h : Heap} (k : Int) : CallsH Tryd.prog 39 #[.int .i64 k] h (Ret fun v h' => v = .string (bs (specP k)) ∧ Ext0 h h') := by
 refine CallsH.of Tryd.func39 rfl rfl ?_
 refine xrd Tryd.func39 1 [0, 2] rfl ?_
 refine xr Tryd.func39 rfl ?_
 refine xp rfl (OpP.build (H.bd64_0_1_2_3_4_5_6_7_8_9_10_11_12_13_14 _ _ _ _ _ _ _ _ _ _ _ _ _ _ _) rfl) ?_
 refine xo rfl (OpX.allocN H.zr64) ?_
 rintro _ h1 ⟨rfl, k1, e1, z1⟩
 refine RW.op0 rfl rfl rfl (OpX.storeBlk H.sz64 rfl rfl k1 (by first | rfl | (simp; done) | (simp; omega)) (by first | decide | exact of_decide_eq_true rfl | (simp; done) | (simp; omega)) (by first | decide | simp [Value.oneCell'])) ?_
 rintro _ h2 ⟨rfl, k2, x2, z2⟩
 refine xd [0, 2, 3] rfl ?_
 refine G.seq rfl ?_
 refine G.seq rfl ?_
 have k2 : Blk h2 h.size 64 (namesL.map fun s => .string (bs s)) := k2
 have e2 := Ext0.only e1 x2 (Nat.le_refl _)
 refine G.regTo1 [(10, .bool (decide (k < 0 ∨ 14 < k)))] [(0, _), (2, _), (3, _)] ⟨rfl, rfl, rfl, trivial⟩ Tryd.func39 rfl ?_ ?_
 · refine xqm 3 rfl ?_
   refine RW.split (d := 7) rfl (fun c => ?_) (fun c => ?_)
   · have c := of_decide_eq_true c
     refine xqm 3 rfl ?_
     refine RW.done rfl ?_
     exact ⟨rfl, at_bool rfl (by rw [eq_comm, decide_eq_true]; exact .inl c), rfl, rfl, rfl, trivial⟩
   · have c := of_decide_eq_false c
     refine xqm 3 rfl ?_
     refine RW.done rfl ?_
     exact ⟨rfl, at_bool rfl (by rw [decide_eq_decide]; exact ⟨.inr, fun q => q.resolve_left c⟩), rfl, rfl, rfl, trivial⟩
 · refine G.ite rfl rfl (fun hc => ?_) (fun hc => ?_)
   · refine xrd Tryd.func39 1 [0, 2, 3, 10] rfl ?_
     refine G.ret Tryd.func39 rfl rfl ?_
     exact ⟨_, rfl, by rw [spec_out (by omega)]; rfl, e2⟩
   · obtain ⟨n, rfl⟩ : ∃ n : Nat, k = n := ⟨k.toNat, by omega⟩
     have hn : n < 15 := by omega
     have hs : specP n = namesL.getD n [] := by unfold specP; rw [if_neg (by omega)]; rfl
     rw [hs]
     have hx : (namesL.map fun s => Value.string (bs s))[n]? = some (.string (bs (namesL.getD n []))) := by
      rw [List.getElem?_map, List.getD_eq_getElem?_getD, List.getElem?_eq_getElem (show n < namesL.length from hn)]; rfl
     refine G.skip rfl ?_
     refine xra Tryd.func39 1 rfl ?_
     refine xp rfl (OpP.indexArr Tryd.underlying64 H.sz9 rfl rfl n rfl hn) ?_
     refine xp rfl (OpP.load H.ag9 rfl (by rw [Nat.mul_one, Nat.zero_add]; exact k2.cell hx)) ?_
     refine xqd 1 [0, 2, 3, 10] rfl ?_
     refine G.ret Tryd.func39 rfl rfl ?_
     exact ⟨_, rfl, rfl, e2⟩
theorem rmay_calls {h : Heap} (k : Ky) : CallsH Tryd.prog 20 #[.agg (encKy k).toArray] h (Ret fun v h' => v = .bool (mayP k) ∧ Ext0 h h') := by
 obtain ⟨kd, r, t⟩ := k
 refine CallsH.of Tryd.func20 rfl rfl ?_
 refine xr Tryd.func20 rfl ?_
 refine xo rfl (OpX.boxN rfl) ?_
 rintro _ h1 ⟨rfl, k1, e1, z1⟩
 refine xqd 1 [0, 1, 2] rfl ?_
 refine G.seq rfl ?_
 refine G.seq rfl ?_
 have k1 : Blk h1 h.size 27 [.int .i64 kd, .int .i32 r, .string (bs t)] := k1
 refine G.regTo1 [(15, .bool (decide (kd = 1 ∨ kd = 6 ∨ kd = 7)))] [(0, _), (1, _), (2, _)] ⟨rfl, rfl, rfl, trivial⟩ Tryd.func20 rfl ?_ ?_
 · refine xp rfl (OpP.fieldAddr (off := 0) Tryd.underlying27 rfl rfl H.sz3 rfl) ?_
   refine xp rfl (OpP.load H.ag3 rfl (k1.cell (i := 0) rfl)) ?_
   refine xqm 2 rfl ?_
   refine RW.split (d := 6) rfl (fun c => ?_) (fun c => ?_)
   · have c := of_decide_eq_true c
     refine xqm 9 rfl ?_
     refine RW.done rfl ?_
     exact ⟨rfl, at_bool rfl (by rw [eq_comm, decide_eq_true]; exact .inl c), rfl, rfl, rfl, trivial⟩
   · have c := of_decide_eq_false c
     refine xp rfl (OpP.fieldAddr (off := 0) Tryd.underlying27 rfl rfl H.sz3 rfl) ?_
     refine xp rfl (OpP.load H.ag3 rfl (k1.cell (i := 0) rfl)) ?_
     refine xqm 3 rfl ?_
     refine RW.split (d := 11) rfl (fun d => ?_) (fun d => ?_)
     · have d := of_decide_eq_true d
       refine xqm 4 rfl ?_
       refine RW.done rfl ?_
       exact ⟨rfl, at_bool rfl (by rw [eq_comm, decide_eq_true]; exact .inr (.inl d)), rfl, rfl, rfl, trivial⟩
     · have d := of_decide_eq_false d
       refine xp rfl (OpP.fieldAddr (off := 0) Tryd.underlying27 rfl rfl H.sz3 rfl) ?_
       refine xp rfl (OpP.load H.ag3 rfl (k1.cell (i := 0) rfl)) ?_
       refine xqm 2 rfl ?_
       refine RW.done rfl ?_
       exact ⟨rfl, at_bool rfl (by rw [decide_eq_decide]; omega), rfl, rfl, rfl, trivial⟩
 · refine G.ite rfl rfl (fun h3 => ?_) (fun h3 => ?_)
   · have hm : mayP (kd, r, t) = decide (goodP r ∧ t = []) := may_rune (k := (kd, r, t)) h3
     rw [hm]
     refine G.seq rfl ?_
     refine G.regTo1 [(2, .bool (decide (goodP r ∧ t = [])))] [(0, _), (1, _), (15, _)] ⟨rfl, rfl, rfl, trivial⟩ Tryd.func20 rfl ?_ ?_
     · refine xp rfl (OpP.fieldAddr (off := 1) Tryd.underlying27 rfl rfl H.sz21 rfl) ?_
       refine xp rfl (OpP.load H.ag21 rfl (k1.cell (i := 1) rfl)) ?_
       refine xo rfl (OpX.call (vs := [_]) Tryd.func48 rfl H.nm48 rfl (CallsH.toX (good_calls _))) ?_
       rintro _ h1 ⟨rfl, rfl⟩
       refine xqm 1 rfl ?_
       refine RW.split (d := 19) rfl (fun c => ?_) (fun c => ?_)
       · have c := of_decide_eq_true c
         refine xp rfl (OpP.fieldAddr (off := 2) Tryd.underlying27 rfl rfl H.sz9 rfl) ?_
         refine xp rfl (OpP.load H.ag9 rfl (k1.cell (i := 2) rfl)) ?_
         refine xp rfl (OpP.eqlStr rfl rfl) ?_
         refine xqm 2 rfl ?_
         refine RW.done rfl ?_
         exact ⟨rfl, at_bool rfl (by rw [bs_nil, decide_eq_decide]; exact ⟨fun e => ⟨c, e⟩, fun e => e.2⟩), rfl, rfl, rfl, trivial⟩
       · have c := of_decide_eq_false c
         refine xqm 5 rfl ?_
         refine RW.done rfl ?_
         exact ⟨rfl, at_bool rfl (by rw [eq_comm, decide_eq_false]; exact fun e => c e.1), rfl, rfl, rfl, trivial⟩
     · refine G.ret Tryd.func20 rfl rfl ?_
       exact ⟨_, rfl, rfl, e1⟩
   · refine G.skip rfl ?_
     refine G.seq rfl ?_
     refine G.seq rfl ?_
     refine G.regTo1 [(31, .bool (decide (kd = 15 ∨ kd = 0)))] [(0, _), (1, _), (2, _), (15, _)] ⟨rfl, rfl, rfl, rfl, trivial⟩ Tryd.func20 rfl ?_ ?_
     · refine xp rfl (OpP.fieldAddr (off := 0) Tryd.underlying27 rfl rfl H.sz3 rfl) ?_
       refine xp rfl (OpP.load H.ag3 rfl (k1.cell (i := 0) rfl)) ?_
       refine xqm 2 rfl ?_
       refine RW.split (d := 27) rfl (fun c => ?_) (fun c => ?_)
       · have c := of_decide_eq_true c
         refine xqm 4 rfl ?_
         refine RW.done rfl ?_
         exact ⟨rfl, at_bool rfl (by rw [eq_comm, decide_eq_true]; exact .inl c), rfl, rfl, rfl, rfl, trivial⟩
       · have c := of_decide_eq_false c
         refine xp rfl (OpP.fieldAddr (off := 0) Tryd.underlying27 rfl rfl H.sz3 rfl) ?_
         refine xp rfl (OpP.load H.ag3 rfl (k1.cell (i := 0) rfl)) ?_
         refine xqm 2 rfl ?_
         refine RW.done rfl ?_
         exact ⟨rfl, at_bool rfl (by rw [decide_eq_decide]; exact ⟨.inr, fun q => q.resolve_left c⟩), rfl, rfl, rfl, rfl, trivial⟩
     · refine G.ite rfl rfl (fun h2 => ?_) (fun h2 => ?_)
       · refine xr Tryd.func20 rfl ?_
         refine xp rfl (OpP.fieldAddr (off := 1) Tryd.underlying27 rfl rfl H.sz21 rfl) ?_
         refine xp rfl (OpP.load H.ag21 rfl (k1.cell (i := 1) rfl)) ?_
         refine xqd 2 [0, 1, 2, 15, 31] rfl ?_
         refine G.ret Tryd.func20 rfl rfl ?_
         exact ⟨_, rfl, by rw [may_text (k := (kd, r, t)) h2]; rfl, e1⟩
       · have hm : mayP (kd, r, t) = decide (specP kd ≠ [] ∧ r = 0 ∧ t = []) := may_spec (k := (kd, r, t)) h3 h2
         rw [hm]
         refine G.skip rfl ?_
         refine G.seq rfl ?_
         refine G.regToX (fun (x : Unit) (h' : Heap) => Ext0 h h') (fun (x : Unit) => [(2, .bool (decide (specP kd ≠ [] ∧ r = 0 ∧ t = [])))]) [(0, _), (1, _), (15, _), (31, _)] ⟨rfl, rfl, rfl, rfl, trivial⟩ Tryd.func20 rfl ?_ ?_
         · refine xp rfl (OpP.fieldAddr (off := 0) Tryd.underlying27 rfl rfl H.sz3 rfl) ?_
           refine xp rfl (OpP.load H.ag3 rfl (k1.cell (i := 0) rfl)) ?_
           refine xo rfl (OpX.call (vs := [_]) Tryd.func39 rfl H.nm39 rfl (CallsH.toX (special_calls kd))) ?_
           rintro _ h2 ⟨rfl, e2⟩
           refine xp rfl (OpP.neqStr rfl rfl) ?_
           refine xqm 1 rfl ?_
           have k2 := k1.ext0 e2
           refine RW.split (d := 39) rfl (fun c => ?_) (fun c => ?_)
           · have c : specP kd ≠ [] := fun q => of_decide_eq_true c (by rw [q]; rfl)
             refine xp rfl (OpP.fieldAddr (off := 1) Tryd.underlying27 rfl rfl H.sz21 rfl) ?_
             refine xp rfl (OpP.load H.ag21 rfl (k2.cell (i := 1) rfl)) ?_
             refine xqm 3 rfl ?_
             refine RW.split (d := 44) rfl (fun d => ?_) (fun d => ?_)
             · have d := of_decide_eq_true d
               refine xp rfl (OpP.fieldAddr (off := 2) Tryd.underlying27 rfl rfl H.sz9 rfl) ?_
               refine xp rfl (OpP.load H.ag9 rfl (k2.cell (i := 2) rfl)) ?_
               refine xp rfl (OpP.eqlStr rfl rfl) ?_
               refine xqm 2 rfl ?_
               refine RW.done rfl ?_
               exact ⟨(), e1.trans e2, at_bool rfl (by rw [bs_nil, decide_eq_decide]; exact ⟨fun e => ⟨c, d, e⟩, fun e => e.2.2⟩), rfl, rfl, rfl, rfl, trivial⟩
             · have d := of_decide_eq_false d
               refine xqm 5 rfl ?_
               refine RW.done rfl ?_
               exact ⟨(), e1.trans e2, at_bool rfl (by rw [eq_comm, decide_eq_false]; exact fun e => d e.2.1), rfl, rfl, rfl, rfl, trivial⟩
           · have c : specP kd = [] := bs_inj (m := []) (Classical.not_not.1 (of_decide_eq_false c))
             refine xqm 10 rfl ?_
             refine RW.done rfl ?_
             exact ⟨(), e1.trans e2, at_bool rfl (by rw [eq_comm, decide_eq_false]; exact fun e => e.1 c), rfl, rfl, rfl, rfl, trivial⟩
         · rintro x h2 e2
           refine G.ret Tryd.func20 rfl rfl ?_
           exact ⟨_, rfl, rfl, e2⟩
def cand1 (w : By) : List Ky := [((1 : Int), (unsR w : Int), [])]
def cand2 (w : By) : List Ky := cand1 w ++ (if 2 < w.length then [((6 : Int), (unsR (w.drop 2) : Int), []), ((7 : Int), (unsR (w.drop 2) : Int), [])] else [])
def cand3 (w : By) : List Ky := cand2 w ++ (if 5 < w.length then [((15 : Int), (0 : Int), unbR (w.drop 6))] else [])
def cand4 (w : By) : List Ky := cand3 w ++ (if 7 < w.length then [((0 : Int), (0 : Int), unbR (w.drop 8))] else [])
def cand5 (w : By) (i : Nat) : List Ky := cand4 w ++ (List.range i).map fun (n : Nat) => ((n : Int), (0 : Int), ([] : By))
def inR (s : Rg) : Int := if s.1 = 0 then 0 else 96 + (s.1 : Int)
def refC (vs : List Value) (k : Int) : List Value := vs ++ [.int .i32 k]
theorem refC_in {vs : List Value} (h : vs.length = 26) (k : Int) : (refC vs k)[26]? = some (.int .i32 k) := by
 unfold refC
 rw [List.getElem?_append_right (by omega), h]; rfl
theorem refC_at {vs : List Value} {i : Nat} {v : Value} (h : vs[i]? = some v) (k : Int) : (refC vs k)[i]? = some v := by
 have hi := (List.getElem?_eq_some_iff.1 h).1
 unfold refC
 rw [List.getElem?_append_left hi, h]
theorem refC_setIn {vs : List Value} (h : vs.length = 26) (k j : Int) {v : Value} (hv : v = .int .i32 j) : (refC vs k).set 26 v = refC vs j := by
 subst hv
 unfold refC
 rw [List.set_append_right _ _ (by omega), h]; rfl
theorem refC_set {vs : List Value} {i : Nat} (h : i < vs.length) (k : Int) (v : Value) : (refC vs k).set i v = refC (vs.set i v) k := by
 unfold refC
 rw [List.set_append_left _ _ h]
def RefO (O : Nat → Prop) (h : Heap) (b : Nat) (s : Rg) : Prop :=
 RgOk s ∧ ∃ vs, Blk h b 52 (refC vs (inR s)) ∧ RegsR h (fun x => x = b ∨ O x) vs s.2
theorem RefO.lt {O : Nat → Prop} {h : Heap} {b : Nat} {s : Rg} (k : RefO O h b s) : b < h.size := by
 obtain ⟨_, _, q, _⟩ := k
 exact q.lt
theorem RefO.ext {O M : Nat → Prop} {h h' : Heap} {b : Nat} {s : Rg} (k : RefO O h b s) (e : Ext M h h') (hb : ¬ M b) (hM : ∀ y, M y → y < h.size → O y) : RefO O h' b s := by
 obtain ⟨k1, vs, k2, k3⟩ := k
 exact ⟨k1, vs, k2.ext e hb, k3.mv (Mv.ofExt e fun y hy q => ⟨fun m => q (.inr (hM y m hy)), q⟩)⟩
theorem RefO.ext0 {O : Nat → Prop} {h h' : Heap} {b : Nat} {s : Rg} (k : RefO O h b s) (e : Ext0 h h') : RefO O h' b s := k.ext e (fun q => q) (fun _ q _ => q.elim)
theorem inR_start {s : Rg} {r : Int} (hr : 97 ≤ r) {l : List (List Ky)} : inR ((r - 96).toNat, l) = r := by
 unfold inR
 rw [if_neg (by show ¬ (r - 96).toNat = 0; omega)]
 show 96 + ((r - 96).toNat : Int) = r
 omega
theorem rStart_calls {O : Nat → Prop} {h : Heap} {b : Nat} {s : Rg} (k : RefO O h b s) (r : Int) :
 CallsH Tryd.prog 27 #[.pointer (some ⟨b, 0, none⟩), .int .i32 r] h (Ret fun v h' => (v = .int .i64 (startR r s).2 ∧ RefO O h' b (startR r s).1) ∧ Ext (fun y => y = b) h h') := by
 obtain ⟨hk, vs, kb, hv⟩ := k
 have hvl := hv.1
 have hI : inR s = 0 ↔ s.1 = 0 := by unfold inR; split <;> omega
 refine CallsH.of Tryd.func27 rfl rfl ?_
 refine xrd Tryd.func27 1 [0, 1, 4] rfl ?_
 refine G.seq rfl ?_
 refine G.seq rfl ?_
 refine G.regTo1 [(17, .bool (decide (¬ (regP r = true ∧ s.1 = 0))))] [(0, _), (1, _), (4, _)] ⟨rfl, rfl, rfl, trivial⟩ Tryd.func27 rfl ?_ ?_
 · refine xqm 3 rfl ?_
   refine RW.split (d := 7) rfl (fun c => ?_) (fun c => ?_)
   · have c := of_decide_eq_true c
     refine xqm 10 rfl ?_
     refine RW.done rfl ?_
     exact ⟨rfl, at_bool rfl (by rw [eq_comm, decide_eq_true]; rw [regP_iff]; omega), rfl, rfl, rfl, trivial⟩
   · have c := of_decide_eq_false c
     refine xqm 4 rfl ?_
     refine RW.split (d := 11) rfl (fun d => ?_) (fun d => ?_)
     · have d := of_decide_eq_true d
       refine xqm 6 rfl ?_
       refine RW.done rfl ?_
       exact ⟨rfl, at_bool rfl (by rw [eq_comm, decide_eq_true]; rw [regP_iff]; omega), rfl, rfl, rfl, trivial⟩
     · have d := of_decide_eq_false d
       refine xqp 2 rfl rfl (OpP.fieldAddr (off := 26) Tryd.underlying52 rfl rfl H.sz21 rfl) ?_
       refine xp rfl (OpP.load H.ag21 rfl (kb.cell (i := 26) (refC_in hvl _))) ?_
       refine xqm 2 rfl ?_
       refine RW.done rfl ?_
       exact ⟨rfl, at_bool rfl (by rw [decide_eq_decide, regP_iff, hI]; omega), rfl, rfl, rfl, trivial⟩
 · refine G.ite rfl rfl (fun hc => ?_) (fun hc => ?_)
   · refine xrd Tryd.func27 1 [0, 1, 4, 17] rfl ?_
     refine G.ret Tryd.func27 rfl rfl ?_
     have hS : startR r s = (s, 2) := if_neg hc
     rw [hS]
     exact ⟨_, rfl, ⟨rfl, hk, vs, kb, hv⟩, Ext.refl _ _⟩
   · have hc : regP r = true ∧ s.1 = 0 := Classical.not_not.1 hc
     have hr := regP_iff.1 hc.1
     have hS : startR r s = (((r - 96).toNat, s.2.set (r - 97).toNat []), 0) := if_pos hc
     have hok := hk.start r
     rw [hS] at hok ⊢
     have kb : Blk h b 52 (vs ++ [.int .i32 (inR s)]) := kb
     have hw : IntKind.i32.wrap (r - 97) = r - 97 := wrap_i32 (by omega)
     refine G.skip rfl ?_
     refine G.seq rfl ?_
     refine G.draw (fun y => y = b) (fun i => Nat.blt i 12) (sz := 12) (listed := #[false, false, false, false, false, false, false, false, false, false, false, false]) Tryd.func27 H.mixed rfl rfl rfl ?_
     refine xtq 0 1 (by kernel_rfl) rfl ?_
     refine xtq 1 3 (by kernel_rfl) rfl ?_
     refine xtq 2 7 (by kernel_rfl) rfl ?_
     refine xtp 3 15 (by kernel_rfl) rfl (fun h' e => OpP.sub rfl rfl) ?_
     refine xtq 4 31 (by kernel_rfl) rfl ?_
     refine xtq 5 63 (by kernel_rfl) rfl ?_
     refine xtp 6 127 (by kernel_rfl) rfl (fun h' e => OpP.fieldAddr (off := 26) Tryd.underlying52 rfl rfl H.sz21 rfl) ?_
     refine xtq 8 383 (by kernel_rfl) rfl ?_
     refine xtp 9 895 (by kernel_rfl) rfl (fun h' e => OpP.fieldAddr (off := 0) Tryd.underlying52 rfl rfl H.sz50 rfl) ?_
     refine xt0 7 1023 (by kernel_rfl) rfl (OpX.storeOne H.sz21 rfl rfl kb (by first | decide | exact of_decide_eq_true rfl | (simp; done) | (simp; omega)) rfl) ?_
     rintro _ h1 ⟨rfl, k1, x1, z1⟩
     refine ⟨fun _ => x1, ?_⟩
     have k1 : Blk h1 b 52 (refC vs r) := by
      rw [← refC_setIn (v := .int .i32 r) hvl (inR s) _ rfl]
      exact k1
     have k1' : Blk h1 b 52 (vs ++ [.int .i32 r]) := k1
     refine xtp 10 2047 (by kernel_rfl) rfl (fun h' e => OpP.indexArr Tryd.underlying50 H.sz22 rfl rfl (r - 97).toNat (by rw [hw]; omega) (by omega)) ?_
     refine xt0 11 4095 (by kernel_rfl) rfl (OpX.storeOne H.sz22 rfl rfl k1' (by first | decide | exact of_decide_eq_true rfl | (simp; done) | (simp; omega)) rfl) ?_
     rintro _ h2 ⟨rfl, k2, x2, z2⟩
     refine ⟨fun _ => x2, ?_⟩
     refine RD.done (by kernel_rfl) ?_
     refine xu [0, 1, 4, 17] rfl ?_
     refine xrd Tryd.func27 1 [0, 1, 4, 17] rfl ?_
     refine G.ret Tryd.func27 rfl rfl ?_
     rw [Nat.mul_one, Nat.zero_add] at k2
     have x12 := x1.trans x2
     refine ⟨_, rfl, ⟨rfl, hok, vs.set (r - 97).toNat (.slice none 0 0), ?_, RegsR.set (hv.mv (Mv.ofExt x12 fun y _ q => ⟨fun e => q (.inl e), q⟩)) _ (SlR.nil _ _ _)⟩, x12⟩
     rw [inR_start (s := s) hr.1, ← refC_set (by omega)]
     exact k2
theorem rStop_calls {O : Nat → Prop} {h : Heap} {b : Nat} {s : Rg} (k : RefO O h b s) :
 CallsH Tryd.prog 28 #[.pointer (some ⟨b, 0, none⟩)] h (Ret fun v h' => (v = .int .i64 (stopR s).2 ∧ RefO O h' b (stopR s).1) ∧ Ext (fun y => y = b) h h') := by
 obtain ⟨hk, vs, kb, hv⟩ := k
 have hvl := hv.1
 have hI : inR s = 0 ↔ s.1 = 0 := by unfold inR; split <;> omega
 refine CallsH.of Tryd.func28 rfl rfl ?_
 refine xrd Tryd.func28 1 [0, 2] rfl ?_
 refine G.seq rfl ?_
 refine xra Tryd.func28 2 rfl ?_
 refine xp rfl (OpP.fieldAddr (off := 26) Tryd.underlying52 rfl rfl H.sz21 rfl) ?_
 refine xp rfl (OpP.load H.ag21 rfl (kb.cell (i := 26) (refC_in hvl _))) ?_
 refine xqd 1 [0, 2, 7] rfl ?_
 refine G.ite rfl rfl (fun h0 => ?_) (fun h0 => ?_)
 · have hS : stopR s = (s, 4) := if_pos (hI.1 h0)
   rw [hS]
   refine xrd Tryd.func28 1 [0, 2, 7] rfl ?_
   refine G.ret Tryd.func28 rfl rfl ?_
   exact ⟨_, rfl, ⟨rfl, hk, vs, kb, hv⟩, Ext.refl _ _⟩
 · have hok := hk.stop
   have hS : stopR s = ((0, s.2), 0) := if_neg (fun q => h0 (hI.2 q))
   rw [hS] at hok ⊢
   have kb : Blk h b 52 (vs ++ [.int .i32 (inR s)]) := kb
   refine G.skip rfl ?_
   refine xra Tryd.func28 2 rfl ?_
   refine xp rfl (OpP.fieldAddr (off := 26) Tryd.underlying52 rfl rfl H.sz21 rfl) ?_
   refine RW.op0 rfl rfl rfl (OpX.storeOne H.sz21 rfl rfl kb (by first | decide | exact of_decide_eq_true rfl | (simp; done) | (simp; omega)) rfl) ?_
   rintro _ h1 ⟨rfl, k1, x1, z1⟩
   refine xd [0, 2, 7] rfl ?_
   refine xrd Tryd.func28 1 [0, 2, 7] rfl ?_
   refine G.ret Tryd.func28 rfl rfl ?_
   refine ⟨_, rfl, ⟨rfl, hok, vs, ?_, hv.mv (Mv.ofExt x1 fun y _ q => ⟨fun e => q (.inl e), q⟩)⟩, x1⟩
   show Blk h1 b _ (refC vs 0)
   rw [← refC_setIn (v := .int .i32 0) hvl (inR s) 0 rfl]
   exact k1
theorem rKeep_calls {O O' : Nat → Prop} {h : Heap} {b : Nat} {s : Rg} (k : RefO O h b s) {v : Value} {l : List Ky} (hl : SlR eKy h O' v l) (hll : l.length ≤ 1000) (hO : ∀ y, O y → y < h.size) :
 CallsH Tryd.prog 53 #[.pointer (some ⟨b, 0, none⟩), v] h (Ret fun r h' => (r = .int .i64 (keepR l s).2 ∧ RefO O h' b (keepR l s).1) ∧ Ext (fun y => y = b) h h') := by
 obtain ⟨hk, vs, kb, hv⟩ := k
 have hvl := hv.1
 have hin := hk.in'
 obtain ⟨la, ln, lc, rfl, hls⟩ := hl.open
 have hln : l.length = ln := hls.len
 subst hln
 have hlc := hls.le
 have hI : inR s = 0 ↔ s.1 = 0 := by unfold inR; split <;> omega
 refine CallsH.of Tryd.func53 rfl rfl ?_
 refine xrd Tryd.func53 1 [0, 1, 4] rfl ?_
 refine G.seq rfl ?_
 refine xra Tryd.func53 2 rfl ?_
 refine xp rfl (OpP.fieldAddr (off := 26) Tryd.underlying52 rfl rfl H.sz21 rfl) ?_
 refine xp rfl (OpP.load H.ag21 rfl (kb.cell (i := 26) (refC_in hvl _))) ?_
 refine xqd 1 [0, 1, 4, 10] rfl ?_
 refine G.ite rfl rfl (fun h0 => ?_) (fun h0 => ?_)
 · have hS : keepR l s = (s, 0) := if_pos (hI.1 h0)
   rw [hS]
   refine xrd Tryd.func53 1 [0, 1, 4, 10] rfl ?_
   refine G.ret Tryd.func53 rfl rfl ?_
   exact ⟨_, rfl, ⟨rfl, hk, vs, kb, hv⟩, Ext.refl _ _⟩
 · have h0 : ¬ s.1 = 0 := fun q => h0 (hI.2 q)
   have hIe : inR s = 96 + (s.1 : Int) := if_neg h0
   have hw : IntKind.i32.wrap (inR s - 97) = ((s.1 - 1 : Nat) : Int) := by rw [hIe, wrap_i32 (by omega)]; omega
   obtain ⟨v, hvi, hvr⟩ := hv.2.2 (s.1 - 1) _ (Rg.has_some hk (by omega))
   have hhl := hk.has (s.1 - 1)
   have hok := hk.keep l
   have hS : inR (keepR l s).1 = inR s := by unfold keepR inR; split <;> (try split) <;> rfl
   unfold keepR at hok hS ⊢
   rw [if_neg h0] at hok hS ⊢
   obtain ⟨va, vn, vc, rfl, hvsl⟩ := hvr.open
   have hvn : (s.has (s.1 - 1)).length = vn := hvsl.len
   subst hvn
   refine G.skip rfl ?_
   refine G.seq rfl ?_
   refine G.drawQ Tryd.func53 H.mixed rfl (by kernel_rfl) ?_
   refine RQ.pureS rfl rfl rfl rfl (OpP.move rfl) ?_
   refine RQ.pureS rfl rfl rfl rfl (OpP.move rfl) ?_
   refine RQ.pureS rfl rfl rfl rfl (OpP.nilCheck rfl) ?_
   refine RQ.pureS rfl rfl rfl rfl (OpP.fieldAddr (off := 26) Tryd.underlying52 rfl rfl H.sz21 rfl) ?_
   refine RQ.pureS rfl rfl rfl rfl (OpP.load H.ag21 rfl (kb.cell (i := 26) (refC_in hvl _))) ?_
   refine RQ.pureS rfl rfl rfl rfl (OpP.sub rfl rfl) ?_
   refine RQ.pureS rfl rfl rfl rfl (OpP.nilCheck rfl) ?_
   refine RQ.pureS rfl rfl rfl rfl (OpP.fieldAddr (off := 0) Tryd.underlying52 rfl rfl H.sz50 rfl) ?_
   refine RQ.pureS rfl rfl rfl rfl (OpP.indexArr Tryd.underlying50 H.sz22 rfl rfl (s.1 - 1) hw (by omega)) ?_
   refine RQ.pureS rfl rfl rfl rfl (OpP.load H.ag22 rfl (by rw [Nat.mul_one, Nat.zero_add]; exact kb.cell (refC_at hvi _))) ?_
   refine RQ.pureS rfl rfl rfl rfl (OpP.assign rfl) ?_
   refine RQ.done rfl ?_
   refine xu [0, 1, 4, 5, 10] rfl ?_
   refine G.seq rfl ?_
   refine xra Tryd.func53 1 rfl ?_
   refine xp rfl (OpP.lenSlice Tryd.underlying22 rfl) ?_
   refine xqp 1 rfl rfl (OpP.lenSlice Tryd.underlying22 rfl) ?_
   refine xp rfl (OpP.add64 rfl rfl ⟨by omega, by omega⟩) ?_
   refine xqd 1 [0, 1, 4, 5, 10, 26] rfl ?_
   refine G.ite rfl rfl (fun hgt => ?_) (fun hgt => ?_)
   · rw [if_pos (by omega)]
     refine xrd Tryd.func53 1 [0, 1, 4, 5, 10, 26] rfl ?_
     refine G.ret Tryd.func53 rfl rfl ?_
     exact ⟨_, rfl, ⟨rfl, hk, vs, kb, hv⟩, Ext.refl _ _⟩
   · rw [if_neg (by omega)] at hok hS ⊢
     have kb' : Blk h b 52 (vs ++ [.int .i32 (inR s)]) := kb
     have hrow0 := hvsl.rowR
     refine G.skip rfl ?_
     refine G.seq rfl ?_
     refine G.draw (fun b => Array.size h ≤ b) (fun i => Nat.blt i 13) (sz := 14) (listed := #[false, false, false, false, false, false, false, false, false, false, false, false, false, false]) Tryd.func53 H.mixed rfl rfl rfl ?_
     refine xtq 0 1 (by kernel_rfl) rfl ?_
     refine xtq 1 3 (by kernel_rfl) rfl ?_
     refine xtq 2 7 (by kernel_rfl) rfl ?_
     refine xtp 3 15 (by kernel_rfl) rfl (fun h' e => OpP.fieldAddr (off := 26) Tryd.underlying52 rfl rfl H.sz21 rfl) ?_
     refine xtp 4 31 (by kernel_rfl) rfl (fun h' e => OpP.load H.ag21 rfl (e.old (kb.cell (i := 26) (refC_in hvl _)))) ?_
     refine xtp 5 63 (by kernel_rfl) rfl (fun h' e => OpP.sub rfl rfl) ?_
     refine xtq 6 127 (by kernel_rfl) rfl ?_
     refine xtq 8 383 (by kernel_rfl) rfl ?_
     refine xtq 10 1407 (by kernel_rfl) rfl ?_
     refine xtp 11 3455 (by kernel_rfl) rfl (fun h' e => OpP.fieldAddr (off := 0) Tryd.underlying52 rfl rfl H.sz50 rfl) ?_
     refine xto 7 3583 (by kernel_rfl) rfl (OpX.append Tryd.underlying22 H.el27 rfl rfl (OwR.nil 3 encKy h h.size 27) (flatMap_len (enc := encKy) (sz := 3) (fun _ => rfl) _) hrow0 (fun u hu => by obtain ⟨x, _, hx⟩ := List.mem_flatMap.1 hu; exact ky_one x u hx) (by simp only [maxLen, List.length_nil]; omega) (by simp only [List.length_nil, List.flatMap_nil]; omega) (by omega)) ?_
     rintro v1 h1 ⟨ho1, hx1, _, hv1⟩
     refine ⟨fun _ => hx1.mono (fun y _ q => by cases q), ?_⟩
     have e1 : Ext0 h h1 := ext_but_none hx1
     have ho1 : OwR 3 encKy h1 h.size 27 v1 (s.has (s.1 - 1)) := by have := ho1; rw [List.length_nil, Nat.zero_add] at this; exact this
     have z1 := e1.size
     have hrow := (hls.mv (Mv.ext0 e1)).rowR
     refine xto 9 4095 (by kernel_rfl) rfl (OpX.append Tryd.underlying22 H.el27 rfl rfl ho1 (flatMap_len (enc := encKy) (sz := 3) (fun _ => rfl) l) hrow (fun u hu => by obtain ⟨x, _, hx⟩ := List.mem_flatMap.1 hu; exact ky_one x u hx) (by simp only [maxLen]; omega) (by omega) (by omega)) ?_
     rintro v2 h2 ⟨ho2, hx2, _, hv2⟩
     refine ⟨fun _ => hx2.mono (fun y _ q => by have := (OwnH.lt ho1 q.symm).1; omega), ?_⟩
     have own1 : ∀ y, v1.ownBlock = some y → h.size ≤ y := fun y q => (OwnH.lt ho1 q).1
     have hbl := kb.lt
     have kb2 : Blk h2 b 52 (vs ++ [.int .i32 (inR s)]) := (kb'.ext0 e1).ext hx2 (fun q => by have := own1 _ q.symm; omega)
     have e02 : Ext0 h h2 := Ext.own e1 ho1 (Nat.le_refl _) hx2
     refine xtp 12 8191 (by kernel_rfl) rfl (fun h' e => OpP.indexArr Tryd.underlying50 H.sz22 rfl rfl (s.1 - 1) hw (by omega)) ?_
     refine xt0 13 16383 (by kernel_rfl) rfl (OpX.storeOne H.sz22 rfl rfl kb2 (by first | decide | exact of_decide_eq_true rfl | (simp; done) | (simp; omega)) (by obtain ⟨_, _, rfl, _⟩ := OwnH.open ho2; rfl)) ?_
     rintro _ h3 ⟨rfl, k3, x3, z3⟩
     refine ⟨fun hk => (nomatch hk), ?_⟩
     refine RD.done (by kernel_rfl) ?_
     refine xu [0, 1, 4, 5, 10, 26] rfl ?_
     refine xrd Tryd.func53 1 [0, 1, 4, 5, 10, 26] rfl ?_
     refine G.ret Tryd.func53 rfl rfl ?_
     rw [Nat.mul_one, Nat.zero_add] at k3
     have x03 : Ext (fun y => y = b) h h3 := (Ext0.of e02).trans x3
     have ho2' : OwR 3 encKy h2 h.size 27 v2 (s.has (s.1 - 1) ++ l) := by unfold OwR; rw [List.length_append, List.flatMap_append]; exact ho2
     have hr3 : SlR eKy h2 (fun x => x = b ∨ O x) v2 (s.has (s.1 - 1) ++ l) := OwR.read ho2' (fun y hy q => by rcases q with q | q; omega; have := hO y q; omega)
     refine ⟨_, rfl, ⟨rfl, hok, vs.set (s.1 - 1) v2, ?_, RegsR.set (hv.mv (Mv.ofExt x03 fun y _ q => ⟨fun e => q (.inl e), q⟩)) _ (hr3.mv (Mv.ofExt x3 fun y _ q => ⟨fun e => q (.inl e), q⟩))⟩, x03⟩
     rw [hS, ← refC_set (by omega)]
     exact k3
theorem rKey_put {O : Nat → Prop} {h : Heap} {b : Nat} {s : Rg} (k : RefO O h b s) (x : Ky) (hO : ∀ y, O y → y < h.size) :
 CallsH Tryd.prog 31 #[.pointer (some ⟨b, 0, none⟩), .agg (encKy x).toArray] h (Ret fun r h' => (r = .int .i64 (keyR x s).2 ∧ RefO O h' b (keyR x s).1) ∧ Ext (fun y => y = b) h h') := by
 obtain ⟨kd, r, t⟩ := x
 have hbl := k.lt
 refine CallsH.of Tryd.func31 rfl rfl ?_
 refine xr Tryd.func31 rfl ?_
 refine xo rfl (OpX.boxN rfl) ?_
 rintro _ h1 ⟨rfl, k1, e1, z1⟩
 refine xqd 1 [0, 1, 3, 4] rfl ?_
 refine G.seq rfl ?_
 refine xr Tryd.func31 rfl ?_
 have k1 : Blk h1 h.size 27 (encKy (kd, r, t)) := k1
 refine xp rfl (OpP.loadRowN H.ag27 H.sz27 rfl k1.row (by first | rfl | (simp; done) | (simp; omega))) ?_
 refine xo rfl (OpX.call (vs := [_]) Tryd.func20 rfl H.nm20 rfl (CallsH.toX (rmay_calls (kd, r, t)))) ?_
 rintro _ h2 ⟨rfl, e2⟩
 refine xqd 1 [0, 1, 3, 4, 7] rfl ?_
 have e02 := e1.trans e2
 refine G.cond rfl rfl (fun hm => ?_) (fun hm => ?_)
 · have hm : mayP (kd, r, t) = false := by simpa using hm
   have hS : keyR (kd, r, t) s = (s, 2) := if_neg (by rw [hm]; decide)
   rw [hS]
   refine xrd Tryd.func31 1 [0, 1, 3, 4, 7] rfl ?_
   refine G.ret Tryd.func31 rfl rfl ?_
   exact ⟨_, rfl, ⟨rfl, k.ext0 e02⟩, Ext0.of e02⟩
 · have hm : mayP (kd, r, t) = true := by simpa using hm
   have hS : keyR (kd, r, t) s = keepR [(kd, r, t)] s := if_pos hm
   rw [hS]
   refine G.skip rfl ?_
   refine xra Tryd.func31 1 rfl ?_
   refine xp rfl (OpP.loadRowN H.ag27 H.sz27 rfl (k1.ext0 e2).row (by first | rfl | (simp; done) | (simp; omega))) ?_
   refine xo rfl (OpX.buildRec (cs := [_, _, _]) Tryd.underlying22 H.el27 rfl rfl (by decide)) ?_
   rintro _ h3 ⟨rfl, hh3⟩
   have e3 : Ext0 h2 h3 := by rw [hh3]; exact Ext.push _ _ _
   have hsl : SlR eKy h3 (fun _ => False) (.slice (some ⟨h2.size, 0, none⟩) 1 1) [(kd, r, t)] := by rw [hh3]; exact recs_made h2 [(kd, r, t)] _ 1 rfl (by decide) rfl
   have e03 := e02.trans e3
   refine xo rfl (OpX.call (vs := [_, _]) Tryd.func53 rfl H.nm53 rfl (CallsH.toX (rKeep_calls (k.ext0 e03) hsl (by simp) (fun y hy => by have := hO y hy; have := e03.size; omega)))) ?_
   rintro _ h4 ⟨⟨rfl, k4⟩, x4⟩
   refine xqd 1 [0, 1, 3, 4, 7] rfl ?_
   refine G.ret Tryd.func31 rfl rfl ?_
   exact ⟨_, rfl, ⟨rfl, k4⟩, (Ext0.of e03).trans x4⟩
theorem of_calls {O : Nat → Prop} {h : Heap} {b : Nat} {s : Rg} (k : RefO O h b s) (r : Int) :
 CallsH Tryd.prog 33 #[.pointer (some ⟨b, 0, none⟩), .int .i32 r] h (Ret fun v h' => SlR eKy h (fun x => x = b ∨ O x) v (keysR r s) ∧ h' = h) := by
 obtain ⟨hk, vs, kb, hv⟩ := id k
 have hvl := hv.1
 refine CallsH.of Tryd.func33 rfl rfl ?_
 refine xrd Tryd.func33 1 [0, 1, 4] rfl ?_
 refine G.seq rfl ?_
 refine G.seq rfl ?_
 refine G.regTo1 [(10, .bool (decide (¬ regP r = true)))] [(0, _), (1, _), (4, _)] ⟨rfl, rfl, rfl, trivial⟩ Tryd.func33 rfl ?_ ?_
 · refine xqm 3 rfl ?_
   refine RW.split (d := 7) rfl (fun c => ?_) (fun c => ?_)
   · have c := of_decide_eq_true c
     refine xqm 3 rfl ?_
     refine RW.done rfl ?_
     exact ⟨rfl, at_bool rfl (by rw [eq_comm, decide_eq_true]; rw [regP_iff]; omega), rfl, rfl, rfl, trivial⟩
   · have c := of_decide_eq_false c
     refine xqm 3 rfl ?_
     refine RW.done rfl ?_
     exact ⟨rfl, at_bool rfl (by rw [decide_eq_decide, regP_iff]; omega), rfl, rfl, rfl, trivial⟩
 · refine G.ite rfl rfl (fun h0 => ?_) (fun h0 => ?_)
   · have hS : keysR r s = [] := if_neg h0
     rw [hS]
     refine xrd Tryd.func33 1 [0, 1, 4, 10] rfl ?_
     refine G.ret Tryd.func33 rfl rfl ?_
     exact ⟨_, rfl, SlR.nil _ _ _, rfl⟩
   · have h0 := Classical.not_not.1 h0
     have hr := regP_iff.1 h0
     have hS : keysR r s = s.has (r - 97).toNat := if_pos h0
     rw [hS]
     obtain ⟨v, hvi, hvr⟩ := hv.2.2 (r - 97).toNat _ (Rg.has_some hk (by omega))
     have hw : IntKind.i32.wrap (r - 97) = r - 97 := wrap_i32 (by omega)
     refine G.skip rfl ?_
     refine xra Tryd.func33 2 rfl ?_
     refine xp rfl (OpP.sub rfl rfl) ?_
     refine xqp 1 rfl rfl (OpP.fieldAddr (off := 0) Tryd.underlying52 rfl rfl H.sz50 rfl) ?_
     refine xp rfl (OpP.indexArr Tryd.underlying50 H.sz22 rfl rfl (r - 97).toNat (by rw [hw]; omega) (by omega)) ?_
     refine xp rfl (OpP.load H.ag22 rfl (by rw [Nat.mul_one, Nat.zero_add]; exact kb.cell (refC_at hvi _))) ?_
     refine xqd 1 [0, 1, 4, 10] rfl ?_
     refine G.ret Tryd.func33 rfl rfl ?_
     exact ⟨_, rfl, hvr, rfl⟩
theorem rPlay_calls {O : Nat → Prop} {h : Heap} {b : Nat} {s : Rg} (k : RefO O h b s) (r n : Int) (hO : ∀ y, O y → y < h.size) :
 CallsH Tryd.prog 29 #[.pointer (some ⟨b, 0, none⟩), .int .i32 r, .int .i64 n] h (Ret fun v h' => (∃ w, v = .tuple #[w, .int .i64 (playR r n s).2.2] ∧ OwR 3 encKy h' h.size 27 w (playR r n s).1 ∧ RefO O h' b (playR r n s).2.1) ∧ Ext (fun y => y = b) h h') := by
 have hbl := k.lt
 obtain ⟨hk, vs, kb, hv⟩ := id k
 have hvl := hv.1
 have hin := hk.in'
 have hI : (regP r = true) → (inR s = r ↔ (s.1 : Int) = r - 96) := fun q => by have := regP_iff.1 q; unfold inR; split <;> omega
 refine CallsH.of Tryd.func29 rfl rfl ?_
 refine xrd Tryd.func29 2 [0, 1, 2, 6, 7] rfl ?_
 refine G.seq rfl ?_
 refine G.seq rfl ?_
 refine G.regTo1 [(29, .bool (decide (¬ (regP r = true ∧ 0 ≤ n ∧ (s.1 : Int) ≠ r - 96))))] [(0, _), (1, _), (2, _), (6, _), (7, _)] ⟨rfl, rfl, rfl, rfl, rfl, trivial⟩ Tryd.func29 rfl ?_ ?_
 · refine xqm 3 rfl ?_
   refine RW.split (d := 14) rfl (fun c => ?_) (fun c => ?_)
   · have c := of_decide_eq_true c
     refine xqm 15 rfl ?_
     refine RW.done rfl ?_
     exact ⟨rfl, at_bool rfl (by rw [eq_comm, decide_eq_true]; rw [regP_iff]; omega), rfl, rfl, rfl, rfl, rfl, trivial⟩
   · have c := of_decide_eq_false c
     refine xqm 4 rfl ?_
     refine RW.split (d := 18) rfl (fun d => ?_) (fun d => ?_)
     · have d := of_decide_eq_true d
       refine xqm 11 rfl ?_
       refine RW.done rfl ?_
       exact ⟨rfl, at_bool rfl (by rw [eq_comm, decide_eq_true]; rw [regP_iff]; omega), rfl, rfl, rfl, rfl, rfl, trivial⟩
     · have d := of_decide_eq_false d
       have hp : regP r = true := regP_iff.2 (by omega)
       refine xqm 4 rfl ?_
       refine RW.split (d := 22) rfl (fun e => ?_) (fun e => ?_)
       · have e := of_decide_eq_true e
         refine xqm 7 rfl ?_
         refine RW.done rfl ?_
         exact ⟨rfl, at_bool rfl (by rw [eq_comm, decide_eq_true]; omega), rfl, rfl, rfl, rfl, rfl, trivial⟩
       · have e := of_decide_eq_false e
         refine xqp 2 rfl rfl (OpP.fieldAddr (off := 26) Tryd.underlying52 rfl rfl H.sz21 rfl) ?_
         refine xp rfl (OpP.load H.ag21 rfl (kb.cell (i := 26) (refC_in hvl _))) ?_
         refine xqm 3 rfl ?_
         refine RW.done rfl ?_
         exact ⟨rfl, at_bool rfl (by rw [decide_eq_decide, hI hp]; simp only [hp, eq_self, true_and]; omega), rfl, rfl, rfl, rfl, rfl, trivial⟩
 · refine G.ite rfl rfl (fun hc => ?_) (fun hc => ?_)
   · have hS : playR r n s = ([], s, 2) := if_neg hc
     rw [hS]
     refine xrd Tryd.func29 2 [0, 1, 2, 6, 7, 29] rfl ?_
     refine G.ret Tryd.func29 rfl rfl ?_
     exact ⟨_, rfl, ⟨_, rfl, OwR.nil _ _ _ _ _, k⟩, Ext.refl _ _⟩
   · have hc := Classical.not_not.1 hc
     have hr := regP_iff.1 hc.1
     unfold playR
     rw [if_pos hc]
     obtain ⟨v, hvi, hvr⟩ := hv.2.2 (r - 97).toNat _ (Rg.has_some hk (by omega))
     have hhl := hk.has (r - 97).toNat
     obtain ⟨L, hL⟩ : ∃ L, L = s.has (r - 97).toNat := ⟨_, rfl⟩
     rw [← hL] at hvr hhl ⊢
     obtain ⟨va, vn, vc, rfl, hvs⟩ := hvr.open
     have hvn : L.length = vn := hvs.len
     subst hvn
     have hw : IntKind.i32.wrap (r - 97) = r - 97 := wrap_i32 (by omega)
     obtain ⟨m, rfl⟩ : ∃ m : Nat, n = m := ⟨n.toNat, by omega⟩
     rw [Int.toNat_natCast]
     refine G.skip rfl ?_
     refine xra Tryd.func29 2 rfl ?_
     refine xp rfl (OpP.sub rfl rfl) ?_
     refine xqp 1 rfl rfl (OpP.fieldAddr (off := 0) Tryd.underlying52 rfl rfl H.sz50 rfl) ?_
     refine xp rfl (OpP.indexArr Tryd.underlying50 H.sz22 rfl rfl (r - 97).toNat (by rw [hw]; omega) (by omega)) ?_
     refine xp rfl (OpP.load H.ag22 rfl (by rw [Nat.mul_one, Nat.zero_add]; exact kb.cell (refC_at hvi _))) ?_
     refine xqd 1 [0, 1, 2, 6, 7, 8, 29] rfl ?_
     refine xrd Tryd.func29 1 [0, 1, 2, 6, 7, 8, 9, 29] rfl ?_
     refine G.seq rfl ?_
     refine xrd Tryd.func29 1 [0, 1, 2, 6, 7, 8, 9, 10, 29] rfl ?_
     refine G.block rfl rfl ?_
     refine G.loop (σ := Nat × Value) (fun q => [(0, .pointer (some ⟨b, 0, none⟩)), (2, .int .i64 (m : Nat)), (8, .slice va L.length vc), (9, q.2), (10, .int .i64 (q.1 : Nat))]) (fun q h' => (q.1 ≤ m ∧ q.1 * L.length ≤ 500) ∧ OwR 3 encKy h' h.size 27 q.2 (timesR q.1 L) ∧ Ext0 h h') (fun q => m - q.1) ((0, .slice none 0 0)) rfl ⟨rfl, rfl, rfl, rfl, rfl, trivial⟩ ⟨⟨Nat.zero_le _, by simp⟩, OwR.nil _ _ _ _ _, Ext.refl _ _⟩ ?_
     rintro ⟨i, w⟩ g ⟨⟨hi, hil⟩, hw', eg⟩ ih
     try dsimp only
     dsimp only at hi hil hw'
     have htl := times_len i L
     have zg := eg.size
     refine G.seq rfl ?_
     refine G.seq rfl ?_
     refine G.regTo1 [(44, .bool (decide (i < m ∧ 0 < L.length)))] [(0, _), (2, _), (8, _), (9, _), (10, _)] ⟨rfl, rfl, rfl, rfl, rfl, trivial⟩ Tryd.func29 rfl ?_ ?_
     · refine xqm 4 rfl ?_
       refine RW.split (d := 40) rfl (fun c => ?_) (fun c => ?_)
       · have c := of_decide_eq_true c
         refine xqp 1 rfl rfl (OpP.lenSlice Tryd.underlying22 rfl) ?_
         refine xqm 2 rfl ?_
         refine RW.done rfl ?_
         exact ⟨rfl, at_bool rfl (by rw [decide_eq_decide]; omega), rfl, rfl, rfl, rfl, rfl, trivial⟩
       · have c := of_decide_eq_false c
         refine xqm 4 rfl ?_
         refine RW.done rfl ?_
         exact ⟨rfl, at_bool rfl (by rw [eq_comm, decide_eq_false]; omega), rfl, rfl, rfl, rfl, rfl, trivial⟩
     · refine G.ite rfl rfl (fun hlt => ?_) (fun hlt => ?_)
       · have hil2 : (i + 1) * L.length = i * L.length + L.length := Nat.succ_mul _ _
         have hi5 : i ≤ 500 := Nat.le_trans (Nat.le_mul_of_pos_right i hlt.2) hil
         have hrow := (hvs.mv (Mv.ext0 eg)).rowR
         refine G.skip rfl ?_
         refine G.seq rfl ?_
         refine G.block rfl rfl ?_
         refine xra Tryd.func29 2 rfl ?_
         refine xo rfl (OpX.append Tryd.underlying22 H.el27 rfl rfl hw' (flatMap_len (enc := encKy) (sz := 3) (fun _ => rfl) L) hrow (fun u hu => by obtain ⟨x, _, hx⟩ := List.mem_flatMap.1 hu; exact ky_one x u hx) (by simp only [maxLen]; omega) (by omega) (by omega)) ?_
         rintro v2 h2 ⟨ho2, hx2, _, hv2⟩
         have ho2' : OwR 3 encKy h2 h.size 27 v2 (timesR (i + 1) L) := by unfold OwR; rw [times_succ, List.length_append, List.flatMap_append]; exact ho2
         have e2 := Ext.own eg hw' (Nat.le_refl _) hx2
         obtain ⟨v2a, v2c, rfl, _⟩ := OwnH.open ho2
         refine xqd 1 [0, 2, 8, 9, 10, 44] rfl ?_
         refine xra Tryd.func29 1 rfl ?_
         refine xp rfl (OpP.lenSlice Tryd.underlying22 rfl) ?_
         refine xqd 1 [0, 2, 8, 9, 10, 44, 52] rfl ?_
         refine G.ite rfl rfl (fun hbig => ?_) (fun hbig => ?_)
         · have hml := Nat.mul_le_mul_right L.length (show i + 1 ≤ m by omega)
           rw [if_pos (by rw [← Int.natCast_mul]; omega)]
           refine xrd Tryd.func29 2 [0, 2, 6, 7, 8, 9, 10, 44, 52] rfl ?_
           refine G.ret Tryd.func29 rfl rfl ?_
           exact ⟨_, rfl, ⟨_, rfl, OwR.nil _ _ _ _ _, k.ext0 e2⟩, Ext0.of e2⟩
         · refine G.skip rfl ?_
           refine G.blkEnd ?_
           refine G.reg Tryd.func29 rfl ?_
           refine xqp 1 rfl rfl (OpP.add64 rfl rfl ⟨by omega, by omega⟩) ?_
           refine xqd 1 [0, 2, 8, 9, 10, 44, 52] rfl ?_
           exact ih (i + 1, .slice v2a _ v2c) _ _ ⟨rfl, rfl, rfl, rfl, rfl, trivial⟩ ⟨⟨by show i + 1 ≤ m; omega, by show (i + 1) * L.length ≤ 500; omega⟩, ho2', e2⟩ (by show m - (i + 1) < m - i; omega)
       · have hfin : timesR i L = timesR m L ∧ m * L.length ≤ 500 := by
          by_cases q : L.length = 0
          · rw [List.eq_nil_iff_length_eq_zero.2 q, times_nil, times_nil]
            simp
          · have : i = m := by omega
            rw [← this]; exact ⟨rfl, hil⟩
         rw [if_neg (by rw [← Int.natCast_mul]; omega)]
         rw [hfin.1] at hw' htl
         have hsr : SlR eKy g (fun y => ¬ h.size ≤ y) w (timesR m L) := OwR.read hw' (fun y hy q => q hy)
         refine G.exit rfl rfl ?_
         refine xra Tryd.func29 2 rfl ?_
         refine xo rfl (OpX.call (vs := [_, _]) Tryd.func53 rfl H.nm53 rfl (CallsH.toX (rKeep_calls (k.ext0 eg) hsr (by omega) (fun y hy => by have := hO y hy; omega)))) ?_
         rintro _ h2 ⟨⟨rfl, k2⟩, x2⟩
         refine xqd 1 [0, 2, 8, 9, 10, 11, 44] rfl ?_
         refine G.seq rfl ?_
         refine xrd Tryd.func29 2 [0, 2, 8, 9, 10, 11, 44, 57] rfl ?_
         have hk2 := keep_same (timesR m L) s
         have own1 : ∀ y, w.ownBlock = some y → h.size ≤ y := fun y q => (OwnH.lt hw' q).1
         refine G.ite rfl rfl (fun he => ?_) (fun he => ?_)
         · rw [if_neg he]
           rw [hk2 he] at k2
           refine xrd Tryd.func29 3 [0, 2, 6, 7, 8, 9, 10, 11, 44, 57] rfl ?_
           refine G.ret Tryd.func29 rfl rfl ?_
           exact ⟨_, rfl, ⟨_, rfl, OwR.nil _ _ _ _ _, k2⟩, (Ext0.of eg).trans x2⟩
         · have he := Classical.not_not.1 he
           rw [if_pos he]
           refine G.skip rfl ?_
           refine xrd Tryd.func29 3 [0, 2, 6, 7, 8, 9, 10, 11, 44, 57] rfl ?_
           refine G.ret Tryd.func29 rfl rfl ?_
           exact ⟨_, rfl, ⟨_, rfl, OwnH.ext x2 hw' (fun y q e => by have := own1 y q; have e : y = b := e; omega), k2⟩, (Ext0.of eg).trans x2⟩
def kX : Ky := (1, 120, [])
def kY : Ky := (1, 121, [])
def putL : List Ky := [(6, 97, []), kX, (1, 32, []), (2, 0, [])]
theorem hex32 : hexP 32 = [50, 48] := by rw [hexP_step (by decide), hexP_one (by decide)]; rfl
theorem putL_eq : putK putL = [67, 45, 97, 32, 120, 32, 85, 43, 50, 48, 32, 69, 110, 116, 101, 114] := by
 unfold putK
 rw [show (putL.filter fun k => mayP k) = putL from by decide]
 show joinP [[67, 45, 97], [120], 85 :: 43 :: hexP 32, [69, 110, 116, 101, 114]] = _
 rw [hex32]; rfl
theorem getL_eq : getK [67, 45, 97, 32, 32, 120] = ([], 2, 10) := by
 unfold getK
 rw [if_neg (by decide), show splitS 32 [67, 45, 97, 32, 32, 120] = [[67, 45, 97], [], [120]] from by decide, getW,
  show keyP [67, 45, 97] = some (6, 97, []) from keyP_word (k := (6, 97, [])) (by decide)]
 show getW [[], [120]] (0 + 1) ([] ++ [(6, 97, [])]) = _
 rw [getW, keyP_nil]; rfl
def rg1 : Rg := (startR 113 newR).1
def rg2 : Rg := (keyR kX rg1).1
def rg3 : Rg := (keyR kY rg2).1
def rg4 : Rg := (stopR rg3).1
theorem rg_codes : (startR 113 newR).2 = 0 ∧ (keyR kX rg1).2 = 0 ∧ (keyR kY rg2).2 = 0 ∧ (stopR rg3).2 = 0 := by decide
theorem rg_play : (playR 113 2 rg4).1 = [kX, kY, kX, kY] ∧ (playR 113 2 rg4).2.2 = 0 := by decide
theorem played_calls {h : Heap} (hg : MacG h) : CallsH Tryd.prog 10 #[] h (Ret fun r h' => r = .bool true ∧ Ext0 h h') := by
 have hpl := putL_eq
 refine CallsH.of Tryd.func10 rfl rfl ?_
 refine xrd Tryd.func10 1 [0] rfl ?_
 refine xr Tryd.func10 rfl ?_
 refine xp rfl (OpP.build (H.bd27_0_1 _ _) rfl) ?_
 refine xp rfl (OpP.build (H.bd27_0_1 _ _) rfl) ?_
 refine xo rfl (OpX.allocN H.zr27) ?_
 rintro _ h1 ⟨rfl, k1, e1, z1⟩
 refine xo rfl (OpX.allocN H.zr27) ?_
 rintro _ h2 ⟨rfl, k2, e2, z2⟩
 refine RW.op0 rfl rfl rfl (OpX.storeBlk H.sz27 rfl rfl (k1.ext0 e2) (by first | rfl | (simp; done) | (simp; omega)) (by first | decide | exact of_decide_eq_true rfl | (simp; done) | (simp; omega)) (ky_one kX)) ?_
 rintro _ g1 ⟨rfl, k1', x1, y1⟩
 refine RW.op0 rfl rfl rfl (OpX.storeBlk H.sz27 rfl rfl (k2.ext x1 (show ¬ h1.size = h.size by omega)) (by first | rfl | (simp; done) | (simp; omega)) (by first | decide | exact of_decide_eq_true rfl | (simp; done) | (simp; omega)) (ky_one kY)) ?_
 rintro _ g2 ⟨rfl, k2', x2, y2⟩
 have k1 : Blk g2 h.size 27 (encKy kX) := k1'.ext x2 (show ¬ h.size = h1.size by omega)
 have k2 : Blk g2 h1.size 27 (encKy kY) := k2'
 have e0 : Ext0 h g2 := Ext0.only (Ext0.only (e1.trans e2) x1 (Nat.le_refl _)) x2 (by omega)
 have hpo : ∀ k ∈ putL, KyOk k := by
  intro k hk
  simp only [putL, List.mem_cons, List.not_mem_nil, or_false] at hk
  rcases hk with rfl | rfl | rfl | rfl <;> exact ⟨⟨by decide, by decide⟩, by decide⟩
 refine xd [0, 1, 2] rfl ?_
 refine xr Tryd.func10 rfl ?_
 refine xp rfl (OpP.build (H.bd27_0_1 _ _) rfl) ?_
 refine xp rfl (OpP.loadRowN H.ag27 H.sz27 rfl k1.row (by first | rfl | (simp; done) | (simp; omega))) ?_
 refine xp rfl (OpP.build (H.bd27_0_1 _ _) rfl) ?_
 refine xp rfl (OpP.build (H.bd27_0 _) rfl) ?_
 refine xo rfl (OpX.buildRecs Tryd.underlying22 H.el27 ([encKy (6, 97, []), encKy kX, encKy (1, 32, []), encKy (2, 0, [])]) rfl rfl (by decide) (by simp <;> repeat' (first | rfl | constructor))) ?_
 rintro _ g3 ⟨rfl, hh3⟩
 have e3 : Ext0 g2 g3 := by rw [hh3]; exact Ext.push _ _ _
 have hsl : SlR eKy g3 (fun _ => False) (.slice (some ⟨g2.size, 0, none⟩) 4 4) putL := by rw [hh3]; exact recs_made g2 putL _ 4 rfl (by decide) rfl
 have e03 := e0.trans e3
 refine xo rfl (OpX.call (vs := [_]) Tryd.func15 rfl H.nm15 rfl (CallsH.toX (Put_calls (hg.ext0 e03) hsl hpo (by decide) (by rw [hpl]; decide)))) ?_
 rintro _ g4 ⟨rfl, e4⟩
 have e04 := e03.trans e4
 refine xqd 1 [0, 1, 2, 3] rfl ?_
 refine xr Tryd.func10 rfl ?_
 refine xo rfl (OpX.call (vs := [_]) Tryd.func17 rfl H.nm17 rfl (CallsH.toX (Get_calls (hg.ext0 e04) [67, 45, 97, 32, 32, 120] (by decide)))) ?_
 rintro _ g5 ⟨⟨v5, rfl, ho5⟩, e5⟩
 refine xqd 7 [0, 1, 2, 3, 5, 6] rfl ?_
 refine xr Tryd.func10 rfl ?_
 refine xo rfl (OpX.call (vs := []) Tryd.func21 rfl H.nm21 rfl (CallsH.toX (New_calls))) ?_
 rintro _ g6 ⟨⟨rfl, hN⟩, e6⟩
 have e06 := (e04.trans e5).trans e6
 have k16 := (((k1.ext0 e3).ext0 e4).ext0 e5).ext0 e6
 have k26 := (((k2.ext0 e3).ext0 e4).ext0 e5).ext0 e6
 have l1 := k16.lt
 have l2 := k26.lt
 have h05 := (e04.trans e5).size
 have s15 : h1.size < g5.size := by have := ((((k2.ext0 e3).ext0 e4).ext0 e5)).lt; exact this
 have hM1 : ¬ (h.size = Array.size g5 ∨ Array.size g6 ≤ h.size) := by omega
 have hM2 : ¬ (h1.size = Array.size g5 ∨ Array.size g6 ≤ h1.size) := by omega
 refine xqd 1 [0, 1, 2, 3, 5, 6, 7] rfl ?_
 refine G.seq rfl ?_
 refine G.draw (fun y => y = Array.size g5 ∨ Array.size g6 ≤ y) (fun i => Nat.blt i 14) (sz := 14) (listed := #[false, false, false, false, false, false, false, false, false, false, false, false, false, false]) Tryd.func10 H.mixed rfl rfl rfl ?_
 refine xtq 0 1 (by kernel_rfl) rfl ?_
 refine xtq 2 5 (by kernel_rfl) rfl ?_
 refine xtp 3 13 (by kernel_rfl) rfl (fun h' e => OpP.loadRowN H.ag27 H.sz27 rfl (e.rowAt hM1 k16.row) (by first | rfl | (simp; done) | (simp; omega))) ?_
 refine xtq 5 45 (by kernel_rfl) rfl ?_
 refine xtp 6 109 (by kernel_rfl) rfl (fun h' e => OpP.loadRowN H.ag27 H.sz27 rfl (e.rowAt hM2 k26.row) (by first | rfl | (simp; done) | (simp; omega))) ?_
 refine xtq 8 365 (by kernel_rfl) rfl ?_
 refine xto 1 367 (by kernel_rfl) rfl (OpX.call (vs := [_, _]) Tryd.func22 rfl H.nm22 rfl (CallsH.toX (Start_calls (hN fun _ => False) 113))) ?_
 rintro _ g7 ⟨⟨rfl, k7⟩, x7⟩
 refine ⟨fun _ => x7.mono (fun _ _ q => .inl q), ?_⟩
 have e07 := Ext0.only e06 x7 h05
 refine xto 4 383 (by kernel_rfl) rfl (OpX.call (vs := [_, _]) Tryd.func25 rfl H.nm25 rfl (CallsH.toX (Key_put (hg.ext0 e07) k7 kX (fun _ q => q.elim)))) ?_
 rintro _ g8 ⟨⟨rfl, k8⟩, x8⟩
 refine ⟨fun _ => x8.mono (fun _ _ q => .inl q), ?_⟩
 have e08 := Ext0.only e07 x8 h05
 refine xto 7 511 (by kernel_rfl) rfl (OpX.call (vs := [_, _]) Tryd.func25 rfl H.nm25 rfl (CallsH.toX (Key_put (hg.ext0 e08) k8 kY (fun _ q => q.elim)))) ?_
 rintro _ g9 ⟨⟨rfl, k9⟩, x9⟩
 refine ⟨fun _ => x9.mono (fun _ _ q => .inl q), ?_⟩
 have e09 := Ext0.only e08 x9 h05
 refine xto 9 1023 (by kernel_rfl) rfl (OpX.call (vs := [_]) Tryd.func23 rfl H.nm23 rfl (CallsH.toX (Stop_calls k9))) ?_
 rintro _ g10 ⟨⟨rfl, k10⟩, x10⟩
 refine ⟨fun _ => x10.mono (fun _ _ q => .inl q), ?_⟩
 have e010 := Ext0.only e09 x10 h05
 refine xtq 10 2047 (by kernel_rfl) rfl ?_
 refine xtq 11 4095 (by kernel_rfl) rfl ?_
 refine xtq 12 8191 (by kernel_rfl) rfl ?_
 refine xtq 13 16383 (by kernel_rfl) rfl ?_
 refine RD.done (by kernel_rfl) ?_
 refine xu [0, 1, 2, 3, 5, 6, 7, 8, 9, 10, 11] rfl ?_
 refine xra Tryd.func10 1 rfl ?_
 refine xo rfl (OpX.call (vs := [_, _, _]) Tryd.func24 rfl H.nm24 rfl (CallsH.toX (Play_calls k10 113 2 (fun _ q => q.elim)))) ?_
 rintro _ g11 ⟨⟨w, rfl, hw, k11⟩, x11⟩
 have e011 := Ext0.only e010 x11 h05
 have hw : OwR 3 encKy g11 g10.size 27 w (playR 113 2 rg4).1 := hw
 rw [rg_play.1] at hw
 have hws : SlR eKy g11 (fun _ => False) w [kX, kY, kX, kY] := OwR.read hw (fun _ _ q => q)
 obtain ⟨wa, wn, wc, rfl, hwl⟩ := hws.open
 have hwn : 4 = wn := hwl.len
 subst hwn
 have x6 := ((((x7.trans x8).trans x9).trans x10).trans x11)
 have kf1 : Blk g11 h.size 27 (encKy kX) := k16.ext x6 (show ¬ h.size = g5.size by omega)
 have kf2 : Blk g11 h1.size 27 (encKy kY) := k26.ext x6 (show ¬ h1.size = g5.size by omega)
 obtain ⟨b0, o0, y0, ha0, _, hy0, hr0⟩ := hwl.recd (i := 0) (by decide)
 obtain ⟨b1, o1, y1', ha1, _, hy1, hr1⟩ := hwl.recd (i := 1) (by decide)
 obtain ⟨b3, o3, y3, ha3, _, hy3, hr3⟩ := hwl.recd (i := 3) (by decide)
 cases hy0
 cases hy1
 cases hy3
 refine xqd 5 [0, 1, 2, 3, 5, 6, 7, 8, 9, 10, 11, 12, 13] rfl ?_
 refine G.seq rfl ?_
 refine G.drawQ Tryd.func10 H.mixed rfl (by kernel_rfl) ?_
 refine RQ.pureS rfl rfl rfl rfl (OpP.move rfl) ?_
 refine RQ.pureS rfl rfl rfl rfl (OpP.eqlStr rfl rfl) ?_
 refine RQ.pureS rfl rfl rfl rfl (OpP.move rfl) ?_
 refine RQ.know (d := 45) (b' := true) rfl (decide_eq_true ((by rw [hpl]; rfl))) ?_
 refine RQ.pureS rfl rfl rfl rfl (OpP.move rfl) ?_
 refine RQ.pureS rfl rfl rfl rfl (OpP.eqlInt rfl rfl) ?_
 refine RQ.pureS rfl rfl rfl rfl (OpP.pickT rfl rfl) ?_
 refine RQ.pureS rfl rfl rfl rfl (OpP.move rfl) ?_
 refine RQ.know (d := 49) (b' := true) rfl (decide_eq_true ((by rw [getL_eq]))) ?_
 refine RQ.pureS rfl rfl rfl rfl (OpP.move rfl) ?_
 refine RQ.pureS rfl rfl rfl rfl (OpP.eqlInt rfl rfl) ?_
 refine RQ.pureS rfl rfl rfl rfl (OpP.pickT rfl rfl) ?_
 refine RQ.pureS rfl rfl rfl rfl (OpP.move rfl) ?_
 refine RQ.know (d := 53) (b' := true) rfl (decide_eq_true ((by rw [getL_eq]))) ?_
 refine RQ.pureS rfl rfl rfl rfl (OpP.move rfl) ?_
 refine RQ.pureS rfl rfl rfl rfl (OpP.eqlInt rfl rfl) ?_
 refine RQ.pureS rfl rfl rfl rfl (OpP.pickT rfl rfl) ?_
 refine RQ.pureS rfl rfl rfl rfl (OpP.move rfl) ?_
 refine RQ.know (d := 57) (b' := true) rfl (decide_eq_true (rg_codes.1)) ?_
 refine RQ.pureS rfl rfl rfl rfl (OpP.move rfl) ?_
 refine RQ.pureS rfl rfl rfl rfl (OpP.eqlInt rfl rfl) ?_
 refine RQ.pureS rfl rfl rfl rfl (OpP.pickT rfl rfl) ?_
 refine RQ.pureS rfl rfl rfl rfl (OpP.move rfl) ?_
 refine RQ.know (d := 61) (b' := true) rfl (decide_eq_true (rg_codes.2.1)) ?_
 refine RQ.pureS rfl rfl rfl rfl (OpP.move rfl) ?_
 refine RQ.pureS rfl rfl rfl rfl (OpP.eqlInt rfl rfl) ?_
 refine RQ.pureS rfl rfl rfl rfl (OpP.pickT rfl rfl) ?_
 refine RQ.pureS rfl rfl rfl rfl (OpP.move rfl) ?_
 refine RQ.know (d := 65) (b' := true) rfl (decide_eq_true (rg_codes.2.2.1)) ?_
 refine RQ.pureS rfl rfl rfl rfl (OpP.move rfl) ?_
 refine RQ.pureS rfl rfl rfl rfl (OpP.eqlInt rfl rfl) ?_
 refine RQ.pureS rfl rfl rfl rfl (OpP.pickT rfl rfl) ?_
 refine RQ.pureS rfl rfl rfl rfl (OpP.move rfl) ?_
 refine RQ.know (d := 69) (b' := true) rfl (decide_eq_true (rg_codes.2.2.2)) ?_
 refine RQ.pureS rfl rfl rfl rfl (OpP.move rfl) ?_
 refine RQ.pureS rfl rfl rfl rfl (OpP.eqlInt rfl rfl) ?_
 refine RQ.pureS rfl rfl rfl rfl (OpP.pickT rfl rfl) ?_
 refine RQ.pureS rfl rfl rfl rfl (OpP.move rfl) ?_
 refine RQ.know (d := 73) (b' := true) rfl (decide_eq_true (rg_play.2)) ?_
 refine RQ.pureS rfl rfl rfl rfl (OpP.move rfl) ?_
 refine RQ.pureS rfl rfl rfl rfl (OpP.lenSlice Tryd.underlying22 rfl) ?_
 refine RQ.pureS rfl rfl rfl rfl (OpP.eqlInt rfl rfl) ?_
 refine RQ.pureS rfl rfl rfl rfl (OpP.pickT rfl rfl) ?_
 refine RQ.pureS rfl rfl rfl rfl (OpP.move rfl) ?_
 refine RQ.know (d := 78) (b' := true) rfl (decide_eq_true (rfl)) ?_
 refine RQ.pureS rfl rfl rfl rfl (OpP.move rfl) ?_
 refine RQ.pureS rfl rfl rfl rfl (OpP.indexSlice Tryd.underlying22 H.sz27 rfl rfl 0 rfl ha0 (by decide)) ?_
 refine RQ.pureS rfl rfl rfl rfl (OpP.loadRowN H.ag27 H.sz27 rfl hr0 (by first | rfl | (simp; done) | (simp; omega))) ?_
 refine RQ.pureS rfl rfl rfl rfl (OpP.loadRowN H.ag27 H.sz27 rfl kf1.row (by first | rfl | (simp; done) | (simp; omega))) ?_
 refine RQ.pureS rfl rfl rfl rfl (OpP.eqlAgg fieldsK stoodK guardK rfl rfl (kyEq _ _)) ?_
 refine RQ.pureS rfl rfl rfl rfl (OpP.pickT rfl rfl) ?_
 refine RQ.pureS rfl rfl rfl rfl (OpP.move rfl) ?_
 refine RQ.know (d := 85) (b' := true) rfl (decide_eq_true (rfl)) ?_
 refine RQ.pureS rfl rfl rfl rfl (OpP.move rfl) ?_
 refine RQ.pureS rfl rfl rfl rfl (OpP.indexSlice Tryd.underlying22 H.sz27 rfl rfl 1 rfl ha1 (by decide)) ?_
 refine RQ.pureS rfl rfl rfl rfl (OpP.loadRowN H.ag27 H.sz27 rfl hr1 (by first | rfl | (simp; done) | (simp; omega))) ?_
 refine RQ.pureS rfl rfl rfl rfl (OpP.loadRowN H.ag27 H.sz27 rfl kf2.row (by first | rfl | (simp; done) | (simp; omega))) ?_
 refine RQ.pureS rfl rfl rfl rfl (OpP.eqlAgg fieldsK stoodK guardK rfl rfl (kyEq _ _)) ?_
 refine RQ.pureS rfl rfl rfl rfl (OpP.pickT rfl rfl) ?_
 refine RQ.pureS rfl rfl rfl rfl (OpP.move rfl) ?_
 refine RQ.know (d := 92) (b' := true) rfl (decide_eq_true (rfl)) ?_
 refine RQ.pureS rfl rfl rfl rfl (OpP.move rfl) ?_
 refine RQ.pureS rfl rfl rfl rfl (OpP.indexSlice Tryd.underlying22 H.sz27 rfl rfl 3 rfl ha3 (by decide)) ?_
 refine RQ.pureS rfl rfl rfl rfl (OpP.loadRowN H.ag27 H.sz27 rfl hr3 (by first | rfl | (simp; done) | (simp; omega))) ?_
 refine RQ.pureS rfl rfl rfl rfl (OpP.loadRowN H.ag27 H.sz27 rfl kf2.row (by first | rfl | (simp; done) | (simp; omega))) ?_
 refine RQ.pureS rfl rfl rfl rfl (OpP.eqlAgg fieldsK stoodK guardK rfl rfl (kyEq _ _)) ?_
 refine RQ.pureS rfl rfl rfl rfl (OpP.pickT rfl rfl) ?_
 refine RQ.pureS rfl rfl rfl rfl (OpP.assign rfl) ?_
 refine RQ.done rfl ?_
 refine xu [0, 1, 2, 3, 5, 6, 7, 8, 9, 10, 11, 12, 13] rfl ?_
 refine G.ret Tryd.func10 rfl rfl ?_
 exact ⟨_, rfl, rfl, e011⟩
def GreatB (l : List Ky) (n : Int) : Bool := l.any (fun k => decide (100 < k.2.2.length)) || decide (n < l.length)
def NoM (h : Heap) (p : Value) : Prop := p = .pointer none ∨ ∃ b cs, p = .pointer (some ⟨b, 0, none⟩) ∧ Blk h b 60 (.bool false :: cs)
abbrev Ac := Int × Int × Int × Ky
def encAc (a : Ac) : List Value := [.int .u8 a.1, .int .i32 a.2.1, .int .i64 a.2.2.1, .int .i64 a.2.2.2.1, .int .i32 a.2.2.2.2.1, .string (bs a.2.2.2.2.2)]
theorem ac_one (a : Ac) : ∀ v ∈ encAc a, v.oneCell' = true := fun v hv => by simp [encAc] at hv; rcases hv with rfl | rfl | rfl | rfl | rfl | rfl <;> rfl
abbrev eAc : Elt Ac := .record 6 (by decide) encAc (fun _ => rfl) ac_one
theorem ac_key {h : Heap} {b o : Nat} {a : Ac} (k : Lw.rowAt h b o (encAc a)) : Lw.rowAt h b (o + 3) (encKy a.2.2.2) := fun j v hv => by
 rw [Nat.add_assoc]
 refine k (3 + j) v ?_
 match j, hv with
 | 0, hv => exact hv
 | 1, hv => exact hv
 | 2, hv => exact hv
 | j + 3, hv => simp [encKy] at hv
structure MR (h : Heap) (bm br : Nat) (s : Rg) : Prop where
 m : MacO (fun y => y = br) h bm s
 r : RefO (fun y => y = bm) h br s
 ne : bm ≠ br
theorem MR.ext0 {h h' : Heap} {bm br : Nat} {s : Rg} (k : MR h bm br s) (e : Ext0 h h') : MR h' bm br s := ⟨k.m.ext0 e, k.r.ext0 e, k.ne⟩
theorem MR.both {h h1 h2 : Heap} {bm br : Nat} {s s' : Rg} (k : MR h bm br s) (x1 : Ext (fun y => y = bm) h h1) (k1 : MacO (fun y => y = br) h1 bm s') (x2 : Ext (fun y => y = br) h1 h2) (k2 : RefO (fun y => y = bm) h2 br s') : MR h2 bm br s' :=
 ⟨k1.ext x2 k.ne (fun _ q _ => q), k2, k.ne⟩
theorem MR.ref {h h1 : Heap} {bm br : Nat} {s : Rg} (k : MR h bm br s) (x1 : Ext (fun y => y = bm) h h1) : RefO (fun y => y = bm) h1 br s := k.r.ext x1 (fun q => k.ne q.symm) (fun _ q _ => q)
theorem keeps_in (s : Rg) : (keepsR s).1 = inR s ∧ ((keepsR s).2 = true ↔ inR s ≠ 0) := by
 unfold keepsR inR
 split
 · simp
 · refine ⟨rfl, ?_⟩
   simp only [true_iff]
   omega
theorem macrosKeep_calls {h : Heap} (hg : MacG h) {v : Value} {l : List Ac} (hv : SlR eAc h (fun _ => False) v l) :
 CallsH Tryd.prog 7 #[v] h (Ret fun r h' => r = .bool true ∧ Ext0 h h') := by
 obtain ⟨oa, n, c, rfl, hsl⟩ := hv.open
 have hln := hsl.len
 subst hln
 refine CallsH.of Tryd.func7 rfl rfl ?_
 refine xrd Tryd.func7 1 [0, 2] rfl ?_
 refine G.seq rfl ?_
 refine xra Tryd.func7 1 rfl ?_
 refine xp rfl (OpP.lenSlice Tryd.underlying48 rfl) ?_
 refine xqd 1 [0, 2, 17] rfl ?_
 refine G.ite rfl rfl (fun hgt => ?_) (fun hgt => ?_)
 · refine xr Tryd.func7 rfl ?_
   refine xo rfl (OpX.call (vs := []) Tryd.func10 rfl H.nm10 rfl (CallsH.toX (played_calls hg))) ?_
   rintro _ h1 ⟨rfl, e1⟩
   refine xqd 1 [0, 2, 17] rfl ?_
   refine G.ret Tryd.func7 rfl rfl ?_
   exact ⟨_, rfl, rfl, e1⟩
 · refine G.skip rfl ?_
   refine xr Tryd.func7 rfl ?_
   refine xo rfl (OpX.call (vs := []) Tryd.func21 rfl H.nm21 rfl (CallsH.toX (New_calls))) ?_
   rintro _ h1 ⟨⟨rfl, hN⟩, e1⟩
   refine xp rfl (OpP.build (H.bd52_ ) rfl) ?_
   refine xo rfl (OpX.boxN rfl) ?_
   rintro _ h2 ⟨rfl, k2, e2, z2⟩
   have hN1 := (hN fun y => y = h1.size)
   have hb1 := hN1.lt
   have hR : RefO (fun y => y = h.size) h2 h1.size newR := ⟨RgOk.new, List.replicate 26 (.slice none 0 0), k2, by simp, by simp [newR], fun i l hl => by
    have hi : i < 26 := by have := (List.getElem?_eq_some_iff.1 hl).1; simpa [newR] using this
    have : l = [] := by have := List.mem_of_getElem? hl; exact (List.mem_replicate.1 this).2
    subst this
    exact ⟨.slice none 0 0, by rw [List.getElem?_replicate, if_pos hi], SlR.nil _ _ _⟩⟩
   have hMR : MR h2 h.size h1.size newR := ⟨hN1.ext0 e2, hR, by omega⟩
   have e02 := e1.trans e2
   have z01 := e1.size
   obtain ⟨bm, hbm⟩ : ∃ bm, bm = h.size := ⟨_, rfl⟩
   obtain ⟨br, hbr⟩ : ∃ br, br = h1.size := ⟨_, rfl⟩
   rw [← hbm, ← hbr] at hMR ⊢
   refine xqd 2 [0, 2, 3, 4, 17] rfl ?_
   refine G.seq rfl ?_
   refine xrd Tryd.func7 1 [0, 2, 3, 4, 5, 17] rfl ?_
   refine G.block rfl rfl ?_
   refine G.loop (σ := Nat × Rg) (fun q => [(0, .slice oa l.length c), (3, .pointer (some ⟨bm, 0, none⟩)), (4, .pointer (some ⟨br, 0, none⟩)), (5, .int .i64 (q.1 : Nat))]) (fun q h' => q.1 ≤ l.length ∧ MR h' bm br q.2 ∧ Ext0 h h') (fun q => l.length - q.1) ((0, newR)) rfl ⟨rfl, rfl, rfl, rfl, trivial⟩ ⟨Nat.zero_le _, hMR, e02⟩ ?_
   rintro ⟨i, s⟩ g ⟨hi, hm, eg⟩ ih
   try dsimp only
   dsimp only at hi hm
   refine G.seq rfl ?_
   refine xra Tryd.func7 2 rfl ?_
   refine xp rfl (OpP.lenSlice Tryd.underlying48 rfl) ?_
   refine xqd 1 [0, 3, 4, 5, 25] rfl ?_
   refine G.ite rfl rfl (fun hlt => ?_) (fun hlt => ?_)
   · have hlt' : i < l.length := by omega
     obtain ⟨b, o, a, ha, _, hx, hrow⟩ := (hsl.mv (Mv.ext0 eg)).recd hlt'
     have hza := bs_size a.2.2.2.2.2
     refine G.skip rfl ?_
     refine G.seq rfl ?_
     refine G.block rfl rfl ?_
     refine xra Tryd.func7 2 rfl ?_
     refine xp rfl (OpP.indexSlice Tryd.underlying48 H.sz54 rfl rfl i rfl ha (by omega)) ?_
     refine xp rfl (OpP.loadRowN H.ag54 H.sz54 rfl hrow (by first | rfl | (simp; done) | (simp; omega))) ?_
     refine xo rfl (OpX.allocN H.zr54) ?_
     rintro _ h3 ⟨rfl, k3, e3, z3⟩
     refine RW.op0 rfl rfl rfl (OpX.storeBlk H.sz54 rfl rfl k3 (by first | rfl | (simp; done) | (simp; omega)) (by first | decide | exact of_decide_eq_true rfl | (simp; done) | (simp; omega)) (ac_one a)) ?_
     rintro _ h4 ⟨rfl, k4, x4, z4⟩
     have k4 : Blk h4 g.size 54 (encAc a) := k4
     have eg4 := Ext0.only e3 x4 (Nat.le_refl _)
     have e04 := eg.trans eg4
     have hm4 := hm.ext0 eg4
     have lm := hm.m.lt
     have lr := hm.r.lt
     obtain ⟨b6, hb6⟩ : ∃ b6, b6 = g.size := ⟨_, rfl⟩
     rw [← hb6] at k4 ⊢
     have l4 := k4.lt
     refine xd [0, 3, 4, 5, 6, 25] rfl ?_
     refine G.seq rfl ?_
     refine xr Tryd.func7 rfl ?_
     refine xp rfl (OpP.fieldAddr (off := 3) Tryd.underlying54 rfl rfl H.sz27 rfl) ?_
     refine xp rfl (OpP.fieldAddr (off := 2) Tryd.underlying27 rfl rfl H.sz9 rfl) ?_
     refine xp rfl (OpP.load H.ag9 rfl (k4.cell (i := 5) rfl)) ?_
     refine xp rfl (OpP.lenString Tryd.underlying9 rfl) ?_
     refine xqd 1 [0, 3, 4, 5, 6, 25, 36] rfl ?_
     refine G.ite rfl rfl (fun hlong => ?_) (fun hlong => ?_)
     · refine xr Tryd.func7 rfl ?_
       refine xo rfl (OpX.call (vs := []) Tryd.func10 rfl H.nm10 rfl (CallsH.toX (played_calls (hg.ext0 e04)))) ?_
       rintro _ h5 ⟨rfl, e5⟩
       refine xqd 1 [0, 2, 3, 4, 5, 6, 25, 36] rfl ?_
       refine G.ret Tryd.func7 rfl rfl ?_
       exact ⟨_, rfl, rfl, e04.trans e5⟩
     · refine G.skip rfl ?_
       refine xrd Tryd.func7 1 [0, 3, 4, 5, 6, 7, 25, 36] rfl ?_
       refine G.seq rfl ?_
       refine xr Tryd.func7 rfl ?_
       refine xp rfl (OpP.fieldAddr (off := 0) Tryd.underlying54 rfl rfl H.sz5 rfl) ?_
       refine xp rfl (OpP.load H.ag5 rfl (k4.cell (i := 0) rfl)) ?_
       refine xp rfl (OpP.rem rfl rfl (by decide)) ?_
       refine xd [0, 3, 4, 5, 6, 7, 25, 36, 40] rfl ?_
       refine G.block rfl rfl ?_
       refine xrd Tryd.func7 2 [0, 3, 4, 5, 6, 7, 25, 36, 40, 50] rfl ?_
       have fin : ∀ (s' : Rg) (h' : Heap) (ρ' : Env), Sub [(0, .slice oa l.length c), (3, .pointer (some ⟨bm, 0, none⟩)), (4, .pointer (some ⟨br, 0, none⟩)), (5, .int .i64 (i : Nat)), (6, .pointer (some ⟨b6, 0, none⟩)), (7, .bool true)] ρ' → MR h' bm br s' → Blk h' b6 54 (encAc a) → Ext0 h h' → G Tryd.prog 7 Tryd.f7 [.code [1, 1, 1, 1, 0, 0, 1, 0, 0, 1, 0, 1, 1, 1], .blk 1, .code [1, 1, 0, 0, 1, 0, 1, 1, 1], .loop [0, 0, 1, 0, 1, 1, 1], .blk 0, .code [1, 1, 1, 1]] ρ' h' (Ret fun r h' => r = .bool true ∧ Ext0 h h') := by
        rintro s' g' ρ' hsub hm k6 eg'
        refine G.sub (ρ' := [(0, .slice oa l.length c), (3, .pointer (some ⟨bm, 0, none⟩)), (4, .pointer (some ⟨br, 0, none⟩)), (5, .int .i64 (i : Nat)), (6, .pointer (some ⟨b6, 0, none⟩)), (7, .bool true)]) hsub ?_
        obtain ⟨hki, hkb⟩ := keeps_in s'
        obtain ⟨_, vs, kb, hvs⟩ := id hm.r
        have hvl := hvs.1
        refine xra Tryd.func7 1 rfl ?_
        refine xo rfl (OpX.call (vs := [_]) Tryd.func32 rfl H.nm32 rfl (CallsH.toX (Keeps_calls hm.m))) ?_
        rintro _ g' ⟨rfl, rfl⟩
        refine xqd 5 [0, 3, 4, 5, 6, 7, 13, 14] rfl ?_
        refine G.seq rfl ?_
        have hq : (keepsR s').2 = decide (inR s' ≠ 0) := by rw [Bool.eq_iff_iff, hkb, decide_eq_true_iff]
        refine G.draw (fun b => Array.size g' ≤ b) (fun i => Nat.blt i 39) (sz := 39) (listed := #[false, false, false, false, false, false, false, false, false, false, false, false, false, false, false, false, false, false, false, false, false, false, false, false, false, false, false, false, false, false, false, false, false, false, false, false, false, false, false]) Tryd.func7 H.mixed rfl rfl rfl ?_
        refine xtq 0 1 (by kernel_rfl) rfl ?_
        refine xtq 1 3 (by kernel_rfl) rfl ?_
        refine xtq 2 7 (by kernel_rfl) rfl ?_
        refine RD.know (d := 118) (b' := false) rfl (rfl) ?_
        refine xtq 3 15 (by kernel_rfl) rfl ?_
        refine xtq 4 31 (by kernel_rfl) rfl ?_
        refine xtq 5 63 (by kernel_rfl) rfl ?_
        refine xtp 6 127 (by kernel_rfl) rfl (fun h' e => OpP.fieldAddr (off := 26) Tryd.underlying52 rfl rfl H.sz21 rfl) ?_
        refine xtp 7 255 (by kernel_rfl) rfl (fun h' e => OpP.load H.ag21 rfl (e.old (kb.cell (i := 26) (refC_in hvl _)))) ?_
        refine xtq 8 511 (by kernel_rfl) rfl ?_
        refine xtq 9 1023 (by kernel_rfl) rfl ?_
        refine xtq 10 2047 (by kernel_rfl) rfl ?_
        refine RD.know (d := 126) (b' := false) rfl (decide_eq_false ((by rw [hki]; exact fun q => q rfl))) ?_
        refine xtq 11 4095 (by kernel_rfl) rfl ?_
        refine xtq 12 8191 (by kernel_rfl) rfl ?_
        refine xtq 13 16383 (by kernel_rfl) rfl ?_
        refine xtp 14 32767 (by kernel_rfl) rfl (fun h' e => OpP.fieldAddr (off := 26) Tryd.underlying52 rfl rfl H.sz21 rfl) ?_
        refine xtp 15 65535 (by kernel_rfl) rfl (fun h' e => OpP.load H.ag21 rfl (e.old (kb.cell (i := 26) (refC_in hvl _)))) ?_
        refine xtq 16 131071 (by kernel_rfl) rfl ?_
        refine xtp 17 262143 (by kernel_rfl) rfl (fun h' e => OpP.neqBool Tryd.underlying4 rfl rfl) ?_
        refine xtq 18 524287 (by kernel_rfl) rfl ?_
        refine xtq 19 1048575 (by kernel_rfl) rfl ?_
        refine RD.know (d := 135) (b' := false) rfl ((by rw [hq]; simp)) ?_
        refine xtq 20 2097151 (by kernel_rfl) rfl ?_
        refine xtp 21 4194303 (by kernel_rfl) rfl (fun h' e => OpP.fieldAddr (off := 1) Tryd.underlying54 rfl rfl H.sz21 rfl) ?_
        refine xtp 22 8388607 (by kernel_rfl) rfl (fun h' e => OpP.load H.ag21 rfl (e.old (k6.cell (i := 1) rfl))) ?_
        refine xtq 24 25165823 (by kernel_rfl) rfl ?_
        refine xtp 25 58720255 (by kernel_rfl) rfl (fun h' e => OpP.fieldAddr (off := 1) Tryd.underlying54 rfl rfl H.sz21 rfl) ?_
        refine xtp 26 125829119 (by kernel_rfl) rfl (fun h' e => OpP.load H.ag21 rfl (e.old (k6.cell (i := 1) rfl))) ?_
        refine xto 23 134217727 (by kernel_rfl) rfl (OpX.call (vs := [_, _]) Tryd.func26 rfl H.nm26 rfl (CallsH.toX (Keys_calls hm.m a.2.1))) ?_
        rintro v1 w1 ⟨ho1, f1⟩
        refine ⟨fun _ => f1.of, ?_⟩
        refine xto 27 268435455 (by kernel_rfl) rfl (OpX.call (vs := [_, _]) Tryd.func33 rfl H.nm33 rfl (CallsH.toX (of_calls (hm.r.ext0 f1) a.2.1))) ?_
        rintro v2 w1 ⟨hs2, rfl⟩
        refine ⟨fun _ => Ext.refl _ _, ?_⟩
        refine xto 28 536870911 (by kernel_rfl) rfl (OpX.call (vs := [_, _]) Tryd.func19 rfl H.nm19 rfl (CallsH.toX (keys_calls (OwR.read (O := fun _ => False) ho1 (fun _ _ q => q)) hs2))) ?_
        rintro _ w1 ⟨rfl, rfl⟩
        refine ⟨fun _ => Ext.refl _ _, ?_⟩
        refine xtq 29 1073741823 (by kernel_rfl) rfl ?_
        refine xtq 30 2147483647 (by kernel_rfl) rfl ?_
        refine xtq 31 4294967295 (by kernel_rfl) rfl ?_
        refine RD.know (d := 147) (b' := false) rfl ((by simp)) ?_
        refine xtq 32 8589934591 (by kernel_rfl) rfl ?_
        refine xtq 34 25769803775 (by kernel_rfl) rfl ?_
        refine xto 33 34359738367 (by kernel_rfl) rfl (OpX.call (vs := [_, _]) Tryd.func26 rfl H.nm26 rfl (CallsH.toX (Keys_calls (hm.m.ext0 f1) 113))) ?_
        rintro v3 w2 ⟨ho3, f2⟩
        refine ⟨fun _ => f2.of, ?_⟩
        refine xto 35 68719476735 (by kernel_rfl) rfl (OpX.call (vs := [_, _]) Tryd.func33 rfl H.nm33 rfl (CallsH.toX (of_calls (hm.r.ext0 (f1.trans f2)) 113))) ?_
        rintro v4 w2 ⟨hs4, rfl⟩
        refine ⟨fun _ => Ext.refl _ _, ?_⟩
        refine xto 36 137438953471 (by kernel_rfl) rfl (OpX.call (vs := [_, _]) Tryd.func19 rfl H.nm19 rfl (CallsH.toX (keys_calls (OwR.read (O := fun _ => False) ho3 (fun _ _ q => q)) hs4))) ?_
        rintro _ w2 ⟨rfl, rfl⟩
        refine ⟨fun _ => Ext.refl _ _, ?_⟩
        refine xtq 37 274877906943 (by kernel_rfl) rfl ?_
        refine xtq 38 549755813887 (by kernel_rfl) rfl ?_
        refine RD.done (by kernel_rfl) ?_
        refine xu [0, 3, 4, 5, 6, 7, 13, 14, 154] rfl ?_
        refine G.cond rfl rfl (fun hc => absurd hc (by simp)) (fun _ => ?_)
        refine G.skip rfl ?_
        refine G.blkEnd ?_
        refine G.reg Tryd.func7 rfl ?_
        refine xqp 1 rfl rfl (OpP.add64 rfl rfl ⟨by omega, by omega⟩) ?_
        refine xqd 1 [0, 3, 4, 5, 6, 7, 13, 14, 154] rfl ?_
        exact ih (i + 1, s') _ _ ⟨rfl, rfl, rfl, rfl, trivial⟩ ⟨by show i + 1 ≤ _; omega, hm.ext0 (f1.trans f2), eg'.trans (f1.trans f2)⟩ (by show l.length - (i + 1) < l.length - i; omega)
       have hb0m : h.size ≤ bm := by omega
       have hb0r : h.size ≤ br := by omega
       have hM4 : ¬ (b6 = bm ∨ b6 = br ∨ Array.size h4 ≤ b6) := by omega
       have fin2 : ∀ {w1 w2 : Heap} {s' : Rg}, Ext (fun y => y = bm) h4 w1 → MacO (fun y => y = br) w1 bm s' → Ext (fun y => y = br) w1 w2 → RefO (fun y => y = bm) w2 br s' → MR w2 bm br s' ∧ Blk w2 b6 54 (encAc a) ∧ Ext0 h w2 := fun x1 k1 x2 k2 =>
        ⟨hm4.both x1 k1 x2 k2, (k4.ext x1 (show ¬ b6 = bm by omega)).ext x2 (show ¬ b6 = br by omega), Ext0.only (Ext0.only e04 x1 hb0m) x2 hb0r⟩
       refine G.ite rfl rfl (fun h0 => ?_) (fun h0 => ?_)
       · refine G.draw (fun y => y = bm ∨ y = br ∨ Array.size h4 ≤ y) (fun i => Nat.blt i 10) (sz := 10) (listed := #[false, false, false, false, false, false, false, false, false, false]) Tryd.func7 H.mixed rfl rfl rfl ?_
         refine xtq 0 1 (by kernel_rfl) rfl ?_
         refine xtp 1 3 (by kernel_rfl) rfl (fun h' e => OpP.fieldAddr (off := 1) Tryd.underlying54 rfl rfl H.sz21 rfl) ?_
         refine xtp 2 7 (by kernel_rfl) rfl (fun h' e => OpP.load H.ag21 rfl (e.cell hM4 (k4.cell (i := 1) rfl))) ?_
         refine xtq 4 23 (by kernel_rfl) rfl ?_
         refine xtp 5 55 (by kernel_rfl) rfl (fun h' e => OpP.fieldAddr (off := 1) Tryd.underlying54 rfl rfl H.sz21 rfl) ?_
         refine xtp 6 119 (by kernel_rfl) rfl (fun h' e => OpP.load H.ag21 rfl (e.cell hM4 (k4.cell (i := 1) rfl))) ?_
         refine xto 3 127 (by kernel_rfl) rfl (OpX.call (vs := [_, _]) Tryd.func22 rfl H.nm22 rfl (CallsH.toX (Start_calls hm4.m a.2.1))) ?_
         rintro _ w1 ⟨⟨rfl, k1⟩, x1⟩
         refine ⟨fun _ => x1.mono (fun _ _ q => .inl q), ?_⟩
         refine xto 7 255 (by kernel_rfl) rfl (OpX.call (vs := [_, _]) Tryd.func27 rfl H.nm27 rfl (CallsH.toX (rStart_calls (hm4.ref x1) a.2.1))) ?_
         rintro _ w2 ⟨⟨rfl, k2⟩, x2⟩
         refine ⟨fun _ => x2.mono (fun _ _ q => .inr (.inl q)), ?_⟩
         obtain ⟨f1, f2, f3⟩ := fin2 x1 k1 x2 k2
         refine xtq 8 511 (by kernel_rfl) rfl ?_
         refine xtq 9 1023 (by kernel_rfl) rfl ?_
         refine RD.done (by kernel_rfl) ?_
         refine xu [0, 3, 4, 5, 6, 7, 25, 36, 40, 50] rfl ?_
         refine G.blkEnd ?_
         rw [decide_eq_true (rfl : (startR a.2.1 s).2 = (startR a.2.1 s).2)]
         exact fin _ _ _ ⟨rfl, rfl, rfl, rfl, rfl, rfl, trivial⟩ f1 f2 f3
       · refine xrd Tryd.func7 2 [0, 3, 4, 5, 6, 7, 25, 36, 40, 50, 61] rfl ?_
         refine G.ite rfl rfl (fun h1 => ?_) (fun h1 => ?_)
         · refine G.reg Tryd.func7 rfl ?_
           refine xqm 1 rfl ?_
           refine xo rfl (OpX.call (vs := [_]) Tryd.func23 rfl H.nm23 rfl (CallsH.toX (Stop_calls hm4.m))) ?_
           rintro _ w1 ⟨⟨rfl, k1⟩, x1⟩
           refine xqm 1 rfl ?_
           refine xo rfl (OpX.call (vs := [_]) Tryd.func28 rfl H.nm28 rfl (CallsH.toX (rStop_calls (hm4.ref x1)))) ?_
           rintro _ w2 ⟨⟨rfl, k2⟩, x2⟩
           refine xqd 2 [0, 3, 4, 5, 6, 7, 25, 36, 40, 50, 61] rfl ?_
           refine G.blkEnd ?_
           obtain ⟨f1, f2, f3⟩ := fin2 x1 k1 x2 k2
           rw [decide_eq_true (rfl : (stopR s).2 = (stopR s).2)]
           exact fin _ _ _ ⟨rfl, rfl, rfl, rfl, rfl, rfl, trivial⟩ f1 f2 f3
         · refine G.seq rfl ?_
           refine xrd Tryd.func7 2 [0, 3, 4, 5, 6, 7, 25, 36, 40, 50, 61, 68] rfl ?_
           refine G.ite rfl rfl (fun h2 => ?_) (fun h2 => ?_)
           · refine G.skip rfl ?_
             refine G.cond rfl rfl (fun _ => ?_) (fun hc => absurd hc (by simp [h2]))
             refine xra Tryd.func7 1 rfl ?_
             refine xp rfl (OpP.fieldAddr (off := 1) Tryd.underlying54 rfl rfl H.sz21 rfl) ?_
             refine xp rfl (OpP.load H.ag21 rfl (k4.cell (i := 1) rfl)) ?_
             refine xp rfl (OpP.fieldAddr (off := 2) Tryd.underlying54 rfl rfl H.sz3 rfl) ?_
             refine xp rfl (OpP.load H.ag3 rfl (k4.cell (i := 2) rfl)) ?_
             refine xo rfl (OpX.call (vs := [_, _, _]) Tryd.func24 rfl H.nm24 rfl (CallsH.toX (Play_calls hm4.m a.2.1 a.2.2.1 (fun y q => by rw [q]; exact hm4.r.lt)))) ?_
             rintro _ w1 ⟨⟨v1, rfl, ho1, k1⟩, x1⟩
             have k5 := k4.ext x1 (show ¬ b6 = bm by omega)
             have hr5 := hm4.ref x1
             refine xqd 5 [0, 3, 4, 5, 6, 7, 8, 9, 25, 36, 40, 50, 61, 68] rfl ?_
             refine xra Tryd.func7 1 rfl ?_
             refine xp rfl (OpP.fieldAddr (off := 1) Tryd.underlying54 rfl rfl H.sz21 rfl) ?_
             refine xp rfl (OpP.load H.ag21 rfl (k5.cell (i := 1) rfl)) ?_
             refine xp rfl (OpP.fieldAddr (off := 2) Tryd.underlying54 rfl rfl H.sz3 rfl) ?_
             refine xp rfl (OpP.load H.ag3 rfl (k5.cell (i := 2) rfl)) ?_
             refine xo rfl (OpX.call (vs := [_, _, _]) Tryd.func29 rfl H.nm29 rfl (CallsH.toX (rPlay_calls hr5 a.2.1 a.2.2.1 (fun y q => by rw [q]; exact k1.lt)))) ?_
             rintro _ w2 ⟨⟨v2, rfl, ho2, k2⟩, x2⟩
             obtain ⟨f1, f2, f3⟩ := fin2 x1 k1 x2 k2
             have lrw := hm4.r.lt
             have hs1 : SlR eKy w2 (fun _ => False) v1 (playR a.2.1 a.2.2.1 s).1 := OwR.read (OwnH.ext x2 ho1 (fun y q e => by have := (OwnH.lt ho1 q).1; have e : y = br := e; omega)) (fun _ _ q => q)
             have hs2 : SlR eKy w2 (fun _ => False) v2 (playR a.2.1 a.2.2.1 s).1 := OwR.read ho2 (fun _ _ q => q)
             refine xqd 5 [0, 3, 4, 5, 6, 7, 8, 9, 10, 11, 25, 36, 40, 50, 61, 68] rfl ?_
             refine G.regTo1 [(7, .bool true)] [(0, _), (3, _), (4, _), (5, _), (6, _), (8, _), (9, _), (10, _), (11, _), (25, _), (36, _), (40, _), (50, _), (61, _), (68, _)] ⟨rfl, rfl, rfl, rfl, rfl, rfl, rfl, rfl, rfl, rfl, rfl, rfl, rfl, rfl, rfl, trivial⟩ Tryd.func7 rfl ?_ ?_
             · refine xqm 2 rfl ?_
               refine xo rfl (OpX.call (vs := [_, _]) Tryd.func19 rfl H.nm19 rfl (CallsH.toX (keys_calls hs1 hs2))) ?_
               rintro _ w2 ⟨rfl, rfl⟩
               refine xqm 1 rfl ?_
               refine RW.know (d := 92) (b' := true) rfl (decide_eq_true (rfl)) ?_
               refine xqm 5 rfl ?_
               refine RW.done rfl ?_
               exact ⟨rfl, at_bool rfl (by simp), rfl, rfl, rfl, rfl, rfl, rfl, rfl, rfl, rfl, rfl, rfl, rfl, rfl, rfl, rfl, trivial⟩
             · refine G.blkEnd ?_
               exact fin _ _ _ ⟨rfl, rfl, rfl, rfl, rfl, rfl, trivial⟩ f1 f2 f3
           · refine G.reg Tryd.func7 rfl ?_
             refine xqd 2 [0, 3, 4, 5, 6, 7, 25, 36, 40, 50, 61, 68] rfl ?_
             refine G.ite rfl rfl (fun h3 => ?_) (fun h3 => ?_)
             · refine xra Tryd.func7 1 rfl ?_
               refine xp rfl (OpP.fieldAddr (off := 1) Tryd.underlying54 rfl rfl H.sz21 rfl) ?_
               refine xp rfl (OpP.load H.ag21 rfl (k4.cell (i := 1) rfl)) ?_
               refine xp rfl (OpP.fieldAddr (off := 2) Tryd.underlying54 rfl rfl H.sz3 rfl) ?_
               refine xp rfl (OpP.load H.ag3 rfl (k4.cell (i := 2) rfl)) ?_
               refine xo rfl (OpX.call (vs := [_, _, _]) Tryd.func24 rfl H.nm24 rfl (CallsH.toX (Play_calls hm4.m a.2.1 a.2.2.1 (fun y q => by rw [q]; exact hm4.r.lt)))) ?_
               rintro _ w1 ⟨⟨v1, rfl, ho1, k1⟩, x1⟩
               have k5 := k4.ext x1 (show ¬ b6 = bm by omega)
               have hr5 := hm4.ref x1
               refine xqd 5 [0, 3, 4, 5, 6, 7, 8, 9, 25, 36, 40, 50, 61, 68] rfl ?_
               refine xra Tryd.func7 1 rfl ?_
               refine xp rfl (OpP.fieldAddr (off := 1) Tryd.underlying54 rfl rfl H.sz21 rfl) ?_
               refine xp rfl (OpP.load H.ag21 rfl (k5.cell (i := 1) rfl)) ?_
               refine xp rfl (OpP.fieldAddr (off := 2) Tryd.underlying54 rfl rfl H.sz3 rfl) ?_
               refine xp rfl (OpP.load H.ag3 rfl (k5.cell (i := 2) rfl)) ?_
               refine xo rfl (OpX.call (vs := [_, _, _]) Tryd.func29 rfl H.nm29 rfl (CallsH.toX (rPlay_calls hr5 a.2.1 a.2.2.1 (fun y q => by rw [q]; exact k1.lt)))) ?_
               rintro _ w2 ⟨⟨v2, rfl, ho2, k2⟩, x2⟩
               obtain ⟨f1, f2, f3⟩ := fin2 x1 k1 x2 k2
               have lrw := hm4.r.lt
               have hs1 : SlR eKy w2 (fun _ => False) v1 (playR a.2.1 a.2.2.1 s).1 := OwR.read (OwnH.ext x2 ho1 (fun y q e => by have := (OwnH.lt ho1 q).1; have e : y = br := e; omega)) (fun _ _ q => q)
               have hs2 : SlR eKy w2 (fun _ => False) v2 (playR a.2.1 a.2.2.1 s).1 := OwR.read ho2 (fun _ _ q => q)
               refine xqd 5 [0, 3, 4, 5, 6, 7, 8, 9, 10, 11, 25, 36, 40, 50, 61, 68] rfl ?_
               refine G.regTo1 [(7, .bool true)] [(0, _), (3, _), (4, _), (5, _), (6, _), (8, _), (9, _), (10, _), (11, _), (25, _), (36, _), (40, _), (50, _), (61, _), (68, _)] ⟨rfl, rfl, rfl, rfl, rfl, rfl, rfl, rfl, rfl, rfl, rfl, rfl, rfl, rfl, rfl, trivial⟩ Tryd.func7 rfl ?_ ?_
               · refine xqm 2 rfl ?_
                 refine xo rfl (OpX.call (vs := [_, _]) Tryd.func19 rfl H.nm19 rfl (CallsH.toX (keys_calls hs1 hs2))) ?_
                 rintro _ w2 ⟨rfl, rfl⟩
                 refine xqm 1 rfl ?_
                 refine RW.know (d := 92) (b' := true) rfl (decide_eq_true (rfl)) ?_
                 refine xqm 5 rfl ?_
                 refine RW.done rfl ?_
                 exact ⟨rfl, at_bool rfl (by simp), rfl, rfl, rfl, rfl, rfl, rfl, rfl, rfl, rfl, rfl, rfl, rfl, rfl, rfl, rfl, trivial⟩
               · refine G.blkEnd ?_
                 exact fin _ _ _ ⟨rfl, rfl, rfl, rfl, rfl, rfl, trivial⟩ f1 f2 f3
             · refine xrd Tryd.func7 2 [0, 3, 4, 5, 6, 7, 25, 36, 40, 50, 61, 68, 97] rfl ?_
               refine G.ite rfl rfl (fun h4' => ?_) (fun h4' => ?_)
               · have lm4 := hm4.m.lt
                 refine xra Tryd.func7 1 rfl ?_
                 refine xo rfl (OpX.call (vs := [_]) Tryd.func30 rfl H.nm30 rfl (CallsH.toX (Copy_calls hm4.m))) ?_
                 rintro _ w1 ⟨⟨rfl, kc⟩, y1⟩
                 have hcO : ∀ y, (y = bm ∨ y = br) → y < w1.size := fun y q => by have := y1.size; have := hm4.r.lt; omega
                 refine xqd 1 [0, 3, 4, 5, 6, 7, 12, 25, 36, 40, 50, 61, 68, 97] rfl ?_
                 refine xra Tryd.func7 1 rfl ?_
                 refine xp rfl (OpP.build (H.bd27_0 _) rfl) ?_
                 refine xo rfl (OpX.call (vs := [_, _]) Tryd.func25 rfl H.nm25 rfl (CallsH.toX (Key_put ((hg.ext0 e04).ext0 y1) kc (2, 0, []) hcO))) ?_
                 rintro _ w2 ⟨⟨rfl, kc2⟩, y2⟩
                 have f2 := Ext0.only y1 y2 (Nat.le_refl _)
                 refine xd [0, 3, 4, 5, 6, 7, 12, 25, 36, 40, 50, 61, 68, 97] rfl ?_
                 refine xra Tryd.func7 1 rfl ?_
                 refine xo rfl (OpX.call (vs := [_]) Tryd.func23 rfl H.nm23 rfl (CallsH.toX (Stop_calls kc2))) ?_
                 rintro _ w3 ⟨⟨rfl, kc3⟩, y3⟩
                 refine xd [0, 3, 4, 5, 6, 7, 12, 25, 36, 40, 50, 61, 68, 97] rfl ?_
                 refine xra Tryd.func7 1 rfl ?_
                 refine xo rfl (OpX.call (vs := [_, _]) Tryd.func22 rfl H.nm22 rfl (CallsH.toX (Start_calls kc3 113))) ?_
                 rintro _ w4 ⟨⟨rfl, kc4⟩, y4⟩
                 have f4 := Ext0.only (Ext0.only f2 y3 (Nat.le_refl _)) y4 (Nat.le_refl _)
                 refine xd [0, 3, 4, 5, 6, 7, 12, 25, 36, 40, 50, 61, 68, 97] rfl ?_
                 refine G.reg Tryd.func7 rfl ?_
                 refine xqp 1 rfl rfl (OpP.build (H.bd27_0 _) rfl) ?_
                 refine xo rfl (OpX.call (vs := [_, _]) Tryd.func25 rfl H.nm25 rfl (CallsH.toX (Key_put ((hg.ext0 e04).ext0 f4) kc4 (3, 0, []) (fun y q => by have := f4.size; have := hm4.r.lt; omega)))) ?_
                 rintro _ w5 ⟨⟨rfl, kc5⟩, y5⟩
                 refine xd [0, 3, 4, 5, 6, 7, 12, 25, 36, 40, 50, 61, 68, 97] rfl ?_
                 refine G.blkEnd ?_
                 have f5 := Ext0.only f4 y5 (Nat.le_refl _)
                 exact fin s _ _ ⟨rfl, rfl, rfl, rfl, rfl, rfl, trivial⟩ (hm4.ext0 f5) (k4.ext0 f5) (e04.trans f5)
               · refine G.draw (fun y => y = bm ∨ y = br ∨ Array.size h4 ≤ y) (fun i => Nat.blt i 10) (sz := 10) (listed := #[false, false, false, false, false, false, false, false, false, false]) Tryd.func7 H.mixed rfl rfl rfl ?_
                 refine xtq 0 1 (by kernel_rfl) rfl ?_
                 refine xtp 1 3 (by kernel_rfl) rfl (fun h' e => OpP.fieldAddr (off := 3) Tryd.underlying54 rfl rfl H.sz27 rfl) ?_
                 refine xtp 2 7 (by kernel_rfl) rfl (fun h' e => OpP.loadRowN H.ag27 H.sz27 rfl (e.rowAt hM4 (ac_key k4.row)) (by first | rfl | (simp; done) | (simp; omega))) ?_
                 refine xtq 4 23 (by kernel_rfl) rfl ?_
                 refine xtp 5 55 (by kernel_rfl) rfl (fun h' e => OpP.fieldAddr (off := 3) Tryd.underlying54 rfl rfl H.sz27 rfl) ?_
                 refine xtp 6 119 (by kernel_rfl) rfl (fun h' e => OpP.loadRowN H.ag27 H.sz27 rfl (e.rowAt hM4 (ac_key k4.row)) (by first | rfl | (simp; done) | (simp; omega))) ?_
                 refine xto 3 127 (by kernel_rfl) rfl (OpX.call (vs := [_, _]) Tryd.func25 rfl H.nm25 rfl (CallsH.toX (Key_put (hg.ext0 e04) hm4.m a.2.2.2 (fun y q => by rw [q]; exact hm4.r.lt)))) ?_
                 rintro _ w1 ⟨⟨rfl, k1⟩, x1⟩
                 refine ⟨fun _ => x1.mono (fun _ _ q => .inl q), ?_⟩
                 refine xto 7 255 (by kernel_rfl) rfl (OpX.call (vs := [_, _]) Tryd.func31 rfl H.nm31 rfl (CallsH.toX (rKey_put (hm4.ref x1) a.2.2.2 (fun y q => by rw [q]; exact k1.lt)))) ?_
                 rintro _ w2 ⟨⟨rfl, k2⟩, x2⟩
                 refine ⟨fun _ => x2.mono (fun _ _ q => .inr (.inl q)), ?_⟩
                 obtain ⟨f1, f2, f3⟩ := fin2 x1 k1 x2 k2
                 refine xtq 8 511 (by kernel_rfl) rfl ?_
                 refine xtq 9 1023 (by kernel_rfl) rfl ?_
                 refine RD.done (by kernel_rfl) ?_
                 refine xu [0, 3, 4, 5, 6, 7, 25, 36, 40, 50, 61, 68, 97] rfl ?_
                 refine G.blkEnd ?_
                 rw [decide_eq_true (rfl : (keyR a.2.2.2 s).2 = (keyR a.2.2.2 s).2)]
                 exact fin _ _ _ ⟨rfl, rfl, rfl, rfl, rfl, rfl, trivial⟩ f1 f2 f3
   · refine G.exit rfl rfl ?_
     refine xr Tryd.func7 rfl ?_
     refine xo rfl (OpX.call (vs := []) Tryd.func10 rfl H.nm10 rfl (CallsH.toX (played_calls (hg.ext0 eg)))) ?_
     rintro _ h5 ⟨rfl, e5⟩
     refine xqd 1 [0, 2, 3, 4, 5, 25] rfl ?_
     refine G.ret Tryd.func7 rfl rfl ?_
     exact ⟨_, rfl, rfl, eg.trans e5⟩
def kU : Ky := (8, 0, [])
def stF (a b c : Nat) : Rg := (c, List.replicate a kU :: List.replicate b kU :: List.replicate 24 [])
end Go.Proofs.YteicdopggikieaaDoor
