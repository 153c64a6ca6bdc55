/- Steps held against one another; limnerref27.Put. -/
import Derived.Test.YtmbikkapabljfaaDoorScr13
namespace Go.Proofs.YtmbikkapabljfaaDoor
open Go Go.Lw
set_option maxRecDepth 20000

instance : DecidableEq Stp := fun a b => by
  cases a; cases b
  simp only [Stp.mk.injEq]
  exact inferInstance

theorem toList_dec (x y : Bs) : ((bs x).toList == (bs y).toList) = decide (x = y) := by rw [toList_eq, bs_eq]

theorem stepEq {t : TypeId} (hf : ∃ f0 f1 f2 f3 : Field, (Tryd.prog.fieldsOf t).toList = [f0, f1, f2, f3] ∧ (f0.name ≠ "_" ∧ f0.type = 3 ∧ f0.offset = 0) ∧ (f1.name ≠ "_" ∧ f1.type = 9 ∧ f1.offset = 1) ∧ (f2.name ≠ "_" ∧ f2.type = 3 ∧ f2.offset = 2) ∧ (f3.name ≠ "_" ∧ f3.type = 3 ∧ f3.offset = 3))
    (hi : isRowT Tryd.prog 3 = some false) (hs : isRowT Tryd.prog 9 = some false) (x y : Stp) (w : World) : (Op.eqFields 9999 (encS x).toArray (encS y).toArray (Tryd.prog.fieldsOf t).toList).run Tryd.prog w = .ok (decide (x = y)) w := by
  obtain ⟨f0, f1, f2, f3, e, ⟨n0, t0, o0⟩, ⟨n1, t1, o1⟩, ⟨n2, t2, o2⟩, ⟨n3, t3, o3⟩⟩ := hf
  rw [e]
  have h3 := eqFields_one (P := Tryd.prog) (d := 9999) (xs := (encS x).toArray) (ys := (encS y).toArray) (fs := []) (w := w) n3 (by rw [t3]; exact hi) (u := .int .i64 x.cols) (v := .int .i64 y.cols) (by rw [o3]; rfl) (by rw [o3]; rfl) (by rw [t3]; exact run_equalIn_int w 9998 _ _ _ _ _ Tryd.underlying3) rfl
  have h2 := eqFields_one n2 (by rw [t2]; exact hi) (u := .int .i64 x.rows) (v := .int .i64 y.rows) (by rw [o2]; rfl) (by rw [o2]; rfl) (by rw [t2]; exact run_equalIn_int w 9998 _ _ _ _ _ Tryd.underlying3) h3
  have h1 := eqFields_one n1 (by rw [t1]; exact hs) (u := .string (bs x.text)) (v := .string (bs y.text)) (by rw [o1]; rfl) (by rw [o1]; rfl) (by rw [t1]; exact run_equalIn_string w 9998 _ _ _ Tryd.underlying9) h2
  have h0 := eqFields_one n0 (by rw [t0]; exact hi) (u := .int .i64 x.kind) (v := .int .i64 y.kind) (by rw [o0]; rfl) (by rw [o0]; rfl) (by rw [t0]; exact run_equalIn_int w 9998 _ _ _ _ _ Tryd.underlying3) h1
  rw [h0]
  congr 1
  rw [toList_dec]
  cases x; cases y
  simp only [Stp.mk.injEq, beq_dec, Bool.and_true]
  rw [Bool.eq_iff_iff]
  simp

theorem eqP (x y : Stp) (w : World) : (Op.eqFields 9999 (encS x).toArray (encS y).toArray (Tryd.prog.fieldsOf 28).toList).run Tryd.prog w = .ok (decide (x = y)) w :=
  stepEq ⟨_, _, _, _, rfl, ⟨by decide, rfl, rfl⟩, ⟨by decide, rfl, rfl⟩, ⟨by decide, rfl, rfl⟩, ⟨by decide, rfl, rfl⟩⟩ (by kernel_rfl) (by kernel_rfl) x y w

end Go.Proofs.YtmbikkapabljfaaDoor
