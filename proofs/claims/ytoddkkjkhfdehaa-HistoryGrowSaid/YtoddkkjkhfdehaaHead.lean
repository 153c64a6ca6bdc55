/- Facts on the types and functions of the program that the walks lean on, read off its tables. -/
import Derived.Test.YtoddkkjkhfdehaaRows
import Derived.Test.YtoddkkjkhfdehaaLwMore
namespace Go.Proofs.Ytoddkkjkhfdehaa.H
open Go Go.Lw
theorem ag5 : isRowT Try.prog 5 = some false := by kernel_rfl
theorem ag9 : isRowT Try.prog 9 = some false := by kernel_rfl
theorem bd31_0_1_2_3_4_5 (a0 : ByteArray) (a1 : ByteArray) (a2 : ByteArray) (a3 : ByteArray) (a4 : ByteArray) (a5 : ByteArray) : Try.prog.built 31 [(0, .string a0), (1, .string a1), (2, .string a2), (3, .string a3), (4, .string a4), (5, .string a5)] = some #[.string a0, .string a1, .string a2, .string a3, .string a4, .string a5] := by kernel_rfl
theorem el9 : ElemT Try.prog 9 1 16 := ⟨⟨_, _, rfl, rfl, rfl, rfl, rfl⟩, by decide⟩
theorem mixed : Try.prog.follows .mixedOrders = true := by kernel_rfl
theorem nm10 : (Try.f10.name == "runtime.NumGoroutine") = false := by decide +kernel
theorem nm11 : (Try.f11.name == "runtime.NumGoroutine") = false := by decide +kernel
theorem nm12 : (Try.f12.name == "runtime.NumGoroutine") = false := by decide +kernel
theorem nm5 : (Try.f5.name == "runtime.NumGoroutine") = false := by decide +kernel
theorem nm6 : (Try.f6.name == "runtime.NumGoroutine") = false := by decide +kernel
theorem nm7 : (Try.f7.name == "runtime.NumGoroutine") = false := by decide +kernel
theorem nm8 : (Try.f8.name == "runtime.NumGoroutine") = false := by decide +kernel
theorem nm9 : (Try.f9.name == "runtime.NumGoroutine") = false := by decide +kernel
theorem sz31 : szOf Try.prog 31 = some 6 := by kernel_rfl
theorem sz5 : szOf Try.prog 5 = some 1 := by kernel_rfl
theorem sz9 : szOf Try.prog 9 = some 1 := by kernel_rfl
theorem zr31 : (Try.prog.info? 31).bind (·.zero) = some (.agg #[.string ⟨#[]⟩, .string ⟨#[]⟩, .string ⟨#[]⟩, .string ⟨#[]⟩, .string ⟨#[]⟩, .string ⟨#[]⟩]) := by kernel_rfl
end Go.Proofs.Ytoddkkjkhfdehaa.H
