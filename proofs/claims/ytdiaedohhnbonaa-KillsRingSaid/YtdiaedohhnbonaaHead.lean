/- Facts on the types and functions of the program that the walks lean on, read off its tables. -/
import Derived.Test.YtdiaedohhnbonaaRows
import Derived.Test.YtdiaedohhnbonaaLwQuiet
namespace Go.Proofs.Ytdiaedohhnbonaa.H
open Go Go.Lw
theorem ag5 : isRowT Try.prog 5 = some false := by kernel_rfl
theorem ag9 : isRowT Try.prog 9 = some false := by kernel_rfl
theorem el9 : ElemT Try.prog 9 1 16 := ⟨⟨_, _, rfl, rfl, rfl, rfl, rfl⟩, by decide⟩
theorem mixed : Try.prog.follows .mixedOrders = true := by kernel_rfl
theorem nm4 : (Try.f4.name == "runtime.NumGoroutine") = false := by decide +kernel
theorem nm5 : (Try.f5.name == "runtime.NumGoroutine") = false := by decide +kernel
theorem nm6 : (Try.f6.name == "runtime.NumGoroutine") = false := by decide +kernel
theorem nm7 : (Try.f7.name == "runtime.NumGoroutine") = false := by decide +kernel
theorem nm8 : (Try.f8.name == "runtime.NumGoroutine") = false := by decide +kernel
theorem sz5 : szOf Try.prog 5 = some 1 := by kernel_rfl
theorem sz9 : szOf Try.prog 9 = some 1 := by kernel_rfl
end Go.Proofs.Ytdiaedohhnbonaa.H
