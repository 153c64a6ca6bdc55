/- Facts on the types and functions of the program that the walks lean on, read off its tables. -/
import Derived.Test.YtmbikkapabljfaaDoorRows
import Derived.Test.YtmbikkapabljfaaDoorLwBuild
namespace Go.Proofs.YtmbikkapabljfaaDoor.H
open Go Go.Lw
theorem ag27 : isRowT Tryd.prog 27 = some true := by kernel_rfl
theorem ag28 : isRowT Tryd.prog 28 = some true := by kernel_rfl
theorem ag3 : isRowT Tryd.prog 3 = some false := by kernel_rfl
theorem ag63 : isRowT Tryd.prog 63 = some false := by kernel_rfl
theorem ag64 : isRowT Tryd.prog 64 = some false := by kernel_rfl
theorem ag9 : isRowT Tryd.prog 9 = some false := by kernel_rfl
theorem bd27_  : Tryd.prog.built 27 [] = some #[.int .i64 (0), .string ⟨#[]⟩, .int .i64 (0), .int .i64 (0)] := by kernel_rfl
theorem bd27_0_1 (a0 : Int) (a1 : ByteArray) : Tryd.prog.built 27 [(0, .int .i64 a0), (1, .string a1)] = some #[.int .i64 a0, .string a1, .int .i64 (0), .int .i64 (0)] := by kernel_rfl
theorem bd27_0_2_3 (a0 : Int) (a2 : Int) (a3 : Int) : Tryd.prog.built 27 [(0, .int .i64 a0), (2, .int .i64 a2), (3, .int .i64 a3)] = some #[.int .i64 a0, .string ⟨#[]⟩, .int .i64 a2, .int .i64 a3] := by kernel_rfl
theorem bd27_0 (a0 : Int) : Tryd.prog.built 27 [(0, .int .i64 a0)] = some #[.int .i64 a0, .string ⟨#[]⟩, .int .i64 (0), .int .i64 (0)] := by kernel_rfl
theorem bd28_  : Tryd.prog.built 28 [] = some #[.int .i64 (0), .string ⟨#[]⟩, .int .i64 (0), .int .i64 (0)] := by kernel_rfl
theorem bd28_0_1 (a0 : Int) (a1 : ByteArray) : Tryd.prog.built 28 [(0, .int .i64 a0), (1, .string a1)] = some #[.int .i64 a0, .string a1, .int .i64 (0), .int .i64 (0)] := by kernel_rfl
theorem bd28_0_2_3 (a0 : Int) (a2 : Int) (a3 : Int) : Tryd.prog.built 28 [(0, .int .i64 a0), (2, .int .i64 a2), (3, .int .i64 a3)] = some #[.int .i64 a0, .string ⟨#[]⟩, .int .i64 a2, .int .i64 a3] := by kernel_rfl
theorem bd28_0 (a0 : Int) : Tryd.prog.built 28 [(0, .int .i64 a0)] = some #[.int .i64 a0, .string ⟨#[]⟩, .int .i64 (0), .int .i64 (0)] := by kernel_rfl
set_option maxRecDepth 100000 in
theorem el27 : ElemT Tryd.prog 27 4 40 := ⟨⟨_, _, rfl, rfl, rfl, rfl, rfl⟩, by decide⟩
set_option maxRecDepth 100000 in
theorem el28 : ElemT Tryd.prog 28 4 40 := ⟨⟨_, _, rfl, rfl, rfl, rfl, rfl⟩, by decide⟩
set_option maxRecDepth 100000 in
theorem el5 : ElemT Tryd.prog 5 1 1 := ⟨⟨_, _, rfl, rfl, rfl, rfl, rfl⟩, by decide⟩
set_option maxRecDepth 100000 in
theorem el9 : ElemT Tryd.prog 9 1 16 := ⟨⟨_, _, rfl, rfl, rfl, rfl, rfl⟩, by decide⟩
theorem mixed : Tryd.prog.follows .mixedOrders = true := by kernel_rfl
theorem nm10 : (Tryd.f10.name == "runtime.NumGoroutine") = false := by decide +kernel
theorem nm11 : (Tryd.f11.name == "runtime.NumGoroutine") = false := by decide +kernel
theorem nm12 : (Tryd.f12.name == "runtime.NumGoroutine") = false := by decide +kernel
theorem nm13 : (Tryd.f13.name == "runtime.NumGoroutine") = false := by decide +kernel
theorem nm14 : (Tryd.f14.name == "runtime.NumGoroutine") = false := by decide +kernel
theorem nm15 : (Tryd.f15.name == "runtime.NumGoroutine") = false := by decide +kernel
theorem nm20 : (Tryd.f20.name == "runtime.NumGoroutine") = false := by decide +kernel
theorem nm21 : (Tryd.f21.name == "runtime.NumGoroutine") = false := by decide +kernel
theorem nm22 : (Tryd.f22.name == "runtime.NumGoroutine") = false := by decide +kernel
theorem nm23 : (Tryd.f23.name == "runtime.NumGoroutine") = false := by decide +kernel
theorem nm24 : (Tryd.f24.name == "runtime.NumGoroutine") = false := by decide +kernel
theorem nm25 : (Tryd.f25.name == "runtime.NumGoroutine") = false := by decide +kernel
theorem nm26 : (Tryd.f26.name == "runtime.NumGoroutine") = false := by decide +kernel
theorem nm27 : (Tryd.f27.name == "runtime.NumGoroutine") = false := by decide +kernel
theorem nm28 : (Tryd.f28.name == "runtime.NumGoroutine") = false := by decide +kernel
theorem nm41 : (Tryd.f41.name == "runtime.NumGoroutine") = false := by decide +kernel
theorem nm42 : (Tryd.f42.name == "runtime.NumGoroutine") = false := by decide +kernel
theorem nm43 : (Tryd.f43.name == "runtime.NumGoroutine") = false := by decide +kernel
theorem nm44 : (Tryd.f44.name == "runtime.NumGoroutine") = false := by decide +kernel
theorem nm45 : (Tryd.f45.name == "runtime.NumGoroutine") = false := by decide +kernel
theorem nm46 : (Tryd.f46.name == "runtime.NumGoroutine") = false := by decide +kernel
theorem nm47 : (Tryd.f47.name == "runtime.NumGoroutine") = false := by decide +kernel
theorem nm49 : (Tryd.f49.name == "runtime.NumGoroutine") = false := by decide +kernel
theorem nm50 : (Tryd.f50.name == "runtime.NumGoroutine") = false := by decide +kernel
theorem nm68 : (Tryd.f68.name == "runtime.NumGoroutine") = false := by decide +kernel
theorem nm69 : (Tryd.f69.name == "runtime.NumGoroutine") = false := by decide +kernel
theorem nm70 : (Tryd.f70.name == "runtime.NumGoroutine") = false := by decide +kernel
theorem sz27 : szOf Tryd.prog 27 = some 4 := by kernel_rfl
theorem sz28 : szOf Tryd.prog 28 = some 4 := by kernel_rfl
theorem sz3 : szOf Tryd.prog 3 = some 1 := by kernel_rfl
theorem sz63 : szOf Tryd.prog 63 = some 1 := by kernel_rfl
theorem sz64 : szOf Tryd.prog 64 = some 1 := by kernel_rfl
theorem sz9 : szOf Tryd.prog 9 = some 1 := by kernel_rfl
theorem zr27 : (Tryd.prog.info? 27).bind (·.zero) = some (.agg #[.int .i64 (0), .string ⟨#[]⟩, .int .i64 (0), .int .i64 (0)]) := by kernel_rfl
theorem zr28 : (Tryd.prog.info? 28).bind (·.zero) = some (.agg #[.int .i64 (0), .string ⟨#[]⟩, .int .i64 (0), .int .i64 (0)]) := by kernel_rfl
theorem zr66 : (Tryd.prog.info? 66).bind (·.zero) = some (.agg #[.pointer none, .slice none 0 0]) := by kernel_rfl
end Go.Proofs.YtmbikkapabljfaaDoor.H
