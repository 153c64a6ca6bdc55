/- What the proof of the statement leans on (part 12). -/
import Derived.Test.YteicdopggikieaaDoorRows
import Derived.Test.YteicdopggikieaaDoorQk

namespace Go.Proofs.YteicdopggikieaaDoor.H
open Go Go.Lw
theorem ag21 : isRowT Tryd.prog 21 = some false := by kernel_rfl
theorem ag22 : isRowT Tryd.prog 22 = some false := by kernel_rfl
theorem ag27 : isRowT Tryd.prog 27 = some true := by kernel_rfl
theorem ag3 : isRowT Tryd.prog 3 = some false := by kernel_rfl
theorem ag4 : isRowT Tryd.prog 4 = some false := by kernel_rfl
theorem ag5 : isRowT Tryd.prog 5 = some false := by kernel_rfl
theorem ag54 : isRowT Tryd.prog 54 = some true := by kernel_rfl
theorem ag60 : isRowT Tryd.prog 60 = some true := by kernel_rfl
theorem ag69 : isRowT Tryd.prog 69 = some true := by kernel_rfl
theorem ag82 : isRowT Tryd.prog 82 = some false := by kernel_rfl
theorem ag83 : isRowT Tryd.prog 83 = some false := by kernel_rfl
theorem ag9 : isRowT Tryd.prog 9 = some false := by kernel_rfl
theorem bd27_  : Tryd.prog.built 27 [] = some #[.int .i64 (0), .int .i32 (0), .string ⟨#[]⟩] := by kernel_rfl
theorem bd27_0_1 (a0 : Int) (a1 : Int) : Tryd.prog.built 27 [(0, .int .i64 a0), (1, .int .i32 a1)] = some #[.int .i64 a0, .int .i32 a1, .string ⟨#[]⟩] := by kernel_rfl
theorem bd27_0_2 (a0 : Int) (a2 : ByteArray) : Tryd.prog.built 27 [(0, .int .i64 a0), (2, .string a2)] = some #[.int .i64 a0, .int .i32 (0), .string a2] := by kernel_rfl
theorem bd27_0 (a0 : Int) : Tryd.prog.built 27 [(0, .int .i64 a0)] = some #[.int .i64 a0, .int .i32 (0), .string ⟨#[]⟩] := by kernel_rfl
theorem bd52_  : Tryd.prog.built 52 [] = some #[.slice none 0 0, .slice none 0 0, .slice none 0 0, .slice none 0 0, .slice none 0 0, .slice none 0 0, .slice none 0 0, .slice none 0 0, .slice none 0 0, .slice none 0 0, .slice none 0 0, .slice none 0 0, .slice none 0 0, .slice none 0 0, .slice none 0 0, .slice none 0 0, .slice none 0 0, .slice none 0 0, .slice none 0 0, .slice none 0 0, .slice none 0 0, .slice none 0 0, .slice none 0 0, .slice none 0 0, .slice none 0 0, .slice none 0 0, .int .i32 (0)] := by kernel_rfl
theorem bd60_0 (a0 : Bool) : Tryd.prog.built 60 [(0, .bool a0)] = some #[.bool a0, .slice none 0 0, .slice none 0 0, .slice none 0 0, .slice none 0 0, .slice none 0 0, .slice none 0 0, .slice none 0 0, .slice none 0 0, .slice none 0 0, .slice none 0 0, .slice none 0 0, .slice none 0 0, .slice none 0 0, .slice none 0 0, .slice none 0 0, .slice none 0 0, .slice none 0 0, .slice none 0 0, .slice none 0 0, .slice none 0 0, .slice none 0 0, .slice none 0 0, .slice none 0 0, .slice none 0 0, .slice none 0 0, .slice none 0 0, .int .i64 (0)] := by kernel_rfl
theorem bd64_0_1_2_3_4_5_6_7_8_9_10_11_12_13_14 (a0 : ByteArray) (a1 : ByteArray) (a2 : ByteArray) (a3 : ByteArray) (a4 : ByteArray) (a5 : ByteArray) (a6 : ByteArray) (a7 : ByteArray) (a8 : ByteArray) (a9 : ByteArray) (a10 : ByteArray) (a11 : ByteArray) (a12 : ByteArray) (a13 : ByteArray) (a14 : ByteArray) : Tryd.prog.built 64 [(0, .string a0), (1, .string a1), (2, .string a2), (3, .string a3), (4, .string a4), (5, .string a5), (6, .string a6), (7, .string a7), (8, .string a8), (9, .string a9), (10, .string a10), (11, .string a11), (12, .string a12), (13, .string a13), (14, .string a14)] = some #[.string a0, .string a1, .string a2, .string a3, .string a4, .string a5, .string a6, .string a7, .string a8, .string a9, .string a10, .string a11, .string a12, .string a13, .string a14] := by kernel_rfl
theorem bd69_0_1 (a0 : ByteArray) (a1 : Int) : Tryd.prog.built 69 [(0, .string a0), (1, .int .i64 a1)] = some #[.string a0, .int .i64 a1] := by kernel_rfl
theorem cn110 : Tryd.prog.concrete 110 = true := by kernel_rfl
set_option maxRecDepth 100000 in
theorem el27 : ElemT Tryd.prog 27 3 32 := ⟨⟨_, _, rfl, rfl, rfl, rfl, rfl⟩, by decide⟩
set_option maxRecDepth 100000 in
theorem el5 : ElemT Tryd.prog 5 1 1 := ⟨⟨_, _, rfl, rfl, rfl, rfl, rfl⟩, by decide⟩
set_option maxRecDepth 100000 in
theorem el69 : ElemT Tryd.prog 69 2 24 := ⟨⟨_, _, rfl, rfl, rfl, rfl, rfl⟩, by decide⟩
set_option maxRecDepth 100000 in
theorem el9 : ElemT Tryd.prog 9 1 16 := ⟨⟨_, _, rfl, rfl, rfl, rfl, rfl⟩, by decide⟩
theorem mixed : Tryd.prog.follows .mixedOrders = true := by kernel_rfl
theorem nm10 : (Tryd.f10.name == "runtime.NumGoroutine") = false := by decide +kernel
theorem nm107 : (Tryd.f107.name == "runtime.NumGoroutine") = false := by decide +kernel
theorem nm11 : (Tryd.f11.name == "runtime.NumGoroutine") = false := by decide +kernel
theorem nm13 : (Tryd.f13.name == "runtime.NumGoroutine") = false := by decide +kernel
theorem nm15 : (Tryd.f15.name == "runtime.NumGoroutine") = false := by decide +kernel
theorem nm17 : (Tryd.f17.name == "runtime.NumGoroutine") = false := by decide +kernel
theorem nm19 : (Tryd.f19.name == "runtime.NumGoroutine") = false := by decide +kernel
theorem nm20 : (Tryd.f20.name == "runtime.NumGoroutine") = false := by decide +kernel
theorem nm21 : (Tryd.f21.name == "runtime.NumGoroutine") = false := by decide +kernel
theorem nm22 : (Tryd.f22.name == "runtime.NumGoroutine") = false := by decide +kernel
theorem nm23 : (Tryd.f23.name == "runtime.NumGoroutine") = false := by decide +kernel
theorem nm24 : (Tryd.f24.name == "runtime.NumGoroutine") = false := by decide +kernel
theorem nm25 : (Tryd.f25.name == "runtime.NumGoroutine") = false := by decide +kernel
theorem nm26 : (Tryd.f26.name == "runtime.NumGoroutine") = false := by decide +kernel
theorem nm27 : (Tryd.f27.name == "runtime.NumGoroutine") = false := by decide +kernel
theorem nm28 : (Tryd.f28.name == "runtime.NumGoroutine") = false := by decide +kernel
theorem nm29 : (Tryd.f29.name == "runtime.NumGoroutine") = false := by decide +kernel
theorem nm30 : (Tryd.f30.name == "runtime.NumGoroutine") = false := by decide +kernel
theorem nm31 : (Tryd.f31.name == "runtime.NumGoroutine") = false := by decide +kernel
theorem nm32 : (Tryd.f32.name == "runtime.NumGoroutine") = false := by decide +kernel
theorem nm33 : (Tryd.f33.name == "runtime.NumGoroutine") = false := by decide +kernel
theorem nm34 : (Tryd.f34.name == "runtime.NumGoroutine") = false := by decide +kernel
theorem nm35 : (Tryd.f35.name == "runtime.NumGoroutine") = false := by decide +kernel
theorem nm36 : (Tryd.f36.name == "runtime.NumGoroutine") = false := by decide +kernel
theorem nm39 : (Tryd.f39.name == "runtime.NumGoroutine") = false := by decide +kernel
theorem nm40 : (Tryd.f40.name == "runtime.NumGoroutine") = false := by decide +kernel
theorem nm41 : (Tryd.f41.name == "runtime.NumGoroutine") = false := by decide +kernel
theorem nm42 : (Tryd.f42.name == "runtime.NumGoroutine") = false := by decide +kernel
theorem nm43 : (Tryd.f43.name == "runtime.NumGoroutine") = false := by decide +kernel
theorem nm46 : (Tryd.f46.name == "runtime.NumGoroutine") = false := by decide +kernel
theorem nm47 : (Tryd.f47.name == "runtime.NumGoroutine") = false := by decide +kernel
theorem nm48 : (Tryd.f48.name == "runtime.NumGoroutine") = false := by decide +kernel
theorem nm49 : (Tryd.f49.name == "runtime.NumGoroutine") = false := by decide +kernel
theorem nm50 : (Tryd.f50.name == "runtime.NumGoroutine") = false := by decide +kernel
theorem nm51 : (Tryd.f51.name == "runtime.NumGoroutine") = false := by decide +kernel
theorem nm52 : (Tryd.f52.name == "runtime.NumGoroutine") = false := by decide +kernel
theorem nm53 : (Tryd.f53.name == "runtime.NumGoroutine") = false := by decide +kernel
theorem nm54 : (Tryd.f54.name == "runtime.NumGoroutine") = false := by decide +kernel
theorem nm55 : (Tryd.f55.name == "runtime.NumGoroutine") = false := by decide +kernel
theorem nm56 : (Tryd.f56.name == "runtime.NumGoroutine") = false := by decide +kernel
theorem nm57 : (Tryd.f57.name == "runtime.NumGoroutine") = false := by decide +kernel
theorem nm60 : (Tryd.f60.name == "runtime.NumGoroutine") = false := by decide +kernel
theorem nm62 : (Tryd.f62.name == "runtime.NumGoroutine") = false := by decide +kernel
theorem nm64 : (Tryd.f64.name == "runtime.NumGoroutine") = false := by decide +kernel
theorem nm66 : (Tryd.f66.name == "runtime.NumGoroutine") = false := by decide +kernel
theorem nm67 : (Tryd.f67.name == "runtime.NumGoroutine") = false := by decide +kernel
theorem nm68 : (Tryd.f68.name == "runtime.NumGoroutine") = false := by decide +kernel
theorem nm69 : (Tryd.f69.name == "runtime.NumGoroutine") = false := by decide +kernel
theorem nm72 : (Tryd.f72.name == "runtime.NumGoroutine") = false := by decide +kernel
theorem nm79 : (Tryd.f79.name == "runtime.NumGoroutine") = false := by decide +kernel
theorem nm81 : (Tryd.f81.name == "runtime.NumGoroutine") = false := by decide +kernel
theorem nm95 : (Tryd.f95.name == "runtime.NumGoroutine") = false := by decide +kernel
theorem nm96 : (Tryd.f96.name == "runtime.NumGoroutine") = false := by decide +kernel
theorem nm97 : (Tryd.f97.name == "runtime.NumGoroutine") = false := by decide +kernel
theorem sz21 : szOf Tryd.prog 21 = some 1 := by kernel_rfl
theorem sz22 : szOf Tryd.prog 22 = some 1 := by kernel_rfl
theorem sz27 : szOf Tryd.prog 27 = some 3 := by kernel_rfl
theorem sz3 : szOf Tryd.prog 3 = some 1 := by kernel_rfl
theorem sz4 : szOf Tryd.prog 4 = some 1 := by kernel_rfl
theorem sz5 : szOf Tryd.prog 5 = some 1 := by kernel_rfl
theorem sz50 : szOf Tryd.prog 50 = some 26 := by kernel_rfl
theorem sz54 : szOf Tryd.prog 54 = some 6 := by kernel_rfl
theorem sz60 : szOf Tryd.prog 60 = some 28 := by kernel_rfl
theorem sz64 : szOf Tryd.prog 64 = some 15 := by kernel_rfl
theorem sz69 : szOf Tryd.prog 69 = some 2 := by kernel_rfl
theorem sz82 : szOf Tryd.prog 82 = some 1 := by kernel_rfl
theorem sz83 : szOf Tryd.prog 83 = some 1 := by kernel_rfl
theorem sz9 : szOf Tryd.prog 9 = some 1 := by kernel_rfl
theorem zr125 : (Tryd.prog.info? 125).bind (·.zero) = some (.agg #[.int .u8 (0), .int .u8 (0), .int .u8 (0), .int .u8 (0), .int .u8 (0), .int .u8 (0), .int .u8 (0), .int .u8 (0), .int .u8 (0), .int .u8 (0), .int .u8 (0), .int .u8 (0), .int .u8 (0), .int .u8 (0), .int .u8 (0), .int .u8 (0), .int .u8 (0), .int .u8 (0), .int .u8 (0), .int .u8 (0), .int .u8 (0), .int .u8 (0), .int .u8 (0), .int .u8 (0), .int .u8 (0), .int .u8 (0), .int .u8 (0), .int .u8 (0), .int .u8 (0), .int .u8 (0), .int .u8 (0), .int .u8 (0), .int .u8 (0), .int .u8 (0), .int .u8 (0), .int .u8 (0), .int .u8 (0), .int .u8 (0), .int .u8 (0), .int .u8 (0), .int .u8 (0), .int .u8 (0), .int .u8 (0), .int .u8 (0), .int .u8 (0), .int .u8 (0), .int .u8 (0), .int .u8 (0), .int .u8 (0), .int .u8 (0), .int .u8 (0), .int .u8 (0), .int .u8 (0), .int .u8 (0), .int .u8 (0), .int .u8 (0), .int .u8 (0), .int .u8 (0), .int .u8 (0), .int .u8 (0), .int .u8 (0), .int .u8 (0), .int .u8 (0), .int .u8 (0), .int .u8 (0)]) := by kernel_rfl
theorem zr27 : (Tryd.prog.info? 27).bind (·.zero) = some (.agg #[.int .i64 (0), .int .i32 (0), .string ⟨#[]⟩]) := by kernel_rfl
theorem zr54 : (Tryd.prog.info? 54).bind (·.zero) = some (.agg #[.int .u8 (0), .int .i32 (0), .int .i64 (0), .int .i64 (0), .int .i32 (0), .string ⟨#[]⟩]) := by kernel_rfl
theorem zr60 : (Tryd.prog.info? 60).bind (·.zero) = some (.agg #[.bool false, .slice none 0 0, .slice none 0 0, .slice none 0 0, .slice none 0 0, .slice none 0 0, .slice none 0 0, .slice none 0 0, .slice none 0 0, .slice none 0 0, .slice none 0 0, .slice none 0 0, .slice none 0 0, .slice none 0 0, .slice none 0 0, .slice none 0 0, .slice none 0 0, .slice none 0 0, .slice none 0 0, .slice none 0 0, .slice none 0 0, .slice none 0 0, .slice none 0 0, .slice none 0 0, .slice none 0 0, .slice none 0 0, .slice none 0 0, .int .i64 (0)]) := by kernel_rfl
theorem zr64 : (Tryd.prog.info? 64).bind (·.zero) = some (.agg #[.string ⟨#[]⟩, .string ⟨#[]⟩, .string ⟨#[]⟩, .string ⟨#[]⟩, .string ⟨#[]⟩, .string ⟨#[]⟩, .string ⟨#[]⟩, .string ⟨#[]⟩, .string ⟨#[]⟩, .string ⟨#[]⟩, .string ⟨#[]⟩, .string ⟨#[]⟩, .string ⟨#[]⟩, .string ⟨#[]⟩, .string ⟨#[]⟩]) := by kernel_rfl
theorem zr69 : (Tryd.prog.info? 69).bind (·.zero) = some (.agg #[.string ⟨#[]⟩, .int .i64 (0)]) := by kernel_rfl
theorem zr85 : (Tryd.prog.info? 85).bind (·.zero) = some (.agg #[.pointer none, .slice none 0 0]) := by kernel_rfl
end Go.Proofs.YteicdopggikieaaDoor.H
