/- What the proof of the statement leans on (part 20). -/
import Derived.Test.YtdihgdeciopfpaaGreatDoorRows
import Derived.Test.YtdihgdeciopfpaaGreatDoorQs

namespace Go.Proofs.YtdihgdeciopfpaaGreatDoor.H
open Go Go.Lw
theorem zN:aO Tryz.prog 101=some false:=by kernel_rfl
theorem Dg:aO Tryz.prog 103=some true:=by kernel_rfl
theorem FU:aO Tryz.prog 109=some false:=by kernel_rfl
theorem Df:aO Tryz.prog 110=some false:=by kernel_rfl
theorem FT:aO Tryz.prog 126=some true:=by kernel_rfl
theorem M0:aO Tryz.prog 133=some false:=by kernel_rfl
theorem FR:aO Tryz.prog 135=some true:=by kernel_rfl
theorem J0:aO Tryz.prog 139=some false:=by kernel_rfl
theorem MZ:aO Tryz.prog 142=some false:=by kernel_rfl
theorem jE:aO Tryz.prog 144=some true:=by kernel_rfl
theorem QW:aO Tryz.prog 145=some false:=by kernel_rfl
theorem zM:aO Tryz.prog 147=some false:=by kernel_rfl
theorem MY:aO Tryz.prog 149=some false:=by kernel_rfl
theorem MX:aO Tryz.prog 152=some true:=by kernel_rfl
theorem zL:aO Tryz.prog 187=some true:=by kernel_rfl
theorem N8:aO Tryz.prog 20=some false:=by kernel_rfl
theorem QV:aO Tryz.prog 206=some true:=by kernel_rfl
theorem JZ:aO Tryz.prog 207=some false:=by kernel_rfl
theorem Bo:aO Tryz.prog 21=some false:=by kernel_rfl
theorem oB:aO Tryz.prog 211=some true:=by kernel_rfl
theorem MW:aO Tryz.prog 213=some true:=by kernel_rfl
theorem FQ:aO Tryz.prog 214=some false:=by kernel_rfl
theorem nu:aO Tryz.prog 215=some false:=by kernel_rfl
theorem FP:aO Tryz.prog 216=some false:=by kernel_rfl
theorem QU:aO Tryz.prog 220=some false:=by kernel_rfl
theorem MV:aO Tryz.prog 223=some false:=by kernel_rfl
theorem QT:aO Tryz.prog 227=some false:=by kernel_rfl
theorem Sh:aO Tryz.prog 23=some true:=by kernel_rfl
theorem QS:aO Tryz.prog 236=some false:=by kernel_rfl
theorem wW:aO Tryz.prog 281=some true:=by kernel_rfl
theorem QO:aO Tryz.prog 285=some false:=by kernel_rfl
theorem QN:aO Tryz.prog 288=some true:=by kernel_rfl
theorem MU:aO Tryz.prog 289=some false:=by kernel_rfl
theorem JY:aO Tryz.prog 29=some false:=by kernel_rfl
theorem zK:aO Tryz.prog 291=some true:=by kernel_rfl
theorem QM:aO Tryz.prog 297=some true:=by kernel_rfl
theorem cC:aO Tryz.prog 3=some false:=by kernel_rfl
theorem QL:aO Tryz.prog 301=some false:=by kernel_rfl
theorem MT:aO Tryz.prog 303=some true:=by kernel_rfl
theorem QK:aO Tryz.prog 306=some false:=by kernel_rfl
theorem iu:aO Tryz.prog 31=some false:=by kernel_rfl
theorem QJ:aO Tryz.prog 312=some true:=by kernel_rfl
theorem kQ:aO Tryz.prog 33=some true:=by kernel_rfl
theorem FO:aO Tryz.prog 331=some false:=by kernel_rfl
theorem Sf:aO Tryz.prog 35=some false:=by kernel_rfl
theorem N7:aO Tryz.prog 38=some false:=by kernel_rfl
theorem Rj:aO Tryz.prog 4=some false:=by kernel_rfl
theorem QI:aO Tryz.prog 429=some false:=by kernel_rfl
theorem Sx:aO Tryz.prog 5=some false:=by kernel_rfl
theorem tE:aO Tryz.prog 59=some false:=by kernel_rfl
theorem yI:aO Tryz.prog 77=some true:=by kernel_rfl
theorem De:aO Tryz.prog 79=some true:=by kernel_rfl
theorem jQ:aO Tryz.prog 9=some false:=by kernel_rfl
theorem tD:aO Tryz.prog 95=some true:=by kernel_rfl
theorem Hv (a0:Int) (a1:Int):Tryz.prog.built 103 [(0,.int .i64 a0),(1,.int .i32 a1)]=some #[.int .i64 a0,.int .i32 a1,.slice none 0 0,.int .u8 (0)]:=by kernel_rfl
theorem Da (a0:Int) (a2:Option Addr) (n2 c2:Nat) (a3:Int):Tryz.prog.built 103 [(0,.int .i64 a0),(2,.slice a2 n2 c2),(3,.int .u8 a3)]=some #[.int .i64 a0,.int .i32 (0),.slice a2 n2 c2,.int .u8 a3]:=by kernel_rfl
theorem Lp (t0:TypeId) (a0:Value):Tryz.prog.built 121 [(0,.iface t0 a0)]=some #[.iface t0 a0]:=by kernel_rfl
theorem Hu (a0:Int) (a1:Int):Tryz.prog.built 126 [(0,.int .i64 a0),(1,.int .i32 a1)]=some #[.int .i64 a0,.int .i32 a1,.string ⟨#[]⟩]:=by kernel_rfl
theorem me (a0:ByteArray) (a1:Option Addr) (n1 c1:Nat) (a2:Int) (a3:ByteArray) (a4:ByteArray):Tryz.prog.built 135 [(0,.string a0),(1,.slice a1 n1 c1),(2,.int .i64 a2),(3,.string a3),(4,.string a4)]=some #[.string a0,.slice a1 n1 c1,.int .i64 a2,.string a3,.string a4]:=by kernel_rfl
theorem Lo (a3:Int):Tryz.prog.built 144 [(3,.int .i64 a3)]=some #[.string ⟨#[]⟩,.int .i64 (0),.int .i64 (0),.int .i64 a3,.slice none 0 0,.slice none 0 0,.int .i64 (0),.string ⟨#[]⟩,.int .i64 (0),.int .i64 (0),.int .i64 (0),.string ⟨#[]⟩,.int .i64 (0),.string ⟨#[]⟩,.int .i64 (0),.int .i64 (0),.slice none 0 0,.slice none 0 0,.int .i64 (0)]:=by kernel_rfl
theorem N5  : Tryz.prog.built 152 []=some #[.int .i64 (0),.bool false]:=by kernel_rfl
theorem yG (a0_0 a0_1 a0_2 a0_3 a0_4 a0_5 a0_6 a0_7 a0_8 a0_9 a0_10 a0_11 a0_12 a0_13 a0_14 a0_15 a0_16 a0_17 a0_18:Value) (a1:Option Addr) (a2:Option Addr) (a3:Option Addr):Tryz.prog.built 156 [(0,.agg #[a0_0,a0_1,a0_2,a0_3,a0_4,a0_5,a0_6,a0_7,a0_8,a0_9,a0_10,a0_11,a0_12,a0_13,a0_14,a0_15,a0_16,a0_17,a0_18]),(1,.pointer a1),(2,.pointer a2),(3,.pointer a3)]=some #[a0_0,a0_1,a0_2,a0_3,a0_4,a0_5,a0_6,a0_7,a0_8,a0_9,a0_10,a0_11,a0_12,a0_13,a0_14,a0_15,a0_16,a0_17,a0_18,.pointer a1,.pointer a2,.pointer a3,.int .i64 (0),.bool false,.int .i64 (0),.int .i32 (0)]:=by kernel_rfl
theorem C9 (a0:Int) (a2:Int) (a3:ByteArray):Tryz.prog.built 187 [(0,.int .i64 a0),(2,.int .i64 a2),(3,.string a3)]=some #[.int .i64 a0,.int .i64 (0),.int .i64 a2,.string a3,.bool false]:=by kernel_rfl
theorem Ln (a0:Int):Tryz.prog.built 191 [(0,.int .i64 a0)]=some #[.int .i64 a0,.slice none 0 0]:=by kernel_rfl
theorem Lm (a1:Int):Tryz.prog.built 198 [(1,.int .i64 a1)]=some #[.pointer none,.slice none 0 0,.int .i64 a1,.int .i64 (0),.bool false,.bool false,.bool false]:=by kernel_rfl
theorem rN (a0:Option Addr) (a1:Int):Tryz.prog.built 206 [(0,.pointer a0),(1,.int .i64 a1)]=some #[.pointer a0,.int .i64 a1]:=by kernel_rfl
theorem Ll (a0_0 a0_1:Value):Tryz.prog.built 209 [(0,.agg #[a0_0,a0_1])]=some #[a0_0,a0_1,.slice none 0 0,.slice none 0 0,.int .i64 (0)]:=by kernel_rfl
theorem N4  : Tryz.prog.built 211 []=some #[.int .i64 (0),.int .i64 (0)]:=by kernel_rfl
theorem Ht (a0:Int) (a1:Int):Tryz.prog.built 211 [(0,.int .i64 a0),(1,.int .i64 a1)]=some #[.int .i64 a0,.int .i64 a1]:=by kernel_rfl
theorem Lj (a0:Int):Tryz.prog.built 211 [(0,.int .i64 a0)]=some #[.int .i64 a0,.int .i64 (0)]:=by kernel_rfl
theorem JU  : Tryz.prog.built 213 []=some #[.int .i64 (0),.int .i64 (0),.int .i64 (0)]:=by kernel_rfl
theorem Hs (a0:Int) (a1_0 a1_1:Value):Tryz.prog.built 213 [(0,.int .i64 a0),(1,.agg #[a1_0,a1_1])]=some #[.int .i64 a0,a1_0,a1_1]:=by kernel_rfl
theorem Hr (a0:Option Addr) (a5:Option Addr) (n5 c5:Nat):Tryz.prog.built 218 [(0,.pointer a0),(5,.slice a5 n5 c5)]=some #[.pointer a0,.string ⟨#[]⟩,.slice none 0 0,.slice none 0 0,.int .i64 (0),.int .i64 (0),.slice a5 n5 c5,.int .i64 (0)]:=by kernel_rfl
theorem N3  : Tryz.prog.built 222 []=some #[.slice none 0 0]:=by kernel_rfl
theorem JT (a0:Int) (a1:ByteArray):Tryz.prog.built 23 [(0,.int .i64 a0),(1,.string a1)]=some #[.int .i64 a0,.string a1,.int .i64 (0),.int .i64 (0)]:=by kernel_rfl
theorem Hq (a0:Bool) (a1:Option Addr) (n1 c1:Nat):Tryz.prog.built 276 [(0,.bool a0),(1,.slice a1 n1 c1)]=some #[.bool a0,.slice a1 n1 c1,.int .i64 (0)]:=by kernel_rfl
theorem bd281_  : Tryz.prog.built 281 []=some #[.int .i64 (0),.int .i64 (0),.int .i64 (0)]:=by kernel_rfl
theorem nq (a0:Int) (a1:Int) (a2:Int):Tryz.prog.built 281 [(0,.int .i64 a0),(1,.int .i64 a1),(2,.int .i64 a2)]=some #[.int .i64 a0,.int .i64 a1,.int .i64 a2]:=by kernel_rfl
theorem N2  : Tryz.prog.built 287 []=some #[.slice none 0 0,.int .i64 (0)]:=by kernel_rfl
theorem EO  : Tryz.prog.built 291 []=some #[.int .i64 (0),.int .u64 (0),.int .u64 (0),.int .u64 (0),.int .u64 (0),.slice none 0 0]:=by kernel_rfl
theorem rM (a0:Int) (a2:Option Addr) (n2 c2:Nat):Tryz.prog.built 291 [(0,.int .i64 a0),(2,.slice a2 n2 c2)]=some #[.int .i64 a0,.int .u64 (0),.int .u64 (0),.int .u64 (0),.int .u64 (0),.slice a2 n2 c2]:=by kernel_rfl
theorem FM (a0:Int):Tryz.prog.built 291 [(0,.int .i64 a0)]=some #[.int .i64 a0,.int .u64 (0),.int .u64 (0),.int .u64 (0),.int .u64 (0),.slice none 0 0]:=by kernel_rfl
theorem JS  : Tryz.prog.built 297 []=some #[.int .i64 (0),.int .u64 (0),.int .u64 (0),.int .u64 (0),.int .u64 (0),.slice none 0 0,.int .i64 (0)]:=by kernel_rfl
theorem C8 (a0:Int) (a1_0 a1_1 a1_2 a1_3:Value) (a2:Option Addr) (n2 c2:Nat):Tryz.prog.built 297 [(0,.int .i64 a0),(1,.agg #[a1_0,a1_1,a1_2,a1_3]),(2,.slice a2 n2 c2)]=some #[.int .i64 a0,a1_0,a1_1,a1_2,a1_3,.slice a2 n2 c2,.int .i64 (0)]:=by kernel_rfl
theorem Hp (a0:Int) (a3:Int):Tryz.prog.built 297 [(0,.int .i64 a0),(3,.int .i64 a3)]=some #[.int .i64 a0,.int .u64 (0),.int .u64 (0),.int .u64 (0),.int .u64 (0),.slice none 0 0,.int .i64 a3]:=by kernel_rfl
theorem Bl (a2:Option Addr) (n2 c2:Nat):Tryz.prog.built 297 [(2,.slice a2 n2 c2)]=some #[.int .i64 (0),.int .u64 (0),.int .u64 (0),.int .u64 (0),.int .u64 (0),.slice a2 n2 c2,.int .i64 (0)]:=by kernel_rfl
theorem N1  : Tryz.prog.built 303 []=some #[.string ⟨#[]⟩,.int .i64 (0),.int .i64 (0)]:=by kernel_rfl
theorem JR  : Tryz.prog.built 308 []=some #[.slice none 0 0,.slice none 0 0]:=by kernel_rfl
theorem MQ  : Tryz.prog.built 33 []=some #[.int .i64 (0),.int .i64 (0),.slice none 0 0,.int .i64 (0),.int .i64 (0)]:=by kernel_rfl
theorem EN (a0:Int) (a1:Int) (a2:Option Addr) (n2 c2:Nat):Tryz.prog.built 33 [(0,.int .i64 a0),(1,.int .i64 a1),(2,.slice a2 n2 c2)]=some #[.int .i64 a0,.int .i64 a1,.slice a2 n2 c2,.int .i64 (0),.int .i64 (0)]:=by kernel_rfl
theorem Li (a0:ByteArray):Tryz.prog.built 351 [(0,.string a0)]=some #[.string a0,.slice none 0 0]:=by kernel_rfl
theorem gR  : Tryz.prog.built 358 []=some #[]:=by kernel_rfl
theorem Lh (a0:ByteArray):Tryz.prog.built 361 [(0,.string a0)]=some #[.string a0]:=by kernel_rfl
theorem QF  : Tryz.prog.built 37 []=some #[.pointer none,.pointer none,.int .i64 (0),.int .i64 (0),.slice none 0 0,.int .i64 (0),.int .i64 (0)]:=by kernel_rfl
theorem EM (a0:Option Addr) (a1:Option Addr) (a2_0 a2_1 a2_2 a2_3 a2_4:Value):Tryz.prog.built 37 [(0,.pointer a0),(1,.pointer a1),(2,.agg #[a2_0,a2_1,a2_2,a2_3,a2_4])]=some #[.pointer a0,.pointer a1,a2_0,a2_1,a2_2,a2_3,a2_4]:=by kernel_rfl
theorem JQ  : Tryz.prog.built 77 []=some #[.int .i64 (0),.bool false,.bool false,.bool false]:=by kernel_rfl
theorem wN (a0:Int) (a1:Int) (a2_0 a2_1 a2_2 a2_3:Value):Tryz.prog.built 79 [(0,.int .i32 a0),(1,.int .i64 a1),(2,.agg #[a2_0,a2_1,a2_2,a2_3])]=some #[.int .i32 a0,.int .i64 a1,a2_0,a2_1,a2_2,a2_3]:=by kernel_rfl
theorem FL  : Tryz.prog.built 95 []=some #[.int .i64 (0),.string ⟨#[]⟩]:=by kernel_rfl
theorem JO (a0:Int) (a1:ByteArray):Tryz.prog.built 95 [(0,.int .i64 a0),(1,.string a1)]=some #[.int .i64 a0,.string a1]:=by kernel_rfl
theorem JP (a0:Int):Tryz.prog.built 95 [(0,.int .i64 a0)]=some #[.int .i64 a0,.string ⟨#[]⟩]:=by kernel_rfl
theorem JN (a0:Bool) (a1_0 a1_1 a1_2 a1_3 a1_4:Value):Tryz.prog.built 97 [(0,.bool a0),(1,.agg #[a1_0,a1_1,a1_2,a1_3,a1_4])]=some #[.bool a0,a1_0,a1_1,a1_2,a1_3,a1_4,.int .i64 (0),.string ⟨#[]⟩,.int .i64 (0),.bool false,.bool false,.bool false,.bool false,.int .i64 (0)]:=by kernel_rfl
theorem ME:Tryz.prog.concrete 358=true:=by kernel_rfl
theorem S5:Tryz.prog.concrete 9=true:=by kernel_rfl
set_option maxRecDepth 100000 in
theorem Qx:dn Tryz.prog 101 1 24:=⟨⟨_,_,rfl,rfl,rfl,rfl,rfl⟩,by decide⟩
set_option maxRecDepth 100000 in
theorem MC:dn Tryz.prog 103 4 48:=⟨⟨_,_,rfl,rfl,rfl,rfl,rfl⟩,by decide⟩
set_option maxRecDepth 100000 in
theorem MB:dn Tryz.prog 126 3 32:=⟨⟨_,_,rfl,rfl,rfl,rfl,rfl⟩,by decide⟩
set_option maxRecDepth 100000 in
theorem Qw:dn Tryz.prog 187 5 48:=⟨⟨_,_,rfl,rfl,rfl,rfl,rfl⟩,by decide⟩
set_option maxRecDepth 100000 in
theorem MA:dn Tryz.prog 206 2 16:=⟨⟨_,_,rfl,rfl,rfl,rfl,rfl⟩,by decide⟩
set_option maxRecDepth 100000 in
theorem jC:dn Tryz.prog 211 2 16:=⟨⟨_,_,rfl,rfl,rfl,rfl,rfl⟩,by decide⟩
set_option maxRecDepth 100000 in
theorem JC:dn Tryz.prog 213 3 24:=⟨⟨_,_,rfl,rfl,rfl,rfl,rfl⟩,by decide⟩
set_option maxRecDepth 100000 in
theorem Qv:dn Tryz.prog 227 1 8:=⟨⟨_,_,rfl,rfl,rfl,rfl,rfl⟩,by decide⟩
set_option maxRecDepth 100000 in
theorem lZ:dn Tryz.prog 281 3 24:=⟨⟨_,_,rfl,rfl,rfl,rfl,rfl⟩,by decide⟩
set_option maxRecDepth 100000 in
theorem JB:dn Tryz.prog 291 6 64:=⟨⟨_,_,rfl,rfl,rfl,rfl,rfl⟩,by decide⟩
set_option maxRecDepth 100000 in
theorem Mz:dn Tryz.prog 297 7 72:=⟨⟨_,_,rfl,rfl,rfl,rfl,rfl⟩,by decide⟩
set_option maxRecDepth 100000 in
theorem NR:dn Tryz.prog 3 1 8:=⟨⟨_,_,rfl,rfl,rfl,rfl,rfl⟩,by decide⟩
set_option maxRecDepth 100000 in
theorem FE:dn Tryz.prog 312 256 2048:=⟨⟨_,_,rfl,rfl,rfl,rfl,rfl⟩,by decide⟩
set_option maxRecDepth 100000 in
theorem Re:dn Tryz.prog 4 1 1:=⟨⟨_,_,rfl,rfl,rfl,rfl,rfl⟩,by decide⟩
set_option maxRecDepth 100000 in
theorem Qu:dn Tryz.prog 5 1 1:=⟨⟨_,_,rfl,rfl,rfl,rfl,rfl⟩,by decide⟩
set_option maxRecDepth 100000 in
theorem Sa:dn Tryz.prog 77 4 16:=⟨⟨_,_,rfl,rfl,rfl,rfl,rfl⟩,by decide⟩
set_option maxRecDepth 100000 in
theorem K8:dn Tryz.prog 79 6 32:=⟨⟨_,_,rfl,rfl,rfl,rfl,rfl⟩,by decide⟩
set_option maxRecDepth 100000 in
theorem yA:dn Tryz.prog 9 1 16:=⟨⟨_,_,rfl,rfl,rfl,rfl,rfl⟩,by decide⟩
theorem mixed:Tryz.prog.follows .mixedOrders=true:=by kernel_rfl
theorem NG:(Tryz.f10.name == "runtime.NumGoroutine")=false:=by decide +kernel
theorem Qg:(Tryz.f102.name == "runtime.NumGoroutine")=false:=by decide +kernel
theorem Fu:(Tryz.f103.name == "runtime.NumGoroutine")=false:=by decide +kernel
theorem Qf:(Tryz.f105.name == "runtime.NumGoroutine")=false:=by decide +kernel
theorem Qe:(Tryz.f107.name == "runtime.NumGoroutine")=false:=by decide +kernel
theorem Qd:(Tryz.f108.name == "runtime.NumGoroutine")=false:=by decide +kernel
theorem Qc:(Tryz.f109.name == "runtime.NumGoroutine")=false:=by decide +kernel
theorem Mn:(Tryz.f110.name == "runtime.NumGoroutine")=false:=by decide +kernel
theorem Qb:(Tryz.f111.name == "runtime.NumGoroutine")=false:=by decide +kernel
theorem Qa:(Tryz.f112.name == "runtime.NumGoroutine")=false:=by decide +kernel
theorem P9:(Tryz.f114.name == "runtime.NumGoroutine")=false:=by decide +kernel
theorem Mm:(Tryz.f115.name == "runtime.NumGoroutine")=false:=by decide +kernel
theorem nm116:(Tryz.f116.name == "runtime.NumGoroutine")=false:=by decide +kernel
theorem Ml:(Tryz.f117.name == "runtime.NumGoroutine")=false:=by decide +kernel
theorem Mk:(Tryz.f118.name == "runtime.NumGoroutine")=false:=by decide +kernel
theorem nm119:(Tryz.f119.name == "runtime.NumGoroutine")=false:=by decide +kernel
theorem nm120:(Tryz.f120.name == "runtime.NumGoroutine")=false:=by decide +kernel
theorem nm121:(Tryz.f121.name == "runtime.NumGoroutine")=false:=by decide +kernel
theorem nm122:(Tryz.f122.name == "runtime.NumGoroutine")=false:=by decide +kernel
theorem P8:(Tryz.f136.name == "runtime.NumGoroutine")=false:=by decide +kernel
theorem Cn:(Tryz.f137.name == "runtime.NumGoroutine")=false:=by decide +kernel
theorem P7:(Tryz.f139.name == "runtime.NumGoroutine")=false:=by decide +kernel
theorem Mj:(Tryz.f140.name == "runtime.NumGoroutine")=false:=by decide +kernel
theorem Mi:(Tryz.f141.name == "runtime.NumGoroutine")=false:=by decide +kernel
theorem P6:(Tryz.f144.name == "runtime.NumGoroutine")=false:=by decide +kernel
theorem nm147:(Tryz.f147.name == "runtime.NumGoroutine")=false:=by decide +kernel
theorem P5:(Tryz.f148.name == "runtime.NumGoroutine")=false:=by decide +kernel
theorem P4:(Tryz.f150.name == "runtime.NumGoroutine")=false:=by decide +kernel
theorem P3:(Tryz.f152.name == "runtime.NumGoroutine")=false:=by decide +kernel
theorem R2:(Tryz.f16.name == "runtime.NumGoroutine")=false:=by decide +kernel
theorem Mh:(Tryz.f164.name == "runtime.NumGoroutine")=false:=by decide +kernel
theorem P2:(Tryz.f165.name == "runtime.NumGoroutine")=false:=by decide +kernel
theorem P1:(Tryz.f166.name == "runtime.NumGoroutine")=false:=by decide +kernel
theorem P0:(Tryz.f167.name == "runtime.NumGoroutine")=false:=by decide +kernel
theorem IQ:(Tryz.f168.name == "runtime.NumGoroutine")=false:=by decide +kernel
theorem PZ:(Tryz.f169.name == "runtime.NumGoroutine")=false:=by decide +kernel
theorem PY:(Tryz.f17.name == "runtime.NumGoroutine")=false:=by decide +kernel
theorem Mg:(Tryz.f170.name == "runtime.NumGoroutine")=false:=by decide +kernel
theorem Mf:(Tryz.f172.name == "runtime.NumGoroutine")=false:=by decide +kernel
theorem PX:(Tryz.f173.name == "runtime.NumGoroutine")=false:=by decide +kernel
theorem PW:(Tryz.f174.name == "runtime.NumGoroutine")=false:=by decide +kernel
theorem PV:(Tryz.f175.name == "runtime.NumGoroutine")=false:=by decide +kernel
theorem PU:(Tryz.f176.name == "runtime.NumGoroutine")=false:=by decide +kernel
theorem Me:(Tryz.f178.name == "runtime.NumGoroutine")=false:=by decide +kernel
theorem PT:(Tryz.f179.name == "runtime.NumGoroutine")=false:=by decide +kernel
theorem PS:(Tryz.f18.name == "runtime.NumGoroutine")=false:=by decide +kernel
theorem PO:(Tryz.f180.name == "runtime.NumGoroutine")=false:=by decide +kernel
theorem Md:(Tryz.f181.name == "runtime.NumGoroutine")=false:=by decide +kernel
theorem PN:(Tryz.f182.name == "runtime.NumGoroutine")=false:=by decide +kernel
theorem Cl:(Tryz.f183.name == "runtime.NumGoroutine")=false:=by decide +kernel
theorem PM:(Tryz.f184.name == "runtime.NumGoroutine")=false:=by decide +kernel
theorem nm185:(Tryz.f185.name == "runtime.NumGoroutine")=false:=by decide +kernel
theorem PL:(Tryz.f186.name == "runtime.NumGoroutine")=false:=by decide +kernel
theorem nm187:(Tryz.f187.name == "runtime.NumGoroutine")=false:=by decide +kernel
theorem nm188:(Tryz.f188.name == "runtime.NumGoroutine")=false:=by decide +kernel
theorem nm189:(Tryz.f189.name == "runtime.NumGoroutine")=false:=by decide +kernel
theorem PK:(Tryz.f19.name == "runtime.NumGoroutine")=false:=by decide +kernel
theorem nm190:(Tryz.f190.name == "runtime.NumGoroutine")=false:=by decide +kernel
theorem nm191:(Tryz.f191.name == "runtime.NumGoroutine")=false:=by decide +kernel
theorem nm192:(Tryz.f192.name == "runtime.NumGoroutine")=false:=by decide +kernel
theorem nm193:(Tryz.f193.name == "runtime.NumGoroutine")=false:=by decide +kernel
theorem nm194:(Tryz.f194.name == "runtime.NumGoroutine")=false:=by decide +kernel
theorem nm195:(Tryz.f195.name == "runtime.NumGoroutine")=false:=by decide +kernel
theorem IP:(Tryz.f20.name == "runtime.NumGoroutine")=false:=by decide +kernel
theorem PJ:(Tryz.f208.name == "runtime.NumGoroutine")=false:=by decide +kernel
theorem Mc:(Tryz.f209.name == "runtime.NumGoroutine")=false:=by decide +kernel
theorem R1:(Tryz.f21.name == "runtime.NumGoroutine")=false:=by decide +kernel
theorem PI:(Tryz.f216.name == "runtime.NumGoroutine")=false:=by decide +kernel
theorem RZ:(Tryz.f22.name == "runtime.NumGoroutine")=false:=by decide +kernel
theorem PG:(Tryz.f220.name == "runtime.NumGoroutine")=false:=by decide +kernel
theorem PF:(Tryz.f221.name == "runtime.NumGoroutine")=false:=by decide +kernel
theorem PE:(Tryz.f222.name == "runtime.NumGoroutine")=false:=by decide +kernel
theorem PD:(Tryz.f223.name == "runtime.NumGoroutine")=false:=by decide +kernel
theorem nm224:(Tryz.f224.name == "runtime.NumGoroutine")=false:=by decide +kernel
theorem PC:(Tryz.f227.name == "runtime.NumGoroutine")=false:=by decide +kernel
theorem PB:(Tryz.f228.name == "runtime.NumGoroutine")=false:=by decide +kernel
theorem PA:(Tryz.f229.name == "runtime.NumGoroutine")=false:=by decide +kernel
theorem Mb:(Tryz.f230.name == "runtime.NumGoroutine")=false:=by decide +kernel
theorem nm233:(Tryz.f233.name == "runtime.NumGoroutine")=false:=by decide +kernel
theorem nm234:(Tryz.f234.name == "runtime.NumGoroutine")=false:=by decide +kernel
theorem nm235:(Tryz.f235.name == "runtime.NumGoroutine")=false:=by decide +kernel
theorem nm236:(Tryz.f236.name == "runtime.NumGoroutine")=false:=by decide +kernel
theorem nm237:(Tryz.f237.name == "runtime.NumGoroutine")=false:=by decide +kernel
theorem Pz:(Tryz.f239.name == "runtime.NumGoroutine")=false:=by decide +kernel
theorem nm240:(Tryz.f240.name == "runtime.NumGoroutine")=false:=by decide +kernel
theorem nm242:(Tryz.f242.name == "runtime.NumGoroutine")=false:=by decide +kernel
theorem nm243:(Tryz.f243.name == "runtime.NumGoroutine")=false:=by decide +kernel
theorem nm244:(Tryz.f244.name == "runtime.NumGoroutine")=false:=by decide +kernel
theorem Py:(Tryz.f25.name == "runtime.NumGoroutine")=false:=by decide +kernel
theorem Px:(Tryz.f253.name == "runtime.NumGoroutine")=false:=by decide +kernel
theorem nm258:(Tryz.f258.name == "runtime.NumGoroutine")=false:=by decide +kernel
theorem KG:(Tryz.f26.name == "runtime.NumGoroutine")=false:=by decide +kernel
theorem Pw:(Tryz.f262.name == "runtime.NumGoroutine")=false:=by decide +kernel
theorem RY:(Tryz.f27.name == "runtime.NumGoroutine")=false:=by decide +kernel
theorem nm278:(Tryz.f278.name == "runtime.NumGoroutine")=false:=by decide +kernel
theorem nm279:(Tryz.f279.name == "runtime.NumGoroutine")=false:=by decide +kernel
theorem RX:(Tryz.f28.name == "runtime.NumGoroutine")=false:=by decide +kernel
theorem nm280:(Tryz.f280.name == "runtime.NumGoroutine")=false:=by decide +kernel
theorem Pv:(Tryz.f281.name == "runtime.NumGoroutine")=false:=by decide +kernel
theorem nm283:(Tryz.f283.name == "runtime.NumGoroutine")=false:=by decide +kernel
theorem nm284:(Tryz.f284.name == "runtime.NumGoroutine")=false:=by decide +kernel
theorem nm285:(Tryz.f285.name == "runtime.NumGoroutine")=false:=by decide +kernel
theorem nm286:(Tryz.f286.name == "runtime.NumGoroutine")=false:=by decide +kernel
theorem nm287:(Tryz.f287.name == "runtime.NumGoroutine")=false:=by decide +kernel
theorem nm288:(Tryz.f288.name == "runtime.NumGoroutine")=false:=by decide +kernel
theorem Ma:(Tryz.f298.name == "runtime.NumGoroutine")=false:=by decide +kernel
theorem nm303:(Tryz.f303.name == "runtime.NumGoroutine")=false:=by decide +kernel
theorem nm304:(Tryz.f304.name == "runtime.NumGoroutine")=false:=by decide +kernel
theorem nm305:(Tryz.f305.name == "runtime.NumGoroutine")=false:=by decide +kernel
theorem nm333:(Tryz.f333.name == "runtime.NumGoroutine")=false:=by decide +kernel
theorem nm339:(Tryz.f339.name == "runtime.NumGoroutine")=false:=by decide +kernel
theorem nm350:(Tryz.f350.name == "runtime.NumGoroutine")=false:=by decide +kernel
theorem nm351:(Tryz.f351.name == "runtime.NumGoroutine")=false:=by decide +kernel
theorem nm352:(Tryz.f352.name == "runtime.NumGoroutine")=false:=by decide +kernel
theorem nm356:(Tryz.f356.name == "runtime.NumGoroutine")=false:=by decide +kernel
theorem nm357:(Tryz.f357.name == "runtime.NumGoroutine")=false:=by decide +kernel
theorem nm358:(Tryz.f358.name == "runtime.NumGoroutine")=false:=by decide +kernel
theorem nm359:(Tryz.f359.name == "runtime.NumGoroutine")=false:=by decide +kernel
theorem nm364:(Tryz.f364.name == "runtime.NumGoroutine")=false:=by decide +kernel
theorem nm365:(Tryz.f365.name == "runtime.NumGoroutine")=false:=by decide +kernel
theorem Pu:(Tryz.f39.name == "runtime.NumGoroutine")=false:=by decide +kernel
theorem Pq:(Tryz.f40.name == "runtime.NumGoroutine")=false:=by decide +kernel
theorem RV:(Tryz.f41.name == "runtime.NumGoroutine")=false:=by decide +kernel
theorem NF:(Tryz.f42.name == "runtime.NumGoroutine")=false:=by decide +kernel
theorem Pp:(Tryz.f43.name == "runtime.NumGoroutine")=false:=by decide +kernel
theorem KF:(Tryz.f44.name == "runtime.NumGoroutine")=false:=by decide +kernel
theorem ND:(Tryz.f45.name == "runtime.NumGoroutine")=false:=by decide +kernel
theorem NC:(Tryz.f46.name == "runtime.NumGoroutine")=false:=by decide +kernel
theorem RU:(Tryz.f47.name == "runtime.NumGoroutine")=false:=by decide +kernel
theorem RT:(Tryz.f49.name == "runtime.NumGoroutine")=false:=by decide +kernel
theorem Sv:(Tryz.f5.name == "runtime.NumGoroutine")=false:=by decide +kernel
theorem RS:(Tryz.f55.name == "runtime.NumGoroutine")=false:=by decide +kernel
theorem NB:(Tryz.f59.name == "runtime.NumGoroutine")=false:=by decide +kernel
theorem S0:(Tryz.f6.name == "runtime.NumGoroutine")=false:=by decide +kernel
theorem Po:(Tryz.f60.name == "runtime.NumGoroutine")=false:=by decide +kernel
theorem RR:(Tryz.f61.name == "runtime.NumGoroutine")=false:=by decide +kernel
theorem NA:(Tryz.f62.name == "runtime.NumGoroutine")=false:=by decide +kernel
theorem RP:(Tryz.f63.name == "runtime.NumGoroutine")=false:=by decide +kernel
theorem RO:(Tryz.f64.name == "runtime.NumGoroutine")=false:=by decide +kernel
theorem RN:(Tryz.f65.name == "runtime.NumGoroutine")=false:=by decide +kernel
theorem RM:(Tryz.f66.name == "runtime.NumGoroutine")=false:=by decide +kernel
theorem Su:(Tryz.f7.name == "runtime.NumGoroutine")=false:=by decide +kernel
theorem Pn:(Tryz.f70.name == "runtime.NumGoroutine")=false:=by decide +kernel
theorem nm73:(Tryz.f73.name == "runtime.NumGoroutine")=false:=by decide +kernel
theorem SZ:(Tryz.f8.name == "runtime.NumGoroutine")=false:=by decide +kernel
theorem RL:(Tryz.f82.name == "runtime.NumGoroutine")=false:=by decide +kernel
theorem RJ:(Tryz.f84.name == "runtime.NumGoroutine")=false:=by decide +kernel
theorem RI:(Tryz.f85.name == "runtime.NumGoroutine")=false:=by decide +kernel
theorem Pm:(Tryz.f86.name == "runtime.NumGoroutine")=false:=by decide +kernel
theorem RH:(Tryz.f88.name == "runtime.NumGoroutine")=false:=by decide +kernel
theorem RG:(Tryz.f89.name == "runtime.NumGoroutine")=false:=by decide +kernel
theorem SY:(Tryz.f9.name == "runtime.NumGoroutine")=false:=by decide +kernel
theorem RF:(Tryz.f91.name == "runtime.NumGoroutine")=false:=by decide +kernel
theorem RE:(Tryz.f92.name == "runtime.NumGoroutine")=false:=by decide +kernel
theorem RC:(Tryz.f95.name == "runtime.NumGoroutine")=false:=by decide +kernel
theorem RB:(Tryz.f97.name == "runtime.NumGoroutine")=false:=by decide +kernel
theorem pU:bU Tryz.prog 101=some 1:=by kernel_rfl
theorem uH:bU Tryz.prog 103=some 4:=by kernel_rfl
theorem uG:bU Tryz.prog 109=some 1:=by kernel_rfl
theorem se:bU Tryz.prog 110=some 1:=by kernel_rfl
theorem BO:bU Tryz.prog 112=some 2:=by kernel_rfl
theorem yT:bU Tryz.prog 126=some 3:=by kernel_rfl
theorem LY:bU Tryz.prog 133=some 1:=by kernel_rfl
theorem uF:bU Tryz.prog 135=some 5:=by kernel_rfl
theorem BN:bU Tryz.prog 139=some 1:=by kernel_rfl
theorem BM:bU Tryz.prog 142=some 1:=by kernel_rfl
theorem cO:bU Tryz.prog 144=some 19:=by kernel_rfl
theorem OY:bU Tryz.prog 145=some 1:=by kernel_rfl
theorem Ib:bU Tryz.prog 147=some 1:=by kernel_rfl
theorem LX:bU Tryz.prog 149=some 1:=by kernel_rfl
theorem yS:bU Tryz.prog 152=some 2:=by kernel_rfl
theorem sd:bU Tryz.prog 187=some 5:=by kernel_rfl
theorem Nh:bU Tryz.prog 20=some 1:=by kernel_rfl
theorem r6:bU Tryz.prog 206=some 2:=by kernel_rfl
theorem mD:bU Tryz.prog 207=some 1:=by kernel_rfl
theorem DO:bU Tryz.prog 21=some 1:=by kernel_rfl
theorem er:bU Tryz.prog 211=some 2:=by kernel_rfl
theorem uE:bU Tryz.prog 213=some 3:=by kernel_rfl
theorem BL:bU Tryz.prog 214=some 1:=by kernel_rfl
theorem jZ:bU Tryz.prog 215=some 1:=by kernel_rfl
theorem yR:bU Tryz.prog 216=some 1:=by kernel_rfl
theorem LW:bU Tryz.prog 220=some 1:=by kernel_rfl
theorem OX:bU Tryz.prog 227=some 1:=by kernel_rfl
theorem Rt:bU Tryz.prog 23=some 4:=by kernel_rfl
theorem OW:bU Tryz.prog 236=some 1:=by kernel_rfl
theorem fA:bU Tryz.prog 281=some 3:=by kernel_rfl
theorem LV:bU Tryz.prog 285=some 1:=by kernel_rfl
theorem Ia:bU Tryz.prog 288=some 4:=by kernel_rfl
theorem OV:bU Tryz.prog 289=some 1:=by kernel_rfl
theorem H9:bU Tryz.prog 29=some 1:=by kernel_rfl
theorem mC:bU Tryz.prog 291=some 6:=by kernel_rfl
theorem OU:bU Tryz.prog 297=some 7:=by kernel_rfl
theorem bL:bU Tryz.prog 3=some 1:=by kernel_rfl
theorem OT:bU Tryz.prog 301=some 1:=by kernel_rfl
theorem H8:bU Tryz.prog 303=some 3:=by kernel_rfl
theorem LU:bU Tryz.prog 306=some 1:=by kernel_rfl
theorem iq:bU Tryz.prog 31=some 1:=by kernel_rfl
theorem OS:bU Tryz.prog 312=some 256:=by kernel_rfl
theorem cI:bU Tryz.prog 33=some 5:=by kernel_rfl
theorem Fc:bU Tryz.prog 333=some 2:=by kernel_rfl
theorem Rs:bU Tryz.prog 35=some 1:=by kernel_rfl
theorem Ng:bU Tryz.prog 38=some 1:=by kernel_rfl
theorem Fb:bU Tryz.prog 4=some 1:=by kernel_rfl
theorem Sr:bU Tryz.prog 5=some 1:=by kernel_rfl
theorem jY:bU Tryz.prog 59=some 1:=by kernel_rfl
theorem jX:bU Tryz.prog 77=some 4:=by kernel_rfl
theorem fQ:bU Tryz.prog 79=some 6:=by kernel_rfl
theorem js:bU Tryz.prog 9=some 1:=by kernel_rfl
theorem iH:bU Tryz.prog 95=some 2:=by kernel_rfl
theorem LK:(Tryz.prog.info? 101).bind (·.zero)=some (.slice none 0 0):=by kernel_rfl
theorem OG:(Tryz.prog.info? 103).bind (·.zero)=some (.agg #[.int .i64 (0),.int .i32 (0),.slice none 0 0,.int .u8 (0)]):=by kernel_rfl
theorem LJ:(Tryz.prog.info? 112).bind (·.zero)=some (.agg #[.pointer none,.slice none 0 0]):=by kernel_rfl
theorem OF:(Tryz.prog.info? 126).bind (·.zero)=some (.agg #[.int .i64 (0),.int .i32 (0),.string ⟨#[]⟩]):=by kernel_rfl
theorem HO:(Tryz.prog.info? 135).bind (·.zero)=some (.agg #[.string ⟨#[]⟩,.slice none 0 0,.int .i64 (0),.string ⟨#[]⟩,.string ⟨#[]⟩]):=by kernel_rfl
theorem rT:(Tryz.prog.info? 144).bind (·.zero)=some (.agg #[.string ⟨#[]⟩,.int .i64 (0),.int .i64 (0),.int .i64 (0),.slice none 0 0,.slice none 0 0,.int .i64 (0),.string ⟨#[]⟩,.int .i64 (0),.int .i64 (0),.int .i64 (0),.string ⟨#[]⟩,.int .i64 (0),.string ⟨#[]⟩,.int .i64 (0),.int .i64 (0),.slice none 0 0,.slice none 0 0,.int .i64 (0)]):=by kernel_rfl
theorem OE:(Tryz.prog.info? 152).bind (·.zero)=some (.agg #[.int .i64 (0),.bool false]):=by kernel_rfl
theorem OD:(Tryz.prog.info? 187).bind (·.zero)=some (.agg #[.int .i64 (0),.int .i64 (0),.int .i64 (0),.string ⟨#[]⟩,.bool false]):=by kernel_rfl
theorem tW:(Tryz.prog.info? 211).bind (·.zero)=some (.agg #[.int .i64 (0),.int .i64 (0)]):=by kernel_rfl
theorem LI:(Tryz.prog.info? 213).bind (·.zero)=some (.agg #[.int .i64 (0),.int .i64 (0),.int .i64 (0)]):=by kernel_rfl
theorem pK:(Tryz.prog.info? 281).bind (·.zero)=some (.agg #[.int .i64 (0),.int .i64 (0),.int .i64 (0)]):=by kernel_rfl
theorem LH:(Tryz.prog.info? 291).bind (·.zero)=some (.agg #[.int .i64 (0),.int .u64 (0),.int .u64 (0),.int .u64 (0),.int .u64 (0),.slice none 0 0]):=by kernel_rfl
theorem Sn:(Tryz.prog.info? 3).bind (·.zero)=some (.int .i64 (0)):=by kernel_rfl
theorem LG:(Tryz.prog.info? 303).bind (·.zero)=some (.agg #[.string ⟨#[]⟩,.int .i64 (0),.int .i64 (0)]):=by kernel_rfl
theorem OC:(Tryz.prog.info? 312).bind (·.zero)=some (.agg (Array.replicate 256 (.int .i64 (0)))):=by kernel_rfl
theorem qX:(Tryz.prog.info? 33).bind (·.zero)=some (.agg #[.int .i64 (0),.int .i64 (0),.slice none 0 0,.int .i64 (0),.int .i64 (0)]):=by kernel_rfl
theorem Rl:(Tryz.prog.info? 38).bind (·.zero)=some (.int .i64 (0)):=by kernel_rfl
theorem Q6:(Tryz.prog.info? 4).bind (·.zero)=some (.bool false):=by kernel_rfl
theorem OB:(Tryz.prog.info? 59).bind (·.zero)=some (.slice none 0 0):=by kernel_rfl
theorem M7:(Tryz.prog.info? 77).bind (·.zero)=some (.agg #[.int .i64 (0),.bool false,.bool false,.bool false]):=by kernel_rfl
theorem Km:(Tryz.prog.info? 79).bind (·.zero)=some (.agg #[.int .i32 (0),.int .i64 (0),.int .i64 (0),.bool false,.bool false,.bool false]):=by kernel_rfl
theorem zR:(Tryz.prog.info? 95).bind (·.zero)=some (.agg #[.int .i64 (0),.string ⟨#[]⟩]):=by kernel_rfl
end Go.Proofs.YtdihgdeciopfpaaGreatDoor.H
namespace Go.Proofs.YtdihgdeciopfpaaGreatDoor.H
open Go.Proofs.Tryz
open Go Go.Lw
set_option maxRecDepth 100000 in
instance:Lx Tryz.prog:=⟨by decide +kernel⟩
instance:nF Tryz.prog 101 false:=⟨zN⟩
instance:nF Tryz.prog 109 false:=⟨FU⟩
instance:nF Tryz.prog 110 false:=⟨Df⟩
instance:nF Tryz.prog 142 false:=⟨MZ⟩
instance:nF Tryz.prog 144 true:=⟨jE⟩
instance:nF Tryz.prog 149 false:=⟨MY⟩
instance:nF Tryz.prog 187 true:=⟨zL⟩
instance:nF Tryz.prog 211 true:=⟨oB⟩
instance:nF Tryz.prog 214 false:=⟨FQ⟩
instance:nF Tryz.prog 215 false:=⟨nu⟩
instance:nF Tryz.prog 216 false:=⟨FP⟩
instance:nF Tryz.prog 220 false:=⟨QU⟩
instance:nF Tryz.prog 223 false:=⟨MV⟩
instance:nF Tryz.prog 227 false:=⟨QT⟩
instance:nF Tryz.prog 236 false:=⟨QS⟩
instance:nF Tryz.prog 281 true:=⟨wW⟩
instance:nF Tryz.prog 285 false:=⟨QO⟩
instance:nF Tryz.prog 288 true:=⟨QN⟩
instance:nF Tryz.prog 289 false:=⟨MU⟩
instance:nF Tryz.prog 291 true:=⟨zK⟩
instance:nF Tryz.prog 297 true:=⟨QM⟩
instance:nF Tryz.prog 3 false:=⟨cC⟩
instance:nF Tryz.prog 301 false:=⟨QL⟩
instance:nF Tryz.prog 303 true:=⟨MT⟩
instance:nF Tryz.prog 306 false:=⟨QK⟩
instance:nF Tryz.prog 312 true:=⟨QJ⟩
instance:nF Tryz.prog 38 false:=⟨N7⟩
instance:nF Tryz.prog 4 false:=⟨Rj⟩
instance:nF Tryz.prog 429 false:=⟨QI⟩
instance:nF Tryz.prog 59 false:=⟨tE⟩
instance:nF Tryz.prog 9 false:=⟨jQ⟩
instance:SA Tryz.prog 358:=⟨ME⟩
instance:E3 Tryz.prog 101 1 24:=⟨Qx⟩
instance:E3 Tryz.prog 211 2 16:=⟨jC⟩
instance:E3 Tryz.prog 213 3 24:=⟨JC⟩
instance:E3 Tryz.prog 227 1 8:=⟨Qv⟩
instance:E3 Tryz.prog 281 3 24:=⟨lZ⟩
instance:E3 Tryz.prog 291 6 64:=⟨JB⟩
instance:E3 Tryz.prog 297 7 72:=⟨Mz⟩
instance:E3 Tryz.prog 3 1 8:=⟨NR⟩
instance:E3 Tryz.prog 4 1 1:=⟨Re⟩
instance:E3 Tryz.prog 5 1 1:=⟨Qu⟩
instance:E3 Tryz.prog 9 1 16:=⟨yA⟩
instance:jq Tryz.prog 112 0 0:=⟨⟨_,_,_,underlying112,rfl,rfl,uG⟩⟩
instance:jq Tryz.prog 112 1 1:=⟨⟨_,_,_,underlying112,rfl,rfl,se⟩⟩
instance:jq Tryz.prog 144 0 0:=⟨⟨_,_,_,underlying144,rfl,rfl,js⟩⟩
instance:jq Tryz.prog 144 1 1:=⟨⟨_,_,_,underlying144,rfl,rfl,bL⟩⟩
instance:jq Tryz.prog 144 10 10:=⟨⟨_,_,_,underlying144,rfl,rfl,bL⟩⟩
instance:jq Tryz.prog 144 16 16:=⟨⟨_,_,_,underlying144,rfl,rfl,jY⟩⟩
instance:jq Tryz.prog 144 17 17:=⟨⟨_,_,_,underlying144,rfl,rfl,BM⟩⟩
instance:jq Tryz.prog 144 18 18:=⟨⟨_,_,_,underlying144,rfl,rfl,bL⟩⟩
instance:jq Tryz.prog 144 2 2:=⟨⟨_,_,_,underlying144,rfl,rfl,bL⟩⟩
instance:jq Tryz.prog 144 3 3:=⟨⟨_,_,_,underlying144,rfl,rfl,bL⟩⟩
instance:jq Tryz.prog 144 4 4:=⟨⟨_,_,_,underlying144,rfl,rfl,jY⟩⟩
instance:jq Tryz.prog 144 5 5:=⟨⟨_,_,_,underlying144,rfl,rfl,jY⟩⟩
instance:jq Tryz.prog 144 6 6:=⟨⟨_,_,_,underlying144,rfl,rfl,bL⟩⟩
instance:jq Tryz.prog 144 8 8:=⟨⟨_,_,_,underlying144,rfl,rfl,bL⟩⟩
instance:jq Tryz.prog 144 9 9:=⟨⟨_,_,_,underlying144,rfl,rfl,bL⟩⟩
instance:jq Tryz.prog 187 0 0:=⟨⟨_,_,_,underlying187,rfl,rfl,bL⟩⟩
instance:jq Tryz.prog 187 2 2:=⟨⟨_,_,_,underlying187,rfl,rfl,bL⟩⟩
instance:jq Tryz.prog 211 0 0:=⟨⟨_,_,_,underlying211,rfl,rfl,bL⟩⟩
instance:jq Tryz.prog 211 1 1:=⟨⟨_,_,_,underlying211,rfl,rfl,bL⟩⟩
instance:jq Tryz.prog 213 0 0:=⟨⟨_,_,_,underlying213,rfl,rfl,bL⟩⟩
instance:jq Tryz.prog 218 0 0:=⟨⟨_,_,_,underlying218,rfl,rfl,LX⟩⟩
instance:jq Tryz.prog 218 2 2:=⟨⟨_,_,_,underlying218,rfl,rfl,jZ⟩⟩
instance:jq Tryz.prog 218 3 3:=⟨⟨_,_,_,underlying218,rfl,rfl,yR⟩⟩
instance:jq Tryz.prog 218 5 6:=⟨⟨_,_,_,underlying218,rfl,rfl,BL⟩⟩
instance:jq Tryz.prog 222 0 0:=⟨⟨_,_,_,underlying222,rfl,rfl,LW⟩⟩
instance:jq Tryz.prog 276 0 0:=⟨⟨_,_,_,underlying276,rfl,rfl,Fb⟩⟩
instance:jq Tryz.prog 276 1 1:=⟨⟨_,_,_,underlying276,rfl,rfl,jY⟩⟩
instance:jq Tryz.prog 276 2 2:=⟨⟨_,_,_,underlying276,rfl,rfl,bL⟩⟩
instance:jq Tryz.prog 281 0 0:=⟨⟨_,_,_,underlying281,rfl,rfl,bL⟩⟩
instance:jq Tryz.prog 281 1 1:=⟨⟨_,_,_,underlying281,rfl,rfl,bL⟩⟩
instance:jq Tryz.prog 281 2 2:=⟨⟨_,_,_,underlying281,rfl,rfl,bL⟩⟩
instance:jq Tryz.prog 287 0 0:=⟨⟨_,_,_,underlying287,rfl,rfl,LV⟩⟩
instance:jq Tryz.prog 287 1 1:=⟨⟨_,_,_,underlying287,rfl,rfl,bL⟩⟩
instance:jq Tryz.prog 291 0 0:=⟨⟨_,_,_,underlying291,rfl,rfl,bL⟩⟩
instance:jq Tryz.prog 291 1 1:=⟨⟨_,_,_,underlying291,rfl,rfl,Ia⟩⟩
instance:jq Tryz.prog 291 2 5:=⟨⟨_,_,_,underlying291,rfl,rfl,OV⟩⟩
instance:jq Tryz.prog 297 0 0:=⟨⟨_,_,_,underlying297,rfl,rfl,bL⟩⟩
instance:jq Tryz.prog 297 1 1:=⟨⟨_,_,_,underlying297,rfl,rfl,Ia⟩⟩
instance:jq Tryz.prog 297 2 5:=⟨⟨_,_,_,underlying297,rfl,rfl,pU⟩⟩
instance:jq Tryz.prog 297 3 6:=⟨⟨_,_,_,underlying297,rfl,rfl,bL⟩⟩
instance:jq Tryz.prog 303 1 1:=⟨⟨_,_,_,underlying303,rfl,rfl,bL⟩⟩
instance:jq Tryz.prog 303 2 2:=⟨⟨_,_,_,underlying303,rfl,rfl,bL⟩⟩
instance:jq Tryz.prog 308 0 0:=⟨⟨_,_,_,underlying308,rfl,rfl,LU⟩⟩
instance:jq Tryz.prog 308 1 1:=⟨⟨_,_,_,underlying308,rfl,rfl,pU⟩⟩
instance:jq Tryz.prog 351 0 0:=⟨⟨_,_,_,underlying351,rfl,rfl,js⟩⟩
instance:jq Tryz.prog 361 0 0:=⟨⟨_,_,_,underlying361,rfl,rfl,js⟩⟩
instance:cw Tryz.prog 102 f102:=⟨func102⟩
instance:cw Tryz.prog 116 f116:=⟨func116⟩
instance:cw Tryz.prog 117 f117:=⟨func117⟩
instance:cw Tryz.prog 119 f119:=⟨func119⟩
instance:cw Tryz.prog 120 Tryz.f120:=⟨func120⟩
instance:cw Tryz.prog 121 f121:=⟨func121⟩
instance:cw Tryz.prog 122 f122:=⟨func122⟩
instance:cw Tryz.prog 147 f147:=⟨func147⟩
instance:cw Tryz.prog 150 f150:=⟨func150⟩
instance:cw Tryz.prog 168 f168:=⟨func168⟩
instance:cw Tryz.prog 178 f178:=⟨func178⟩
instance:cw Tryz.prog 180 f180:=⟨func180⟩
instance:cw Tryz.prog 181 f181:=⟨func181⟩
instance:cw Tryz.prog 182 f182:=⟨func182⟩
instance:cw Tryz.prog 183 f183:=⟨func183⟩
instance:cw Tryz.prog 184 f184:=⟨func184⟩
instance:cw Tryz.prog 185 f185:=⟨func185⟩
instance:cw Tryz.prog 186 f186:=⟨func186⟩
instance:cw Tryz.prog 187 f187:=⟨func187⟩
instance:cw Tryz.prog 188 f188:=⟨func188⟩
instance:cw Tryz.prog 189 f189:=⟨func189⟩
instance:cw Tryz.prog 190 f190:=⟨func190⟩
instance:cw Tryz.prog 191 f191:=⟨func191⟩
instance:cw Tryz.prog 192 f192:=⟨func192⟩
instance:cw Tryz.prog 193 f193:=⟨func193⟩
instance:cw Tryz.prog 194 f194:=⟨func194⟩
instance:cw Tryz.prog 195 f195:=⟨func195⟩
instance:cw Tryz.prog 217 Tryz.f217:=⟨func217⟩
instance:cw Tryz.prog 218 f218:=⟨func218⟩
instance:cw Tryz.prog 219 Tryz.f219:=⟨func219⟩
instance:cw Tryz.prog 221 f221:=⟨func221⟩
instance:cw Tryz.prog 222 Tryz.f222:=⟨func222⟩
instance:cw Tryz.prog 224 Tryz.f224:=⟨func224⟩
instance:cw Tryz.prog 228 f228:=⟨func228⟩
instance:cw Tryz.prog 230 f230:=⟨func230⟩
instance:cw Tryz.prog 232 f232:=⟨func232⟩
instance:cw Tryz.prog 233 f233:=⟨func233⟩
instance:cw Tryz.prog 234 f234:=⟨func234⟩
instance:cw Tryz.prog 235 f235:=⟨func235⟩
instance:cw Tryz.prog 236 f236:=⟨func236⟩
instance:cw Tryz.prog 237 f237:=⟨func237⟩
instance:cw Tryz.prog 239 f239:=⟨func239⟩
instance:cw Tryz.prog 240 Tryz.f240:=⟨func240⟩
instance:cw Tryz.prog 241 Tryz.f241:=⟨func241⟩
instance:cw Tryz.prog 242 f242:=⟨func242⟩
instance:cw Tryz.prog 243 Tryz.f243:=⟨func243⟩
instance:cw Tryz.prog 244 f244:=⟨func244⟩
instance:cw Tryz.prog 258 f258:=⟨func258⟩
instance:cw Tryz.prog 260 Tryz.f260:=⟨func260⟩
instance:cw Tryz.prog 262 f262:=⟨func262⟩
instance:cw Tryz.prog 263 Tryz.f263:=⟨func263⟩
instance:cw Tryz.prog 275 f275:=⟨func275⟩
instance:cw Tryz.prog 276 Tryz.f276:=⟨func276⟩
instance:cw Tryz.prog 277 Tryz.f277:=⟨func277⟩
instance:cw Tryz.prog 278 f278:=⟨func278⟩
instance:cw Tryz.prog 279 f279:=⟨func279⟩
instance:cw Tryz.prog 280 f280:=⟨func280⟩
instance:cw Tryz.prog 281 f281:=⟨func281⟩
instance:cw Tryz.prog 283 Tryz.f283:=⟨func283⟩
instance:cw Tryz.prog 284 Tryz.f284:=⟨func284⟩
instance:cw Tryz.prog 285 Tryz.f285:=⟨func285⟩
instance:cw Tryz.prog 286 Tryz.f286:=⟨func286⟩
instance:cw Tryz.prog 287 f287:=⟨func287⟩
instance:cw Tryz.prog 288 f288:=⟨func288⟩
instance:cw Tryz.prog 289 f289:=⟨func289⟩
instance:cw Tryz.prog 302 f302:=⟨func302⟩
instance:cw Tryz.prog 303 f303:=⟨func303⟩
instance:cw Tryz.prog 304 f304:=⟨func304⟩
instance:cw Tryz.prog 305 f305:=⟨func305⟩
instance:cw Tryz.prog 307 f307:=⟨func307⟩
instance:cw Tryz.prog 309 f309:=⟨func309⟩
instance:cw Tryz.prog 321 f321:=⟨func321⟩
instance:cw Tryz.prog 322 f322:=⟨func322⟩
instance:cw Tryz.prog 323 f323:=⟨func323⟩
instance:cw Tryz.prog 324 f324:=⟨func324⟩
instance:cw Tryz.prog 325 f325:=⟨func325⟩
instance:cw Tryz.prog 326 f326:=⟨func326⟩
instance:cw Tryz.prog 327 f327:=⟨func327⟩
instance:cw Tryz.prog 328 f328:=⟨func328⟩
instance:cw Tryz.prog 329 f329:=⟨func329⟩
instance:cw Tryz.prog 330 f330:=⟨func330⟩
instance:cw Tryz.prog 331 f331:=⟨func331⟩
instance:cw Tryz.prog 332 f332:=⟨func332⟩
instance:cw Tryz.prog 333 f333:=⟨func333⟩
instance:cw Tryz.prog 339 f339:=⟨func339⟩
instance:cw Tryz.prog 340 f340:=⟨func340⟩
instance:cw Tryz.prog 345 f345:=⟨func345⟩
instance:cw Tryz.prog 346 f346:=⟨func346⟩
instance:cw Tryz.prog 347 f347:=⟨func347⟩
instance:cw Tryz.prog 348 f348:=⟨func348⟩
instance:cw Tryz.prog 349 f349:=⟨func349⟩
instance:cw Tryz.prog 350 f350:=⟨func350⟩
instance:cw Tryz.prog 351 f351:=⟨func351⟩
instance:cw Tryz.prog 352 f352:=⟨func352⟩
instance:cw Tryz.prog 356 f356:=⟨func356⟩
instance:cw Tryz.prog 357 f357:=⟨func357⟩
instance:cw Tryz.prog 358 f358:=⟨func358⟩
instance:cw Tryz.prog 359 f359:=⟨func359⟩
instance:cw Tryz.prog 364 f364:=⟨func364⟩
instance:cw Tryz.prog 365 f365:=⟨func365⟩
instance:cw Tryz.prog 44 f44:=⟨func44⟩
instance:cw Tryz.prog 46 f46:=⟨func46⟩
instance:cw Tryz.prog 63 f63:=⟨func63⟩
instance:cw Tryz.prog 66 f66:=⟨func66⟩
instance:cw Tryz.prog 70 f70:=⟨func70⟩
instance:cw Tryz.prog 73 f73:=⟨func73⟩
instance:cw Tryz.prog 91 f91:=⟨func91⟩
instance:Oc Tryz.prog:=⟨mixed⟩
instance:oD Tryz.prog 101 1:=⟨pU⟩
instance:oD Tryz.prog 109 1:=⟨uG⟩
instance:oD Tryz.prog 110 1:=⟨se⟩
instance:oD Tryz.prog 142 1:=⟨BM⟩
instance:oD Tryz.prog 144 19:=⟨cO⟩
instance:oD Tryz.prog 187 5:=⟨sd⟩
instance:oD Tryz.prog 211 2:=⟨er⟩
instance:oD Tryz.prog 213 3:=⟨uE⟩
instance:oD Tryz.prog 214 1:=⟨BL⟩
instance:oD Tryz.prog 220 1:=⟨LW⟩
instance:oD Tryz.prog 227 1:=⟨OX⟩
instance:oD Tryz.prog 236 1:=⟨OW⟩
instance:oD Tryz.prog 281 3:=⟨fA⟩
instance:oD Tryz.prog 285 1:=⟨LV⟩
instance:oD Tryz.prog 288 4:=⟨Ia⟩
instance:oD Tryz.prog 291 6:=⟨mC⟩
instance:oD Tryz.prog 297 7:=⟨OU⟩
instance:oD Tryz.prog 3 1:=⟨bL⟩
instance:oD Tryz.prog 301 1:=⟨OT⟩
instance:oD Tryz.prog 303 3:=⟨H8⟩
instance:oD Tryz.prog 306 1:=⟨LU⟩
instance:oD Tryz.prog 312 256:=⟨OS⟩
instance:oD Tryz.prog 38 1:=⟨Ng⟩
instance:oD Tryz.prog 4 1:=⟨Fb⟩
instance:oD Tryz.prog 59 1:=⟨jY⟩
instance:oD Tryz.prog 9 1:=⟨js⟩
instance:nV Tryz.prog 101 (.slice 3):=⟨underlying101⟩
instance:nV Tryz.prog 110 (.slice 5):=⟨underlying110⟩
instance:nV Tryz.prog 142 (.slice 4):=⟨underlying142⟩
instance:nV Tryz.prog 214 (.slice 213):=⟨underlying214⟩
instance:nV Tryz.prog 215 (.slice 281):=⟨underlying215⟩
instance:nV Tryz.prog 216 (.slice 211):=⟨underlying216⟩
instance:nV Tryz.prog 220 (.slice 227):=⟨underlying220⟩
instance:nV Tryz.prog 285 (.slice 297):=⟨underlying285⟩
instance:nV Tryz.prog 288 (.array 4 236):=⟨underlying288⟩
instance:nV Tryz.prog 289 (.slice 291):=⟨underlying289⟩
instance:nV Tryz.prog 3 (.int .i64):=⟨underlying3⟩
instance:nV Tryz.prog 301 (.slice 303):=⟨underlying301⟩
instance:nV Tryz.prog 304 (.array 3 301):=⟨underlying304⟩
instance:nV Tryz.prog 306 (.slice 312):=⟨underlying306⟩
instance:nV Tryz.prog 311 (.slice 101):=⟨underlying311⟩
instance:nV Tryz.prog 312 (.array 256 3):=⟨underlying312⟩
instance:nV Tryz.prog 321 (.int .u64):=⟨underlying321⟩
instance:nV Tryz.prog 5 (.int .u8):=⟨underlying5⟩
instance:nV Tryz.prog 59 (.slice 9):=⟨underlying59⟩
instance:nV Tryz.prog 9 (.string):=⟨underlying9⟩
instance:Kj Tryz.prog 112 (.agg #[.pointer none,.slice none 0 0]):=⟨LJ⟩
instance:Kj Tryz.prog 144 (.agg #[.string ⟨#[]⟩,.int .i64 (0),.int .i64 (0),.int .i64 (0),.slice none 0 0,.slice none 0 0,.int .i64 (0),.string ⟨#[]⟩,.int .i64 (0),.int .i64 (0),.int .i64 (0),.string ⟨#[]⟩,.int .i64 (0),.string ⟨#[]⟩,.int .i64 (0),.int .i64 (0),.slice none 0 0,.slice none 0 0,.int .i64 (0)]):=⟨rT⟩
instance:Kj Tryz.prog 211 (.agg #[.int .i64 (0),.int .i64 (0)]):=⟨tW⟩
instance:Kj Tryz.prog 281 (.agg #[.int .i64 (0),.int .i64 (0),.int .i64 (0)]):=⟨pK⟩
instance:Kj Tryz.prog 291 (.agg #[.int .i64 (0),.int .u64 (0),.int .u64 (0),.int .u64 (0),.int .u64 (0),.slice none 0 0]):=⟨LH⟩
instance:Kj Tryz.prog 303 (.agg #[.string ⟨#[]⟩,.int .i64 (0),.int .i64 (0)]):=⟨LG⟩
instance:Kj Tryz.prog 312 (.agg (Array.replicate 256 (.int .i64 (0)))):=⟨OC⟩
instance:Kj Tryz.prog 38 (.int .i64 (0)):=⟨Rl⟩
instance:Kj Tryz.prog 59 (.slice none 0 0):=⟨OB⟩
end Go.Proofs.YtdihgdeciopfpaaGreatDoor.H
namespace Go.Proofs.YtdihgdeciopfpaaGreatDoor
section
variable {k i n to st:Nat}{fin:Nat->Prop}{todo:List Nat}
abbrev By:=List UInt8
inductive Nd where
  |mk (kind:Nat) (set:Nat) (kids:List Nd)
def Nd.kind:Nd->Nat|.mk k _ _=>k
def Nd.set:Nd->Nat|.mk _ s _=>s
def Nd.kids:Nd->List Nd|.mk _ _ l=>l
def JX:Nat:=2 ^ 256-1
def yX (s a:Nat):Nat->Nat
  | 0=>s
  |n+1=>yX (s |||(1 <<< a)) (a+1) n
def n7 (s:Nat) (a b:UInt8):Nat:=yX s a.toNat (b.toNat+1-a.toNat)
def mO (s:Nat):Nat:=JX ^^^ s
def Bg (b:UInt8):Nd:=.mk 1 (n7 0 b b) []
def MD:Nd:=.mk 1 (n7 (n7 0 0 9) 11 255) []
def nN:Nd:=.mk 0 0 []
def fG:By:=[40,41,91,93,124,42,43,63,46,92,45,94]
def lF (b:UInt8):Option Nat :=
  if 48<=b.toNat/\b.toNat<=57 then some (b.toNat-48) else if 97<=b.toNat/\b.toNat<=102 then some (b.toNat-87) else if 65<=b.toNat/\b.toNat<=70 then some (b.toNat-55) else none
def qx:By->Option (UInt8×By)
  | []=>none
  |b::r =>
    if b=110 then some (10,r) else if b=116 then some (9,r) else if b=114 then some (13,r)
    else if b=120 then
      match r with
      |x::y::r=>match lF x,lF y with
        |some m,some n=>some (UInt8.ofNat (m*16+n),r)
        |_,_=>none
      |_=>none
    else if b∈fG then some (b,r) else none
def oO:By->Option (UInt8×By)
  | []=>none
  |b::r=>if b=92 then qx r else if b∈fG then none else some (b,r)
def eS (s:By):Option ((UInt8×UInt8)×By) :=
  match oO s with
  |none=>none
  |some (a,r)=>match r with
    | 45::r'=>match oO r' with
      |none=>none
      |some (b,r'')=>if b.toNat<a.toNat then none else some ((a,b),r'')
    |_=>some ((a,a),r)
def lU:Nat->Nat->By->Option (Nat×By)
  | 0,_,_=>none
  |n+1,acc,s=>match eS s with
    |none=>none
    |some ((a,b),r)=>match r with
      | 93::r'=>some (n7 acc a b,r')
      |_=>lU n (n7 acc a b) r
def ie (s:By):Option (Nd×By) :=
  match s with
  | 94::r=>(lU (r.length+1) 0 r).map fun p=>(.mk 1 (mO p.1) [],p.2)
  |_=>(lU (s.length+1) 0 s).map fun p=>(.mk 1 p.1 [],p.2)
def fm (rows:By->Option (Nd×By)):By->Option (Nd×By)
  | []=>none
  |c::r =>
    if c=40 then
      match rows r with
      |none=>none
      |some (n,r')=>match r' with
        | 41::r''=>some (n,r'')
        |_=>none
    else if c=91 then ie r
    else if c=46 then some (MD,r)
    else if c=92 then (qx r).map fun p=>(Bg p.1,p.2)
    else if c∈[(41:UInt8),93,124,42,43,63] then none
    else some (Bg c,r)
def de (c:UInt8):Nat:=if c=42 then 4 else if c=43 then 5 else if c=63 then 6 else 0
def eK (n:Nd):By->Nd×By
  | []=>(n,[])
  |c::r=>if de c=0 then (n,c::r) else eK (.mk (de c) 0 [n]) r
def fS (rows:By->Option (Nd×By)) (s:By):Option (Nd×By) :=
  (fm rows s).map fun p=>eK p.1 p.2
def b6 (kind:Nat):List Nd->Nd
  | []=>nN
  | [n]=>n
  |l=>.mk kind 0 l
def jH:By->Bool
  | []=>true
  |c::_=>c ==124 ||c ==41
def mL (rows:By->Option (Nd×By)):Nat->By->Option (List Nd×By)
  | 0,_=>none
  |n+1,s=>if jH s then some ([],s) else
    match fS rows s with
    |none=>none
    |some (x,r)=>(mL rows n r).map fun p=>(x::p.1,p.2)
def iA (rows:By->Option (Nd×By)):Nat->List Nd->List Nd->By->Option (Nd×By)
  | 0,_,_,_=>none
  |n+1,all,row,s=>if jH s then
      if s.head? =some 124 then iA rows n (all++[b6 2 row]) [] s.tail
      else some (b6 3 (all++[b6 2 row]),s)
    else match fS rows s with
      |none=>none
      |some (x,r)=>iA rows n all (row++[x]) r
def dP:Nat->By->Option (Nd×By)
  | 0,_=>none
  |d+1,s=>iA (dP d) (s.length+1) [] [] s
def jJ (s:By):Option Nd :=
  match dP (s.length+1) s with
  |some (n,[])=>some n
  |_=>none
theorem wu {s:By}{b:UInt8}{r:By}(h:qx s=some (b,r)):r.length<s.length:=by
  unfold qx at h;split at h
  · cases h
  · rename_i c t;split at h
    · cases h;simp
    · split at h
      · cases h;simp
      · split at h
        · cases h;simp
        · split at h
          · split at h
            · split at h
              · cases h;simp only[List.length_cons];omega
              · cases h
            · cases h
          · split at h
            · cases h;simp
            · cases h
theorem qp {s:By}{b:UInt8}{r:By}(h:oO s=some (b,r)):r.length<s.length:=by
  unfold oO at h;split at h
  · cases h
  · split at h
    · have:=wu h;simp only[List.length_cons];omega
    · split at h
      · cases h
      · cases h;simp
theorem mS {s:By}{p:UInt8×UInt8}{r:By}(h:eS s=some (p,r)):r.length<s.length:=by
  unfold eS at h;split at h
  · cases h
  · rename_i a t ha;have h1:=qp ha;split at h
    · rename_i t';split at h
      · cases h
      · rename_i b t'' hb;have h2:=qp hb;split at h
        · cases h
        · cases h;simp only[List.length_cons] at h1;omega
    · cases h;exact h1
theorem rq:∀(n acc:Nat){s:By}{m:Nat}{r:By},lU n acc s=some (m,r)->r.length<s.length
  | 0,_,s,m,r,h=>by cases h
  |n+1,acc,s,m,r,h=>by
    rw[lU] at h;split at h
    · cases h
    · rename_i a b t ht;have h1:=mS ht;split at h
      · cases h;simp only[List.length_cons] at h1;omega
      · have:=rq n _ h;omega
theorem qG {s:By}{x:Nd}{r:By}(h:ie s=some (x,r)):r.length<s.length:=by
  unfold ie at h;split at h
  · rename_i t;simp only[Option.map_eq_some_iff] at h;obtain⟨⟨m,r'⟩,h1,h2⟩:=h;cases h2;have:=rq _ _ h1;simp only[List.length_cons];omega
  · simp only[Option.map_eq_some_iff] at h;obtain⟨⟨m,r'⟩,h1,h2⟩:=h;cases h2;exact rq _ _ h1
theorem zH {rows:By->Option (Nd×By)}(hr:∀{s x r},rows s=some (x,r)->r.length<=s.length){s:By}{x:Nd}{r:By}(h:fm rows s=some (x,r)):r.length<s.length:=by
  unfold fm at h;split at h
  · cases h
  · rename_i c t;simp only[List.length_cons];split at h
    · split at h
      · cases h
      · rename_i n t' ht;have:=hr ht;split at h
        · rename_i t'' _;cases h;simp only[List.length_cons] at this;omega
        · cases h
    · split at h
      · have:=qG h;omega
      · split at h
        · cases h;omega
        · split at h
          · simp only[Option.map_eq_some_iff] at h;obtain⟨⟨b,r'⟩,h1,h2⟩:=h;cases h2;have:=wu h1;dsimp only;omega
          · split at h
            · cases h
            · cases h;omega
theorem uP:∀(s:By) (n:Nd),(eK n s).2.length<=s.length
  | [],n=>by simp[eK]
  |c::r,n=>by
    rw[eK];split
    · simp
    · have:=uP r (.mk (de c) 0 [n]);simp only[List.length_cons];omega
theorem fR {rows:By->Option (Nd×By)}(hr:∀{s x r},rows s=some (x,r)->r.length<=s.length){s:By}{x:Nd}{r:By}(h:fS rows s=some (x,r)):r.length<s.length:=by
  unfold fS at h;simp only[Option.map_eq_some_iff] at h;obtain⟨⟨n,t⟩,h1,h2⟩:=h;have h3:=zH hr h1;have h4:=uP t n;rw[h2] at h4;simp only at h4;omega
theorem rB {rows:By->Option (Nd×By)}(hr:∀{s x r},rows s=some (x,r)->r.length<=s.length):∀(n:Nat) (all row:List Nd){s:By}{x:Nd}{r:By},iA rows n all row s=some (x,r)->r.length<=s.length/\(r=[]\/r.head? =some 41)
  | 0,_,_,s,x,r,h=>by cases h
  |n+1,all,row,s,x,r,h=>by
    rw[iA] at h;split at h
    · rename_i he;split at h
      · have:=rB hr n _ _ h;exact⟨by have h2:=this.1;simp only[List.length_tail] at h2;omega,this.2⟩
      · rename_i hn;cases h;refine⟨Nat.le_refl _,?_⟩;cases s with
        |nil=>exact .inl rfl
        |cons c t =>
          right
          unfold jH at he;have h1:c≠124:=fun e=>hn (by rw[e];rfl)
          simp[h1] at he;simp[he]
    · split at h
      · cases h
      · rename_i y t ht;have h1:=fR hr ht;have h2:=rB hr n _ _ h;exact⟨by omega,h2.2⟩
theorem j9:∀(d:Nat){s:By}{x:Nd}{r:By},dP d s=some (x,r)->r.length<=s.length
  | 0,s,x,r,h=>by cases h
  |d+1,s,x,r,h=>(rB (fun h=>j9 d h) _ _ _ h).1
theorem B3 {rows:By->Option (Nd×By)}(hr:∀{s x r},rows s=some (x,r)->r.length<=s.length):∀(n:Nat){s:By}{l:List Nd}{r:By},mL rows n s=some (l,r)->r.length<=s.length/\jH r=true/\l.length<=s.length
  | 0,s,l,r,h=>by cases h
  |n+1,s,l,r,h=>by
    rw[mL] at h;split at h
    · rename_i he;cases h;exact⟨Nat.le_refl _,he,Nat.zero_le _⟩
    · split at h
      · cases h
      · rename_i y t ht;have h1:=fR hr ht;simp only[Option.map_eq_some_iff] at h;obtain⟨⟨m,r'⟩,h2,h3⟩:=h;cases h3;have h4:=B3 hr n h2;have h5:=h4.1;have h6:=h4.2.2;exact⟨by first|omega|(dsimp only;omega),h4.2.1,by simp only[List.length_cons];first|omega|(dsimp only at h6;omega)⟩
theorem u7 {rows:By->Option (Nd×By)}(hr:∀{s x r},rows s=some (x,r)->r.length<=s.length):∀(k:Nat) (n m:Nat) (all row:List Nd) (s:By),s.length<=k->s.length<n->s.length<m->iA rows n all row s=iA rows m all row s:=by
  intro k
  induction k with
  |zero =>
    intro n m all row s hk hn hm;cases n with
    |zero=>omega
    |succ n =>
      cases m with
      |zero=>omega
      |succ m =>
        have:s=[]:=List.eq_nil_of_length_eq_zero (by omega);subst this;rfl
  |succ k ih =>
    intro n m all row s hk hn hm;cases n with
    |zero=>omega
    |succ n =>
      cases m with
      |zero=>omega
      |succ m =>
        rw[iA,iA];split
        · split
          · rename_i h1;have h2:s.tail.length+1=s.length:=by cases s with|nil=>cases h1|cons a b=>simp
            exact ih _ _ _ _ _ (by omega) (by omega) (by omega)
          · rfl
        · cases hp:fS rows s with
          |none=>rfl
          |some p =>
            obtain⟨y,t⟩:=p;have:=fR hr hp;exact ih _ _ _ _ _ (by omega) (by omega) (by omega)
theorem zh {rows:By->Option (Nd×By)}(hr:∀{s x r},rows s=some (x,r)->r.length<=s.length):∀(n m:Nat) (s:By),s.length<n->s.length<m->mL rows n s=mL rows m s
  | 0,_,_,h,_=>by omega
  |_,0,_,_,h=>by omega
  |n+1,m+1,s,hn,hm=>by
    rw[mL,mL];split
    · rfl
    · cases hp:fS rows s with
      |none=>rfl
      |some p =>
        obtain⟨y,t⟩:=p;have:=fR hr hp;simp only;rw[zh hr n m t (by omega) (by omega)]
def Aw (rows:By->Option (Nd×By)) (s:By):Option (Nd×By):=(mL rows (s.length+1) s).map fun p=>(b6 2 p.1,p.2)
def sV (rows:By->Option (Nd×By)) (all:List Nd) (m:By):Option (Nd×By) :=
  if m.head? =some 124 then iA rows (m.tail.length+1) all [] m.tail else some (b6 3 all,m)
theorem Gv {rows:By->Option (Nd×By)}(hr:∀{s x r},rows s=some (x,r)->r.length<=s.length):∀(n m:Nat) (all row:List Nd) (s:By),s.length<n->s.length<m ->
    iA rows n all row s=match mL rows m s with
      |none=>none
      |some (l,r)=>if r.head? =some 124 then iA rows (r.length+1) (all++[b6 2 (row++l)]) [] r.tail else some (b6 3 (all++[b6 2 (row++l)]),r):=by
  have fuel:=fun k=>@u7 rows hr k
  intro n
  induction n with
  |zero=>intro m all row s h;omega
  |succ n ih =>
    intro m all row s hn hm;cases m with
    |zero=>omega
    |succ m =>
      rw[iA,mL]
      by_cases he:jH s=true
      · rw[if_pos he,if_pos he];simp only[List.append_nil];split
        · rename_i h1;have h2:s.tail.length+1=s.length:=by cases s with|nil=>cases h1|cons a b=>simp
          exact fuel _ _ _ _ _ _ (Nat.le_refl _) (by omega) (by omega)
        · rfl
      · rw[if_neg he,if_neg he];cases hp:fS rows s with
        |none=>rfl
        |some p =>
          obtain⟨y,t⟩:=p;have hlt:=fR hr hp;simp only;rw[ih m all (row++[y]) t (by omega) (by omega)];cases hl:mL rows m t with
          |none=>rfl
          |some q =>
            obtain⟨l,r⟩:=q;simp only[Option.map_some,List.append_assoc,List.singleton_append]
theorem u9 {rows:By->Option (Nd×By)}(hr:∀{s x r},rows s=some (x,r)->r.length<=s.length) (all:List Nd) (s:By) :
    iA rows (s.length+1) all [] s=match Aw rows s with|none=>none|some (x,r)=>sV rows (all++[x]) r:=by
  rw[Gv hr _ (s.length+1) _ _ _ (Nat.lt_succ_self _) (Nat.lt_succ_self _)];unfold Aw;cases hl:mL rows (s.length+1) s with
  |none=>rfl
  |some q =>
    obtain⟨l,r⟩:=q;simp only[Option.map_some,List.nil_append,sV];split
    · exact u7 hr r.length _ _ _ _ _ (by simp) (by simp;omega) (by omega)
    · rfl
theorem B1 {rows:By->Option (Nd×By)}(hr:∀{s x r},rows s=some (x,r)->r.length<=s.length){s:By}{x:Nd}{r:By}(h:Aw rows s=some (x,r)):r.length<=s.length:=by
  unfold Aw at h;simp only[Option.map_eq_some_iff] at h;obtain⟨⟨l,r'⟩,h1,h2⟩:=h;cases h2;exact(B3 hr _ h1).1
def bN (s:By):Nd×Int:=if 200<s.length then (nN,3) else match jJ s with|some x=>(x,0)|none=>(nN,10)
structure bC where
  kind:Nat
  set:Nat
  to:List Nat
  rule:Nat
end
mutual
def lay:Nd->List bC->Nat->List bC×Nat
  |.mk k s kids,ss,to =>
    if k=1 then (ss++[⟨1,s,[to],0⟩],ss.length)
    else if k=2 then bA kids ss to
    else if k=3 then ((aW kids ss to).1++[⟨0,0,(aW kids ss to).2,0⟩],(aW kids ss to).1.length)
    else if k=6 then ((bZ kids ss to).1++[⟨0,0,[(bZ kids ss to).2,to],0⟩],(bZ kids ss to).1.length)
    else if k=4\/k=5 then
      ((bZ kids (ss++[⟨0,0,[],0⟩]) ss.length).1.set ss.length ⟨0,0,[(bZ kids (ss++[⟨0,0,[],0⟩]) ss.length).2,to],0⟩,
        if k=5 then (bZ kids (ss++[⟨0,0,[],0⟩]) ss.length).2 else ss.length)
    else (ss,to)
def bA:List Nd->List bC->Nat->List bC×Nat
  | [],ss,to=>(ss,to)
  |x::r,ss,to=>lay x (bA r ss to).1 (bA r ss to).2
def aW:List Nd->List bC->Nat->List bC×List Nat
  | [],ss,_=>(ss,[])
  |x::r,ss,to=>((aW r (lay x ss to).1 to).1,(lay x ss to).2::(aW r (lay x ss to).1 to).2)
def bZ:List Nd->List bC->Nat->List bC×Nat
  | [],ss,to=>(ss,to)
  |x::_,ss,to=>lay x ss to
end
mutual
def nS:Nd->Nat
  |.mk _ _ kids=>gu kids+1
def gu:List Nd->Nat
  | []=>0
  |x::r=>nS x+gu r
end
mutual
def uz:Nd->Bool
  |.mk k _ kids=>(!(k ==4 ||k ==5 ||k ==6) ||kids.length ==1) && uB kids
def uB:List Nd->Bool
  | []=>true
  |x::r=>uz x && uB r
end
section
variable {k i n to st:Nat}{fin:Nat->Prop}{todo:List Nat}
theorem E9 (x:Nd):0<nS x:=by cases x;simp[nS]
theorem gK:∀(l m:List Nd),gu (l++m)=gu l+gu m
  | [],m=>by simp[gu]
  |x::l,m=>by simp only[List.cons_append,gu];rw[gK l m];omega
theorem kX:∀(l m:List Nd),uB (l++m)=(uB l && uB m)
  | [],m=>by simp[uB]
  |x::l,m=>by simp only[List.cons_append,uB];rw[kX l m,Bool.and_assoc]
theorem zZ:∀{l:List Nd}{i:Nat}{x:Nd},uB l=true->l[i]? =some x->uz x=true
  | [],i,x,_,h=>by simp at h
  |y::l,0,x,hw,h=>by simp at h;subst h;simp only[uB,Bool.and_eq_true] at hw;exact hw.1
  |y::l,i+1,x,hw,h=>by simp only[uB,Bool.and_eq_true] at hw;exact zZ hw.2 (by simpa using h)
end
mutual
theorem fJ:∀(x:Nd) (ss:List bC) (to:Nat),ss.length<=(lay x ss to).1.length/\(lay x ss to).1.length<=ss.length+nS x
  |.mk k s kids,ss,to=>by
    rw[lay];simp only[nS];split
    · simp
    · split
      · have:=jf kids ss to;omega
      · split
        · have:=fh kids ss to;simp only[List.length_append,List.length_singleton];omega
        · split
          · have:=fU kids ss to;simp only[List.length_append,List.length_singleton];omega
          · split
            · have:=fU kids (ss++[⟨0,0,[],0⟩]) ss.length;simp only[List.length_append,List.length_singleton] at this;simp only[List.length_set];omega
            · simp
theorem jf:∀(l:List Nd) (ss:List bC) (to:Nat),ss.length<=(bA l ss to).1.length/\(bA l ss to).1.length<=ss.length+gu l
  | [],ss,to=>by simp[bA,gu]
  |x::r,ss,to=>by
    rw[bA];have h1:=jf r ss to;have h2:=fJ x (bA r ss to).1 (bA r ss to).2;simp only[gu];omega
theorem fh:∀(l:List Nd) (ss:List bC) (to:Nat),ss.length<=(aW l ss to).1.length/\(aW l ss to).1.length<=ss.length+gu l
  | [],ss,to=>by simp[aW,gu]
  |x::r,ss,to=>by
    rw[aW];have h1:=fJ x ss to;have h2:=fh r (lay x ss to).1 to;simp only[gu];omega
theorem fU:∀(l:List Nd) (ss:List bC) (to:Nat),ss.length<=(bZ l ss to).1.length/\(bZ l ss to).1.length<=ss.length+gu l
  | [],ss,to=>by simp[bZ,gu]
  |x::r,ss,to=>by
    rw[bZ];have h1:=fJ x ss to;simp only[gu];omega
end
section
variable {k i n to st:Nat}{fin:Nat->Prop}{todo:List Nat}
def Small (s:By) (p:Option (Nd×By)):Prop:=∀x r,p=some (x,r)->nS x+2*r.length<=2*s.length+1/\uz x=true
theorem Ag (k:Nat) (l:List Nd):nS (b6 k l)<=gu l+1:=by
  unfold b6;split
  · simp[nN,nS,gu]
  · simp[gu]
  · simp[nS]
theorem zY {l:List Nd}(hk:k=2\/k=3) (h:uB l=true):uz (b6 k l)=true:=by
  unfold b6;split
  · rfl
  · simp only[uB,Bool.and_eq_true] at h;exact h.1
  · simp only[uz,h,Bool.and_true];rcases hk with rfl|rfl<;>rfl
theorem sj:∀(s:By) (n:Nd),uz n=true->nS (eK n s).1+2*(eK n s).2.length<=nS n+2*s.length/\uz (eK n s).1=true
  | [],n,hw=>by simp[eK,hw]
  |c::r,n,hw=>by
    rw[eK];split
    · simp[hw]
    · rename_i hs;have hw':uz (.mk (de c) 0 [n])=true:=by simp[uz,uB,hw]
      have h:=sj r (.mk (de c) 0 [n]) hw';refine⟨?_,h.2⟩;have h1:=h.1;simp only[nS,gu,List.length_cons] at h1 ⊢;omega
theorem Cb {rows:By->Option (Nd×By)}(hr:∀s,Small s (rows s)){s:By}{x:Nd}{r:By}(h:fS rows s=some (x,r)):nS x+2*r.length+1<=2*s.length/\uz x=true:=by
  have leaf:∀k st,(k=0\/k=1)->uz (.mk k st [])=true:=fun k st hk=>by rcases hk with rfl|rfl<;>rfl
  have key:∀y t,fm rows s=some (y,t)->nS y+2*t.length+1<=2*s.length/\uz y=true:=by
    intro y t ha;have hlen:∀(k st:Nat),y= .mk k st []->t.length<s.length->nS y+2*t.length+1<=2*s.length:=fun k st hy ht=>by subst hy;simp only[nS,gu];omega
    unfold fm at ha;split at ha
    · cases ha
    · rename_i c u;split at ha
      · split at ha
        · cases ha
        · rename_i n t' ht;split at ha
          · rename_i t'' _;cases ha;have:=hr _ _ _ ht;simp only[List.length_cons] at this ⊢;exact⟨by omega,this.2⟩
          · cases ha
      · split at ha
        · have hb:=qG ha
          have hy:∃st,y= .mk 1 st []:=by
            unfold ie at ha;split at ha<;>(simp only[Option.map_eq_some_iff] at ha;obtain⟨⟨m,r'⟩,_,h2⟩:=ha;cases h2;exact⟨_,rfl⟩)
          obtain⟨st,rfl⟩:=hy;exact⟨hlen _ _ rfl (by simp only[List.length_cons];omega),leaf _ _ (.inr rfl)⟩
        · split at ha
          · cases ha;exact⟨hlen _ _ rfl (by simp),leaf _ _ (.inr rfl)⟩
          · split at ha
            · simp only[Option.map_eq_some_iff] at ha;obtain⟨⟨b,r'⟩,h1,h2⟩:=ha;have:=wu h1;cases h2;exact⟨hlen _ _ rfl (by simp only[List.length_cons];omega),leaf _ _ (.inr rfl)⟩
            · split at ha
              · cases ha
              · cases ha;exact⟨hlen _ _ rfl (by simp),leaf _ _ (.inr rfl)⟩
  unfold fS at h;simp only[Option.map_eq_some_iff] at h;obtain⟨⟨n,t⟩,h1,h2⟩:=h;have h3:=key n t h1;have h4:=sj t n h3.2;rw[h2] at h4;simp only at h4;exact⟨by omega,h4.2⟩
theorem mK {rows:By->Option (Nd×By)}(hr:∀s,Small s (rows s)):∀(n:Nat) (all row:List Nd) (s:By) (x:Nd) (r:By),uB all=true->uB row=true->iA rows n all row s=some (x,r) ->
    nS x+2*r.length<=2*s.length+1+gu all+gu row+(if all=[] then 0 else 1)/\uz x=true
  | 0,_,_,_,_,_,_,_,h=>by cases h
  |n+1,all,row,s,x,r,hwa,hwr,h=>by
    rw[iA] at h;split at h
    · split at h
      · rename_i hbar;have hs:s.tail.length+1=s.length:=by cases s with|nil=>cases hbar|cons a b=>simp
        have hw':uB (all++[b6 2 row])=true:=by rw[kX,hwa];simp[uB,zY (.inl rfl) hwr]
        have ih:=mK hr n _ _ _ _ _ hw' (by rfl) h;have hj:=Ag 2 row;have ha:gu (all++[b6 2 row])=gu all+nS (b6 2 row):=by rw[gK];simp[gu]
        rw[ha] at ih;refine⟨?_,ih.2⟩;have h1:=ih.1;rw[if_neg (by simp)] at h1;simp only[gu] at h1;omega
      · cases h;have hj:=Ag 2 row;have hj3:=Ag 3 (all++[b6 2 row]);have ha:gu (all++[b6 2 row])=gu all+nS (b6 2 row):=by rw[gK];simp[gu]
        refine⟨?_,zY (.inr rfl) (by rw[kX,hwa];simp[uB,zY (.inl rfl) hwr])⟩;split
        · rename_i he;subst he;have:b6 3 ([]++[b6 2 row])=b6 2 row:=rfl;rw[this];simp only[gu] at *;omega
        · rw[ha] at hj3;omega
    · split at h
      · cases h
      · rename_i y t ht;have h1:=Cb hr ht;have ih:=mK hr n all (row++[y]) t x r hwa (by rw[kX,hwr];simp[uB,h1.2]) h;have ha:gu (row++[y])=gu row+nS y:=by rw[gK];simp[gu]
        rw[ha] at ih;exact⟨by have:=ih.1;omega,ih.2⟩
theorem sx:∀(d:Nat) (s:By),Small s (dP d s)
  | 0,s=>fun x r h=>by cases h
  |d+1,s=>fun x r h=>by
    have:=mK (fun s=>sx d s) _ _ _ _ _ _ rfl rfl h;simpa [gu] using this
theorem AH {s:By}{x:Nd}(h:jJ s=some x):nS x<=2*s.length+1/\uz x=true:=by
  unfold jJ at h;split at h
  · rename_i n hn;cases h;have:=sx _ _ _ _ hn;simpa using this
  · cases h
theorem CI {l:List Nd}{x:Nd}(hx:l[i]? =some x) (ss:List bC) (to:Nat):bA (l.drop i) ss to=lay x (bA (l.drop (i+1)) ss to).1 (bA (l.drop (i+1)) ss to).2:=by
  obtain⟨hi,rfl⟩:=List.getElem?_eq_some_iff.1 hx;rw[List.drop_eq_getElem_cons hi,bA]
theorem mQ:∀(l:List Nd) (ss:List bC) (to:Nat),(aW l ss to).2.length=l.length
  | [],ss,to=>by simp[aW]
  |x::r,ss,to=>by rw[aW];simp[mQ r]
end
mutual
theorem lE:∀(x:Nd) (ss:List bC) (to i:Nat),i<ss.length->(lay x ss to).1[i]? =ss[i]?
  |.mk k s kids,ss,to,i,hi=>by
    rw[lay];split
    · simp[List.getElem?_append_left hi]
    · split
      · exact vN kids ss to i hi
      · split
        · have:=fh kids ss to;simp only;rw[List.getElem?_append_left (by omega)];exact oQ kids ss to i hi
        · split
          · have:=fU kids ss to;simp only;rw[List.getElem?_append_left (by omega)];exact oP kids ss to i hi
          · split
            · simp only;rw[List.getElem?_set_ne (by omega),oP kids (ss++[(⟨0,0,[],0⟩:bC)]) ss.length i (by simp;omega),List.getElem?_append_left hi]
            · rfl
theorem vN:∀(l:List Nd) (ss:List bC) (to i:Nat),i<ss.length->(bA l ss to).1[i]? =ss[i]?
  | [],ss,to,i,hi=>by simp[bA]
  |x::r,ss,to,i,hi=>by
    rw[bA];have h1:=jf r ss to;rw[lE x _ _ i (by omega),vN r ss to i hi]
theorem oQ:∀(l:List Nd) (ss:List bC) (to i:Nat),i<ss.length->(aW l ss to).1[i]? =ss[i]?
  | [],ss,to,i,hi=>by simp[aW]
  |x::r,ss,to,i,hi=>by
    rw[aW];have h1:=fJ x ss to;simp only;rw[oQ r _ _ i (by omega),lE x ss to i hi]
theorem oP:∀(l:List Nd) (ss:List bC) (to i:Nat),i<ss.length->(bZ l ss to).1[i]? =ss[i]?
  | [],ss,to,i,hi=>by simp[bZ]
  |x::r,ss,to,i,hi=>by
    rw[bZ];exact lE x ss to i hi
end
section
variable {k i n to st:Nat}{fin:Nat->Prop}{todo:List Nat}
theorem H6 {l:List Nd}{x:Nd}(hx:l[i]? =some x):gu (l.take i)+nS x<=gu l:=by
  obtain⟨hi,rfl⟩:=List.getElem?_eq_some_iff.1 hx;have h:gu (l.take i++l.drop i)=gu l:=by rw[List.take_append_drop]
  rw[gK,List.drop_eq_getElem_cons hi,gu] at h;omega
theorem H7 {l:List Nd}{x:Nd}(hx:l[i]? =some x):gu (l.drop (i+1))+nS x<=gu l:=by
  obtain⟨hi,rfl⟩:=List.getElem?_eq_some_iff.1 hx;have h:gu (l.take i++l.drop i)=gu l:=by rw[List.take_append_drop]
  rw[gK,List.drop_eq_getElem_cons hi,gu] at h;omega
theorem Fa:∀l:List Nd,l.length<=gu l
  | []=>by simp[gu]
  |x::l=>by have:=Fa l;have:=E9 x;simp only[List.length_cons,gu];omega
def sy:List bC->List Bool->Nat
  |x::r,b::s=>(if b then 0 else x.to.length+1)+sy r s
  |_,_=>0
def iD (ss:List bC):Nat->List Nat->List Bool->List Bool
  | 0,_,seen=>seen
  |n+1,todo,seen =>
    match todo.getLast? with
    |none=>seen
    |some i =>
      if seen[i]? =some true then iD ss n todo.dropLast seen
      else iD ss n (match ss[i]? with|some x=>if x.kind=0 then todo.dropLast++x.to else todo.dropLast|none=>todo.dropLast) (seen.set i true)
def closed (ss:List bC) (todo:List Nat):List Nat :=
  if todo.length=0 then []
  else ((List.range ss.length).filter fun i=>(iD ss (todo.length+sy ss (List.replicate ss.length false)) todo (List.replicate ss.length false))[i]? ==some true && (ss[i]?.map (·.kind)) !=some 0)
theorem AF:∀(ss:List bC) (seen:List Bool) (i:Nat) (x:bC),ss[i]? =some x->seen[i]? =some false->sy ss (seen.set i true)+(x.to.length+1)=sy ss seen
  | [],_,_,_,h,_=>by simp at h
  |_::_,[],_,_,_,h=>by simp at h
  |y::r,b::s,0,x,h1,h2=>by
    simp at h1 h2;subst h1 h2;simp[sy];omega
  |y::r,b::s,i+1,x,h1,h2=>by
    have:=AF r s i x (by simpa using h1) (by simpa using h2);simp only[List.set_cons_succ,sy];omega
def Good (ss:List bC):Prop:=∀x∈ss,∀j∈x.to,j<ss.length
def cg (ss:List bC) (st:Nat):List Nat:=if ss.length=0 then [] else closed ss [st]
def qL (x:bC) (b:Int):Bool:=decide (x.kind=2/\(b<0\/(x.rule:Int)<b))
def qM (ss:List bC):List Nat->Int->Int
  | [],b=>b
  |j::r,b=>qM ss r (match ss[j]? with|some x=>if qL x b then x.rule else b|none=>b)
def bn (ss:List bC) (now:List Nat):Int:=if ss.length=0 then -1 else qM ss now (-1)
def iY (x:bC) (c:UInt8):Bool:=decide (x.kind=1) && x.set.testBit c.toNat
def stepG (ss:List bC) (c:UInt8):List Nat->List Nat->List Nat
  | [],a=>a
  |j::r,a=>stepG ss c r (match ss[j]? with|some x=>if iY x c then a++x.to else a|none=>a)
def cz (ss:List bC) (c:UInt8) (now:List Nat):List Nat:=if ss.length=0 then [] else closed ss (stepG ss c now [])
theorem rm (ss:List bC) (c:UInt8):∀(l a:List Nat),a.length<=(stepG ss c l a).length
  | [],a=>Nat.le_refl _
  |j::r,a=>by
    rw[stepG];refine Nat.le_trans ?_ (rm ss c r _);split
    · split<;>simp
    · exact Nat.le_refl _
def jb (ss:List bC):List UInt8->List Nat->Nat->Int×Int->Int×Int
  |l,now,k,b =>
    if now.length=0 then b
    else match l with
      | []=>if 0<=bn ss now then ((k:Int),bn ss now) else b
      |c::r=>jb ss r (cz ss c now) (k+1) (if 0<=bn ss now then ((k:Int),bn ss now) else b)
def cV (ss:List bC) (st:Nat) (l:List UInt8):Int×Int:=if ss.length=0 then (0,-1) else jb ss l (cg ss st) 0 (0,-1)
def Ec (ss:List bC) (st:Nat) (s:By) (a:Int):Int×Int:=if ss.length=0\/a<0\/(s.length:Int)<a then (0,-1) else cV ss st (s.drop a.toNat)
theorem vD {ss:List bC}{l:List UInt8}{now:List Nat}{b:Int×Int}(h:now.length=0):jb ss l now k b=b:=by cases l<;>(rw[jb];exact if_pos h)
theorem DQ (ss:List bC) (st:Nat):(cg ss st).Sublist (List.range ss.length):=by
  unfold cg closed;split
  · exact List.nil_sublist _
  · split
    · exact List.nil_sublist _
    · exact List.filter_sublist
theorem Gh (ss:List bC) (c:UInt8) (now:List Nat):(cz ss c now).Sublist (List.range ss.length):=by
  unfold cz closed;split
  · exact List.nil_sublist _
  · split
    · exact List.nil_sublist _
    · exact List.filter_sublist
def kH:Nat->List By->List bC->List Nat->Int ⊕ (List bC×List Nat)
  |_,[],ss,t=>.inr (ss,t)
  |i,s::r,ss,t=>if (bN s).2≠0 then .inl (bN s).2 else kH (i+1) r (lay (bN s).1 (ss++[⟨2,0,[],i⟩]) ss.length).1 (t++[(lay (bN s).1 (ss++[⟨2,0,[],i⟩]) ss.length).2])
def yl (l:List By):Nat:=(l.map List.length).sum
def eR (rules:List By):Int ⊕ (List bC×Nat) :=
  if rules.length=0\/64<rules.length then .inl 2
  else match kH 0 rules [] [] with
    |.inl e=>.inl e
    |.inr (ss,t)=>if 2000<yl rules then .inl 70 else .inr (ss++[⟨0,0,t,0⟩],ss.length)
theorem qi {s:By}(h0:(bN s).2=0):nS (bN s).1<=401/\uz (bN s).1=true/\s.length<=200:=by
  unfold bN at *;split at h0
  · cases h0
  · rename_i hl;rw[if_neg hl];split at h0
    · rename_i x hx;have:=AH hx;exact⟨by show nS x<=401;omega,this.2,by omega⟩
    · cases h0
theorem yP {l:List By}{s:By}(hx:l[i]? =some s):yl (l.take (i+1))=yl (l.take i)+s.length:=by
  rw[List.take_add_one,hx,Option.toList_some];simp[yl]
inductive zO (A:By->Prop):By->Prop where
  |nil:zO A []
  |cons {u v:By}:A u->zO A v->zO A (u++v)
end
mutual
def Kl:Nd->By->Prop
  |.mk k s kids=>fun w =>
    if k=1 then ∃c:UInt8,w=[c]/\s.testBit c.toNat=true
    else if k=2 then xm kids w
    else if k=3 then rS kids w
    else if k=6 then w=[]\/pF kids w
    else if k=4 then zO (pF kids) w
    else if k=5 then ∃u v,w=u++v/\pF kids u/\zO (pF kids) v
    else w=[]
def xm:List Nd->By->Prop
  | []=>fun w=>w=[]
  |x::r=>fun w=>∃u v,w=u++v/\Kl x u/\xm r v
def rS:List Nd->By->Prop
  | []=>fun _=>False
  |x::r=>fun w=>Kl x w\/rS r w
def pF:List Nd->By->Prop
  | []=>fun w=>w=[]
  |x::_=>fun w=>Kl x w
end
section
variable {k i n to st:Nat}{fin:Nat->Prop}{todo:List Nat}
inductive Acc (F:List bC) (fin:Nat->Prop):Nat->Nat->By->Prop where
  |done {q:Nat}:fin q->Acc F fin 0 q []
  |eps {n q q':Nat}{x:bC}{w:By}:F[q]? =some x->x.kind=0->q'∈x.to->Acc F fin n q' w->Acc F fin (n+1) q w
  |eat {n q q':Nat}{x:bC}{c:UInt8}{w:By}:F[q]? =some x->x.kind=1->x.set.testBit c.toNat=true->q'∈x.to->Acc F fin n q' w->Acc F fin (n+1) q (c::w)
def kV (F:List bC) (fin:Nat->Prop):Prop:=∀q,fin q->∃x,F[q]? =some x/\x.kind=2
theorem Acc.fork {F:List bC}(hf:kV F fin){q:Nat}{x:bC}{w:By}(hx:F[q]? =some x) (hk:x.kind=0) (h:Acc F fin n q w):∃m q',m<n/\q'∈x.to/\Acc F fin m q' w:=by
  cases h with
  |done hq=>obtain⟨y,hy,hk2⟩:=hf _ hq;rw[hx] at hy;cases hy;omega
  |eps hy _ hq h=>rw[hx] at hy;cases hy;exact⟨_,_,Nat.lt_succ_self _,hq,h⟩
  |eat hy hk1 _ _ _=>rw[hx] at hy;cases hy;omega
theorem Acc.Sc {F:List bC}(hf:kV F fin){q:Nat}{x:bC}{w:By}(hx:F[q]? =some x) (hk:x.kind=1) (h:Acc F fin n q w):∃m q' c w',m<n/\w=c::w'/\x.set.testBit c.toNat=true/\q'∈x.to/\Acc F fin m q' w':=by
  cases h with
  |done hq=>obtain⟨y,hy,hk2⟩:=hf _ hq;rw[hx] at hy;cases hy;omega
  |eps hy hk1 _ _=>rw[hx] at hy;cases hy;omega
  |eat hy _ hc hq h=>rw[hx] at hy;cases hy;exact⟨_,_,_,_,Nat.lt_succ_self _,rfl,hc,hq,h⟩
def Splits (F:List bC) (fin:Nat->Prop) (b to:Nat) (A:By->Prop):Prop :=
  (∀n w,Acc F fin n b w->∃u v m,w=u++v/\A u/\m<=n/\Acc F fin m to v)/\(∀u v m,A u->Acc F fin m to v->∃n,Acc F fin n b (u++v))
def HC (F ss':List bC) (lo:Nat):Prop:=∀i,lo<=i->i<ss'.length->F[i]? =ss'[i]?
theorem oH {F:List bC}:Splits F fin to to (fun w=>w=[]) :=
  ⟨fun n w h=>⟨[],w,n,rfl,rfl,Nat.le_refl _,h⟩,fun u v m hu h=>⟨m,by subst hu;exact h⟩⟩
theorem BV {F:List bC}(hf:kV F fin){first again:Nat}{A:By->Prop}{x:bC}(hx:F[again]? =some x) (hk:x.kind=0) (ht:x.to=[first,to]) (h:Splits F fin first again A):Splits F fin again to (zO A):=by
  constructor
  · intro n
    induction n using Nat.strongRecOn with
    |_ n ih =>
      intro w hw;obtain⟨m,q',hm,hq,hw'⟩:=hw.fork hf hx hk;rw[ht] at hq
      rcases List.mem_cons.1 hq with rfl|hq
      · obtain⟨u1,v1,m1,rfl,hu1,hm1,hv1⟩:=h.1 _ _ hw';obtain⟨u2,v2,m2,rfl,hu2,hm2,hv2⟩:=ih m1 (by omega) _ hv1;exact⟨u1++u2,v2,m2,by simp,.cons hu1 hu2,by omega,hv2⟩
      · have:q'=to:=by simpa using hq
        subst this;exact⟨[],w,m,rfl,.nil,by omega,hw'⟩
  · intro u v m hu hv
    induction hu with
    |nil=>exact⟨m+1,.eps hx hk (by rw[ht];simp) hv⟩
    |cons hA _ ih =>
      obtain⟨n,hn⟩:=ih;obtain⟨n',hn'⟩:=h.2 _ _ _ hA hn;exact⟨n'+1,.eps (q':=first) hx hk (by rw[ht];simp) (by rw[List.append_assoc];exact hn')⟩
theorem uL {F:List bC}{b c:Nat}{A B:By->Prop}(h1:Splits F fin b c A) (h2:Splits F fin c to B):Splits F fin b to (fun w=>∃u v,w=u++v/\A u/\B v):=by
  constructor
  · intro n w hw;obtain⟨u1,v1,m1,rfl,hu1,hm1,hv1⟩:=h1.1 _ _ hw;obtain⟨u2,v2,m2,rfl,hu2,hm2,hv2⟩:=h2.1 _ _ hv1;exact⟨u1++u2,v2,m2,by simp,⟨_,_,rfl,hu1,hu2⟩,by omega,hv2⟩
  · rintro u v m ⟨u1,u2,rfl,hA,hB⟩ hv;obtain⟨n,hn⟩:=h2.2 _ _ _ hB hv;obtain⟨n',hn'⟩:=h1.2 _ _ _ hA hn;exact⟨n',by rw[List.append_assoc];exact hn'⟩
end
mutual
theorem lD {F:List bC}{fin:Nat->Prop}(hf:kV F fin):∀(x:Nd) (ss:List bC) (to:Nat),HC F (lay x ss to).1 ss.length->Splits F fin (lay x ss to).2 to (Kl x)
  |.mk k s kids,ss,to,hs=>by
    rw[lay] at hs ⊢;unfold Kl
    by_cases h1:k=1
    · simp only[if_pos h1] at hs ⊢;have hx:F[ss.length]? =some ⟨1,s,[to],0⟩:=by rw[hs _ (Nat.le_refl _) (by simp)];simp
      constructor
      · intro n w hw;obtain⟨m,q',c,w',hm,rfl,hc,hq,hw'⟩:=hw.Sc hf hx rfl;have:q'=to:=by simpa using hq
        subst this;exact⟨[c],w',m,rfl,⟨c,rfl,hc⟩,by omega,hw'⟩
      · rintro u v m ⟨c,rfl,hc⟩ hv;exact⟨m+1,.eat hx rfl hc (by simp) hv⟩
    · simp only[if_neg h1] at hs ⊢
      by_cases h2:k=2
      · simp only[if_pos h2] at hs ⊢;exact om hf kids ss to hs
      · simp only[if_neg h2] at hs ⊢
        by_cases h3:k=3
        · simp only[if_pos h3] at hs ⊢;have hl:=fh kids ss to;have hx:F[(aW kids ss to).1.length]? =some ⟨0,0,(aW kids ss to).2,0⟩:=by rw[hs _ (by omega) (by simp)];simp
          have ih:=oo hf kids ss to (fun i h1 h2=>by rw[hs i h1 (by simp;omega),List.getElem?_append_left h2]);constructor
          · intro n w hw;obtain⟨m,q',hm,hq,hw'⟩:=hw.fork hf hx rfl;obtain⟨u,v,m',hu⟩:=ih.1 _ _ _ hq hw';exact⟨u,v,m',hu.1,hu.2.1,by omega,hu.2.2.2⟩
          · intro u v m hu hv;obtain⟨n,q',hq,hn⟩:=ih.2 _ _ _ hu hv;exact⟨n+1,.eps hx rfl hq hn⟩
        · simp only[if_neg h3] at hs ⊢
          by_cases h6:k=6
          · simp only[if_pos h6] at hs ⊢;have hl:=fU kids ss to;have hx:F[(bZ kids ss to).1.length]? =some ⟨0,0,[(bZ kids ss to).2,to],0⟩:=by rw[hs _ (by omega) (by simp)];simp
            have ih:=oh hf kids ss to (fun i h1 h2=>by rw[hs i h1 (by simp;omega),List.getElem?_append_left h2]);constructor
            · intro n w hw;obtain⟨m,q',hm,hq,hw'⟩:=hw.fork hf hx rfl
              rcases List.mem_cons.1 hq with rfl|hq
              · obtain⟨u,v,m',h1,h2,h3,h4⟩:=ih.1 _ _ hw';exact⟨u,v,m',h1,.inr h2,by omega,h4⟩
              · have:q'=to:=by simpa using hq
                subst this;exact⟨[],w,m,rfl,.inl rfl,by omega,hw'⟩
            · rintro u v m (rfl|hu) hv
              · exact⟨m+1,.eps hx rfl (by simp) hv⟩
              · obtain⟨n,hn⟩:=ih.2 _ _ _ hu hv;exact⟨n+1,.eps hx rfl (by simp) hn⟩
          · simp only[if_neg h6] at hs ⊢
            by_cases h45:k=4\/k=5
            · simp only[if_pos h45] at hs ⊢;have hl:=fU kids (ss++[⟨0,0,[],0⟩]) ss.length;simp only[List.length_append,List.length_singleton] at hl
              have hx:F[ss.length]? =some ⟨0,0,[(bZ kids (ss++[⟨0,0,[],0⟩]) ss.length).2,to],0⟩:=by
                rw[hs _ (Nat.le_refl _) (by simp;omega)];simp[List.getElem?_set];omega
              have ih:=oh hf kids (ss++[⟨0,0,[],0⟩]) ss.length (fun i h1 h2=>by
                simp only[List.length_append,List.length_singleton] at h1;rw[hs i (by omega) (by simp;omega),List.getElem?_set_ne (by omega)])
              have hst:=BV hf hx rfl rfl ih
              by_cases h4:k=4
              · have h5:¬k=5:=by omega
                simp only[if_pos h4,if_neg h5];exact hst
              · have h5:k=5:=by omega
                simp only[if_neg h4,if_pos h5];exact uL ih hst
            · simp only[if_neg h45] at hs ⊢;have h4:¬k=4:=fun e=>h45 (.inl e)
              have h5:¬k=5:=fun e=>h45 (.inr e)
              simp only[if_neg h4,if_neg h5];exact oH
theorem om {F:List bC}{fin:Nat->Prop}(hf:kV F fin):∀(l:List Nd) (ss:List bC) (to:Nat),HC F (bA l ss to).1 ss.length->Splits F fin (bA l ss to).2 to (xm l)
  | [],ss,to,hs=>by
    rw[bA];unfold xm;exact oH
  |x::r,ss,to,hs=>by
    rw[bA] at hs ⊢;unfold xm;have hl:=jf r ss to;have hl2:=fJ x (bA r ss to).1 (bA r ss to).2;have h2:=om hf r ss to (fun i h1 h2=>by rw[hs i h1 (by omega),lE x _ _ i h2]);have h1:=lD hf x (bA r ss to).1 (bA r ss to).2 (fun i h1 h2=>hs i (by omega) h2);exact uL h1 h2
theorem oo {F:List bC}{fin:Nat->Prop}(hf:kV F fin):∀(l:List Nd) (ss:List bC) (to:Nat),HC F (aW l ss to).1 ss.length ->
    (∀n q w,q∈(aW l ss to).2->Acc F fin n q w->∃u v m,w=u++v/\rS l u/\m<=n/\Acc F fin m to v)/\(∀u v m,rS l u->Acc F fin m to v->∃n q,q∈(aW l ss to).2/\Acc F fin n q (u++v))
  | [],ss,to,hs=>by
    rw[aW];unfold rS;exact⟨fun n q w h=>absurd h List.not_mem_nil,fun u v m h=>False.elim h⟩
  |x::r,ss,to,hs=>by
    rw[aW] at hs ⊢;unfold rS;have hl:=fJ x ss to;have hl2:=fh r (lay x ss to).1 to;have h1:=lD hf x ss to (fun i h1 h2=>by rw[hs i h1 (by simp only;omega)];exact oQ r _ _ i h2);have h2:=oo hf r (lay x ss to).1 to (fun i h1 h2=>hs i (by omega) h2);constructor
    · intro n q w hq hw
      rcases List.mem_cons.1 hq with rfl|hq
      · obtain⟨u,v,m,a,b,c,d⟩:=h1.1 _ _ hw;exact⟨u,v,m,a,.inl b,c,d⟩
      · obtain⟨u,v,m,a,b,c,d⟩:=h2.1 _ _ _ hq hw;exact⟨u,v,m,a,.inr b,c,d⟩
    · rintro u v m (hu|hu) hv
      · obtain⟨n,hn⟩:=h1.2 _ _ _ hu hv;exact⟨n,_,List.mem_cons_self,hn⟩
      · obtain⟨n,q,hq,hn⟩:=h2.2 _ _ _ hu hv;exact⟨n,q,List.mem_cons_of_mem _ hq,hn⟩
theorem oh {F:List bC}{fin:Nat->Prop}(hf:kV F fin):∀(l:List Nd) (ss:List bC) (to:Nat),HC F (bZ l ss to).1 ss.length->Splits F fin (bZ l ss to).2 to (pF l)
  | [],ss,to,hs=>by
    rw[bZ];unfold pF;exact oH
  |x::r,ss,to,hs=>by
    rw[bZ] at hs ⊢;unfold pF;exact lD hf x ss to hs
end
section
variable {k i n to st:Nat}{fin:Nat->Prop}{todo:List Nat}
inductive Ka (ss:List bC):Nat->Nat->Prop where
  |refl (i:Nat):Ka ss i i
  |step {i j k:Nat}{x:bC}:ss[i]? =some x->x.kind=0->j∈x.to->Ka ss j k->Ka ss i k
theorem Ka.snoc {ss:List bC}{j:Nat}{x:bC}(h:Ka ss i j) (hx:ss[j]? =some x) (hk:x.kind=0) (ht:k∈x.to):Ka ss i k:=by
  induction h with
  |refl=>exact .step hx hk ht (.refl _)
  |step a b c _ ih=>exact .step a b c (ih hx)
structure Kb (ss:List bC) (T todo:List Nat) (seen:List Bool):Prop where
  len:seen.length=ss.length
  inn:∀j∈todo,j<ss.length
  sound:∀i,(seen[i]? =some true\/i∈todo)->∃t∈T,Ka ss t i
  cl:∀(i:Nat) (x:bC),seen[i]? =some true->ss[i]? =some x->x.kind=0->∀j∈x.to,seen[j]? =some true\/j∈todo
  all:∀t∈T,seen[t]? =some true\/t∈todo
theorem Ek {l:List Nat}(h:l.getLast? =some i):l=l.dropLast++[i]:=by
  obtain⟨h0,rfl⟩:=List.getLast?_eq_some_iff.1 h;simp
theorem rK {ss:List bC}{T:List Nat}(hg:Good ss):∀(n:Nat) (todo:List Nat) (seen:List Bool),todo.length+sy ss seen<=n->Kb ss T todo seen->Kb ss T [] (iD ss n todo seen)
  | 0,todo,seen,hn,k=>by
    have:todo=[]:=List.length_eq_zero_iff.1 (by omega);subst this;exact k
  |n+1,todo,seen,hn,k=>by
    unfold iD;split
    · rename_i h;have:todo=[]:=List.getLast?_eq_none_iff.1 h;subst this;exact k
    · rename_i i h;have hsp:=Ek h;have hlen:todo.length=todo.dropLast.length+1:=by rw[hsp];simp
      have hi:i∈todo:=by rw[hsp];simp
      have hmem:∀j,j∈todo->j∈todo.dropLast\/j=i:=fun j hj=>by rw[hsp] at hj;simpa using hj
      have hsub:∀j,j∈todo.dropLast->j∈todo:=fun j hj=>by rw[hsp];simp[hj]
      split
      · rename_i hs;refine rK hg n _ _ (by omega) ⟨k.len,fun j hj=>k.inn j (hsub j hj),fun j hj=>k.sound j (hj.imp id (hsub j)),fun j x a b c d e=>?_,fun t ht=>?_⟩
        · rcases k.cl j x a b c d e with h1|h1
          · exact .inl h1
          · rcases hmem d h1 with h2|rfl
            · exact .inr h2
            · exact .inl hs
        · rcases k.all t ht with h1|h1
          · exact .inl h1
          · rcases hmem t h1 with h2|rfl
            · exact .inr h2
            · exact .inl hs
      · rename_i hs;have hil:=k.inn i hi;obtain⟨x,hx⟩:∃x,ss[i]? =some x:=⟨_,List.getElem?_eq_getElem hil⟩
        have hf:seen[i]? =some false:=by
          obtain⟨b,hb⟩:∃b,seen[i]? =some b:=⟨_,List.getElem?_eq_getElem (by rw[k.len];exact hil)⟩
          cases b
          · exact hb
          · exact absurd hb hs
        have hp:=AF ss seen i x hx hf;have hself:(seen.set i true)[i]? =some true:=by rw[List.getElem?_set_self (by rw[k.len];exact hil)]
        have hset:∀j,seen[j]? =some true->(seen.set i true)[j]? =some true:=fun j hj=>by
          by_cases e:i=j
          · subst e;exact hself
          · rw[List.getElem?_set_ne e];exact hj
        have hget:∀j,(seen.set i true)[j]? =some true->j=i\/seen[j]? =some true:=fun j hj=>by
          by_cases e:i=j
          · exact .inl e.symm
          · rw[List.getElem?_set_ne e] at hj;exact .inr hj
        rw[hx];simp only;obtain⟨t0,Ov,he0⟩:=k.sound i (.inr hi);have hxm:x∈ss:=List.mem_of_getElem? hx;generalize hnew:(if x.kind=0 then todo.dropLast++x.to else todo.dropLast)=new
        have hin:∀j,j∈new->j∈todo.dropLast\/(x.kind=0/\j∈x.to):=fun j hj=>by
          subst hnew;split at hj
          · rename_i hk
            rcases List.mem_append.1 hj with h1|h1
            · exact .inl h1
            · exact .inr ⟨hk,h1⟩
          · exact .inl hj
        have hold:∀j,j∈todo.dropLast->j∈new:=fun j hj=>by
          subst hnew;split
          · exact List.mem_append_left _ hj
          · exact hj
        have hbig:new.length<=todo.dropLast.length+x.to.length:=by
          subst hnew;split<;>simp
        refine rK hg n _ _ (by omega) ⟨by rw[List.length_set];exact k.len,fun j hj=>?_,fun j hj=>?_,fun j y a b c d e=>?_,fun t ht=>?_⟩
        · rcases hin j hj with h1|⟨_,h1⟩
          · exact k.inn j (hsub j h1)
          · exact hg x hxm j h1
        · rcases hj with h1|h1
          · rcases hget j h1 with rfl|h2
            · exact⟨t0,Ov,he0⟩
            · exact k.sound j (.inl h2)
          · rcases hin j h1 with h2|⟨hk,h2⟩
            · exact k.sound j (.inr (hsub j h2))
            · exact⟨t0,Ov,he0.snoc hx hk h2⟩
        · rcases hget j a with rfl|a
          · rw[hx] at b;cases b;refine .inr ?_;rw[if_pos c] at hnew;subst hnew;exact List.mem_append_right _ e
          · rcases k.cl j y a b c d e with h1|h1
            · exact .inl (hset d h1)
            · rcases hmem d h1 with h2|rfl
              · exact .inr (hold d h2)
              · exact .inl hself
        · rcases k.all t ht with h1|h1
          · exact .inl (hset t h1)
          · rcases hmem t h1 with h2|rfl
            · exact .inr (hold t h2)
            · exact .inl hself
theorem pq {ss:List bC}(hg:Good ss) (ht:∀j∈todo,j<ss.length) (j:Nat):j∈closed ss todo↔∃x,ss[j]? =some x/\x.kind≠0/\∃t∈todo,Ka ss t j:=by
  unfold closed;split
  · rename_i h;have:todo=[]:=List.length_eq_zero_iff.1 h;subst this;simp
  · have h0:∀i:Nat,(List.replicate ss.length false)[i]? ≠some true:=fun i hi=>by rw[List.getElem?_replicate] at hi;split at hi<;>cases hi
    have hi0:Kb ss todo todo (List.replicate ss.length false):=⟨by simp,ht,fun i hi=>hi.elim (fun hi=>absurd hi (h0 i)) fun hi=>⟨i,hi,.refl i⟩,fun i x hi=>absurd hi (h0 i),fun t h=>.inr h⟩
    have hi:=rK hg (todo.length+sy ss (List.replicate ss.length false)) todo _ (Nat.le_refl _) hi0;generalize iD ss (todo.length+sy ss (List.replicate ss.length false)) todo (List.replicate ss.length false)=out at hi;simp only[List.mem_filter,List.mem_range,Bool.and_eq_true,bne_iff_ne,ne_eq];constructor
    · rintro⟨hj,h1,h2⟩;obtain⟨x,hx⟩:∃x,ss[j]? =some x:=⟨_,List.getElem?_eq_getElem hj⟩
      rw[hx] at h2;have h1:out[j]? =some true:=by simpa using h1
      exact⟨x,hx,by simpa using h2,hi.sound j (.inl h1)⟩
    · rintro⟨x,hx,hk,t,ht',he⟩
      have key:∀a b,Ka ss a b->out[a]? =some true->out[b]? =some true:=by
        intro a b he
        induction he with
        |refl=>exact id
        |step hy hk hm _ ih =>
          intro ha;refine ih ?_
          rcases hi.cl _ _ ha hy hk _ hm with h1|h1
          · exact h1
          · cases h1
      have h1:=key _ _ he (by
        rcases hi.all t ht' with h1|h1
        · exact h1
        · cases h1)
      refine⟨(List.getElem?_eq_some_iff.1 hx).1,by rw[h1];rfl,by rw[hx];simpa using hk⟩
theorem Acc.through {ss:List bC}{j:Nat}(h:Ka ss i j){w:By}(k:Acc ss fin n j w):∃m,Acc ss fin m i w:=by
  induction h with
  |refl=>exact⟨n,k⟩
  |step a b c _ ih=>obtain⟨m,hm⟩:=ih k;exact⟨m+1,.eps a b c hm⟩
theorem Acc.stop {ss:List bC}(hf:kV ss fin){w:By}(k:Acc ss fin n i w):∃j x,Ka ss i j/\ss[j]? =some x/\x.kind≠0/\∃m,Acc ss fin m j w:=by
  induction k with
  |done hq=>obtain⟨x,hx,hk⟩:=hf _ hq;exact⟨_,x,.refl _,hx,by omega,_,.done hq⟩
  |eps a b c _ ih=>obtain⟨j,x,he,hr⟩:=ih;exact⟨j,x,.step a b c he,hr⟩
  |eat a b c d e _=>exact⟨_,_,.refl _,a,by omega,_,.eat a b c d e⟩
def yM (ss:List bC) (fin:Nat->Prop) (T:List Nat) (w:By):Prop:=∃j∈T,∃n,Acc ss fin n j w
theorem wF {ss:List bC}(hf:kV ss fin) (hg:Good ss) (ht:∀j∈todo,j<ss.length) (w:By):yM ss fin (closed ss todo) w↔yM ss fin todo w:=by
  constructor
  · rintro⟨j,hj,n,h⟩;obtain⟨x,hx,hk,t,ht',he⟩:=(pq hg ht j).1 hj;exact⟨t,ht',h.through he⟩
  · rintro⟨t,ht',n,h⟩;obtain⟨j,x,he,hx,hk,hm⟩:=h.stop hf;exact⟨j,(pq hg ht j).2 ⟨x,hx,hk,t,ht',he⟩,hm⟩
theorem nH (ss:List bC) (c:UInt8) (k:Nat):∀(l a:List Nat),k∈stepG ss c l a↔k∈a\/∃j∈l,∃x,ss[j]? =some x/\iY x c=true/\k∈x.to
  | [],a=>by simp[stepG]
  |j::r,a=>by
    rw[stepG,nH ss c k r];cases hx:ss[j]? with
    |none=>simp[hx]
    |some x =>
      simp only;cases ho:iY x c with
      |true=>simp[hx,ho,or_assoc]
      |false=>simp[hx,ho]
def Flat (ss:List bC) (T:List Nat):Prop:=∀j∈T,∃x,ss[j]? =some x/\x.kind≠0
theorem ng {ss:List bC}(hg:Good ss) (ht:∀j∈todo,j<ss.length):Flat ss (closed ss todo):=fun j hj=>by
  obtain⟨x,hx,hk,_⟩:=(pq hg ht j).1 hj;exact⟨x,hx,hk⟩
theorem BP {ss:List bC}(hg:Good ss) (c:UInt8) (T:List Nat):∀j∈stepG ss c T [],j<ss.length:=fun j hj=>by
  rcases (nH ss c j T []).1 hj with h|⟨i,_,x,hx,_,hm⟩
  · cases h
  · exact hg x (List.mem_of_getElem? hx) j hm
theorem uK {ss:List bC}(hg:Good ss) (c:UInt8) (T:List Nat):Flat ss (cz ss c T):=by
  unfold cz;split
  · intro j hj;cases hj
  · exact ng hg (BP hg c T)
theorem Gk {ss:List bC}(hf:kV ss fin) (hg:Good ss){T:List Nat}(hT:Flat ss T) (c:UInt8) (w:By):yM ss fin (cz ss c T) w↔yM ss fin T (c::w):=by
  unfold cz;split
  · rename_i h0;constructor
    · rintro⟨j,hj,_⟩;cases hj
    · rintro⟨j,hj,_⟩;obtain⟨x,hx,_⟩:=hT j hj;have:=(List.getElem?_eq_some_iff.1 hx).1;omega
  · rw[wF hf hg (BP hg c T)];constructor
    · rintro⟨k,hk,n,h⟩
      rcases (nH ss c k T []).1 hk with h1|⟨j,hj,x,hx,ho,hm⟩
      · cases h1
      · simp only[iY,Bool.and_eq_true,decide_eq_true_eq] at ho;exact⟨j,hj,n+1,.eat hx ho.1 ho.2 hm h⟩
    · rintro⟨j,hj,n,h⟩;obtain⟨x,hx,hk⟩:=hT j hj;cases h with
      |eps hy hk0 _ _=>rw[hx] at hy;cases hy;exact absurd hk0 hk
      |eat hy hk1 hc hm h=>exact⟨_,(nH ss c _ T []).2 (.inr ⟨j,hj,_,hy,by simp[iY,hk1,hc],hm⟩),_,h⟩
def mq (ss:List bC) (r:Nat) (q:Nat):Prop:=∃x,ss[q]? =some x/\x.kind=2/\x.rule=r
theorem tM (ss:List bC) (r:Nat):kV ss (mq ss r):=fun _ ⟨x,hx,hk,_⟩=>⟨x,hx,hk⟩
theorem J2 {ss:List bC}{r:Nat}{T:List Nat}(hT:Flat ss T):yM ss (mq ss r) T []↔∃j∈T,mq ss r j:=by
  constructor
  · rintro⟨j,hj,n,h⟩;obtain⟨x,hx,hk⟩:=hT j hj;cases h with
    |done hq=>exact⟨j,hj,hq⟩
    |eps hy hk0 _ _=>rw[hx] at hy;cases hy;exact absurd hk0 hk
  · rintro⟨j,hj,hq⟩;exact⟨j,hj,0,.done hq⟩
def nD (p:Nat->Prop) (r:Int):Prop:=(r= -1/\∀i,¬p i)\/∃n:Nat,r=n/\p n/\∀i,p i->n<=i
theorem wY (ss:List bC):∀(l:List Nat) (b:Int) (p:Nat->Prop),nD p b->nD (fun r=>p r\/∃j∈l,mq ss r j) (qM ss l b)
  | [],b,p,h=>by
    rw[qM]
    rcases h with ⟨rfl,h1⟩|⟨n,rfl,h1,h2⟩
    · exact .inl ⟨rfl,fun i h=>by rcases h with h|⟨_,h,_⟩;exact h1 i h;cases h⟩
    · exact .inr ⟨n,rfl,.inl h1,fun i h=>by rcases h with h|⟨_,h,_⟩;exact h2 i h;cases h⟩
  |j::l,b,p,h=>by
    rw[qM]
    have key:∀b',nD (fun r=>p r\/mq ss r j) b'->nD (fun r=>p r\/∃k∈j::l,mq ss r k) (qM ss l b'):=fun b' hb'=>by
      have:=wY ss l b' _ hb'
      have e:(fun r=>(p r\/mq ss r j)\/∃k∈l,mq ss r k)=(fun r=>p r\/∃k∈j::l,mq ss r k):=by
        funext r;simp[or_assoc]
      rwa [e] at this
    have no:(∀r,¬mq ss r j)->nD (fun r=>p r\/mq ss r j) b:=fun hno=>by
      have e:(fun r=>p r\/mq ss r j)=p:=by funext r;simp[hno r]
      rw[e];exact h
    cases hx:ss[j]? with
    |none=>exact key b (no fun r ⟨x,hx',_⟩=>by rw[hx] at hx';cases hx')
    |some x =>
      simp only
      by_cases hk:x.kind=2
      · have hfin:∀r,mq ss r j↔x.rule=r:=fun r=>⟨fun⟨y,hy,_,hr⟩=>by rw[hx] at hy;cases hy;exact hr,fun hr=>⟨x,hx,hk,hr⟩⟩
        by_cases hb:qL x b=true
        · rw[if_pos hb];refine key _ (.inr ⟨x.rule,rfl,.inr ((hfin _).2 rfl),fun i hi=>?_⟩);simp only[qL,decide_eq_true_eq] at hb
          rcases hi with hi|hi
          · rcases h with ⟨rfl,h1⟩|⟨n,rfl,h1,h2⟩
            · exact absurd hi (h1 i)
            · have:=h2 i hi;omega
          · rw[(hfin i).1 hi];exact Nat.le_refl _
        · rw[if_neg hb];refine key _ ?_;simp only[qL,decide_eq_true_eq] at hb
          rcases h with ⟨rfl,h1⟩|⟨n,rfl,h1,h2⟩
          · exact absurd ⟨hk,.inl (by decide)⟩ hb
          · refine .inr ⟨n,rfl,.inl h1,fun i hi=>?_⟩
            rcases hi with hi|hi
            · exact h2 i hi
            · have:=(hfin i).1 hi;omega
      · rw[if_neg (by simp[qL,hk])];exact key b (no fun r ⟨y,hy,hk2,_⟩=>by rw[hx] at hy;cases hy;exact hk hk2)
def jG (ss:List bC) (st:Nat) (w:By):List Nat:=w.foldl (fun T c=>cz ss c T) (cg ss st)
theorem Gs {ss:List bC}(hg:Good ss) (hst:st<ss.length) (w:By):Flat ss (jG ss st w):=by
  have h0:Flat ss (cg ss st):=by
    unfold cg;split
    · intro j hj;cases hj
    · exact ng hg (fun j hj=>by simp at hj;omega)
  unfold jG;generalize cg ss st=T at h0
  induction w generalizing T with
  |nil=>exact h0
  |cons c w ih=>exact ih _ (uK hg c T)
theorem Ir {ss:List bC}(hf:kV ss fin) (hg:Good ss) (hst:st<ss.length) (w v:By):yM ss fin (jG ss st w) v↔∃n,Acc ss fin n st (w++v):=by
  have h0:Flat ss (cg ss st)/\∀v,yM ss fin (cg ss st) v↔∃n,Acc ss fin n st v:=by
    unfold cg;rw[if_neg (by omega)];have ht:∀j∈[st],j<ss.length:=fun j hj=>by simp at hj;omega
    refine⟨ng hg ht,fun v=>?_⟩;rw[wF hf hg ht];simp[yM]
  unfold jG
  have key:∀(w:By) (T:List Nat),Flat ss T->(yM ss fin (w.foldl (fun T c=>cz ss c T) T) v↔yM ss fin T (w++v)):=by
    intro w
    induction w with
    |nil=>intro T _;rfl
    |cons c w ih =>
      intro T hT;rw[List.foldl_cons,ih _ (uK hg c T),Gk hf hg hT];rfl
  rw[key w _ h0.1,h0.2]
theorem yJ {ss:List bC}(hg:Good ss) (hst:st<ss.length) (w:By):nD (fun r=>∃n,Acc ss (mq ss r) n st w) (bn ss (jG ss st w)):=by
  unfold bn;rw[if_neg (by omega)];have h:=wY ss (jG ss st w) (-1) (fun _=>False) (.inl ⟨rfl,fun _ h=>h⟩)
  have e:(fun r=>False\/∃j∈jG ss st w,mq ss r j)=(fun r=>∃n,Acc ss (mq ss r) n st w):=by
    funext r
    have:=Ir (tM ss r) hg hst w [];rw[J2 (Gs hg hst w),List.append_nil] at this;simpa using this
  rw[e] at h;exact h
def eW (ss:List bC):Nat:=(ss.map fun x=>x.to.length+1).sum
theorem gk (a b:List bC):eW (a++b)=eW a+eW b:=by simp[eW]
theorem BD:∀(ss:List bC) (i:Nat) (y x:bC),ss[i]? =some y->eW (ss.set i x)+y.to.length=eW ss+x.to.length
  | [],i,y,x,h=>by simp at h
  |z::r,0,y,x,h=>by simp at h;subst h;simp[eW];omega
  |z::r,i+1,y,x,h=>by have:=BD r i y x (by simpa using h);simp[eW] at *;omega
theorem ID:∀(ss:List bC) (seen:List Bool),sy ss seen<=eW ss
  | [],_=>by simp[sy]
  |x::r,[]=>by simp[sy]
  |x::r,b::s=>by
    have:=ID r s;simp only[sy,eW,List.map_cons,List.sum_cons] at *;split<;>omega
end
mutual
theorem tK:∀(x:Nd) (ss:List bC) (to:Nat),eW (lay x ss to).1+1<=eW ss+4*nS x
  |.mk k s kids,ss,to=>by
    rw[lay];simp only[nS];split
    · rw[gk];simp[eW];omega
    · split
      · have:=vM kids ss to;omega
      · split
        · have:=vO kids ss to;have hl:=mQ kids ss to;simp only[gk];simp[eW] at *;omega
        · split
          · have:=vL kids ss to;simp only[gk];simp[eW] at *;omega
          · split
            · have:=vL kids (ss++[⟨0,0,[],0⟩]) ss.length;have h2:=BD (bZ kids (ss++[⟨0,0,[],0⟩]) ss.length).1 ss.length ⟨0,0,[],0⟩ ⟨0,0,[(bZ kids (ss++[⟨0,0,[],0⟩]) ss.length).2,to],0⟩ (by rw[oP kids _ _ _ (by simp)];simp);rw[gk] at this;simp[eW] at *;omega
            · simp;omega
theorem vM:∀(l:List Nd) (ss:List bC) (to:Nat),eW (bA l ss to).1<=eW ss+4*gu l
  | [],ss,to=>by simp[bA]
  |x::r,ss,to=>by
    rw[bA];have h1:=vM r ss to;have h2:=tK x (bA r ss to).1 (bA r ss to).2;simp only[gu];omega
theorem vO:∀(l:List Nd) (ss:List bC) (to:Nat),eW (aW l ss to).1+l.length<=eW ss+4*gu l
  | [],ss,to=>by simp[aW]
  |x::r,ss,to=>by
    rw[aW];have h1:=tK x ss to;have h2:=vO r (lay x ss to).1 to;simp only[gu,List.length_cons];omega
theorem vL:∀(l:List Nd) (ss:List bC) (to:Nat),eW (bZ l ss to).1<=eW ss+4*gu l
  | [],ss,to=>by simp[bZ]
  |x::r,ss,to=>by
    rw[bZ];have h1:=tK x ss to;simp only[gu];omega
end
section
variable {k i n to st:Nat}{fin:Nat->Prop}{todo:List Nat}
theorem Good.append {a b:List bC}(ha:Good a) (hb:∀x∈b,∀j∈x.to,j<(a++b).length):Good (a++b):=fun x hx j hj=>by
  rcases List.mem_append.1 hx with h|h
  · have:=ha x h j hj;simp;omega
  · exact hb x h j hj
theorem Good.set {a:List bC}(ha:Good a){i:Nat}{y:bC}(hy:∀j∈y.to,j<a.length):Good (a.set i y):=fun x hx j hj=>by
  rw[List.length_set]
  rcases List.mem_or_eq_of_mem_set hx with h|rfl
  · exact ha x h j hj
  · exact hy j hj
end
mutual
theorem qq:∀(x:Nd) (ss:List bC) (to:Nat),Good ss->to<ss.length->Good (lay x ss to).1/\(lay x ss to).2<(lay x ss to).1.length
  |.mk k s kids,ss,to,hg,ht=>by
    rw[lay];split
    · exact⟨hg.append (by intro x hx j hj;simp at hx;subst hx;simp at hj;subst hj;simp;omega),by simp⟩
    · split
      · exact sF kids ss to hg ht
      · split
        · have h:=sI kids ss to hg ht;exact⟨h.1.append (by intro x hx j hj;simp at hx;subst hx;have:=h.2 j hj;simp;omega),by simp⟩
        · split
          · have h:=sE kids ss to hg ht;have hl:=fU kids ss to;exact⟨h.1.append (by intro x hx j hj;simp at hx;subst hx;simp at hj;simp;rcases hj with rfl|rfl<;>omega),by simp⟩
          · split
            · have h:=sE kids (ss++[⟨0,0,[],0⟩]) ss.length (hg.append (by intro x hx j hj;simp at hx;subst hx;cases hj)) (by simp);have hl:=fU kids (ss++[⟨0,0,[],0⟩]) ss.length;simp only[List.length_append,List.length_singleton] at hl;refine⟨h.1.set (by intro j hj;simp at hj;rcases hj with rfl|rfl;exact h.2;omega),?_⟩;simp only[List.length_set];split
              · exact h.2
              · omega
            · exact⟨hg,ht⟩
theorem sF:∀(l:List Nd) (ss:List bC) (to:Nat),Good ss->to<ss.length->Good (bA l ss to).1/\(bA l ss to).2<(bA l ss to).1.length
  | [],ss,to,hg,ht=>by rw[bA];exact⟨hg,ht⟩
  |x::r,ss,to,hg,ht=>by
    rw[bA];have h1:=sF r ss to hg ht;exact qq x _ _ h1.1 h1.2
theorem sI:∀(l:List Nd) (ss:List bC) (to:Nat),Good ss->to<ss.length->Good (aW l ss to).1/\∀j∈(aW l ss to).2,j<(aW l ss to).1.length
  | [],ss,to,hg,ht=>by rw[aW];exact⟨hg,fun j hj=>by cases hj⟩
  |x::r,ss,to,hg,ht=>by
    rw[aW];have h1:=qq x ss to hg ht;have hl:=fJ x ss to;have h2:=sI r (lay x ss to).1 to h1.1 (by omega);have hl2:=fh r (lay x ss to).1 to;refine⟨h2.1,fun j hj=>?_⟩
    rcases List.mem_cons.1 hj with rfl|hj
    · simp only;omega
    · exact h2.2 j hj
theorem sE:∀(l:List Nd) (ss:List bC) (to:Nat),Good ss->to<ss.length->Good (bZ l ss to).1/\(bZ l ss to).2<(bZ l ss to).1.length
  | [],ss,to,hg,ht=>by rw[bZ];exact⟨hg,ht⟩
  |x::r,ss,to,hg,ht=>by rw[bZ];exact qq x ss to hg ht
end
section
variable {k i n to st:Nat}{fin:Nat->Prop}{todo:List Nat}
structure Q2 (i:Nat) (rules:List By) (ss:List bC) (t:List Nat) (ss':List bC) (t':List Nat):Prop where
  pre:∀j,j<ss.length->ss'[j]? =ss[j]?
  len:ss.length<=ss'.length/\ss'.length<=ss.length+402*rules.length
  tot:eW ss'<=eW ss+1605*rules.length
  good:Good ss->(∀j∈t,j<ss.length)->Good ss'/\∀j∈t',j<ss'.length
  starts:∃t2,t'=t++t2/\t2.length=rules.length/\∀k s,rules[k]? =some s->(bN s).2=0/\∃a b,t2[k]? =some b/\ss.length<=a/\ss'[a]? =some ⟨2,0,[],i+k⟩/\∀F fin,HC F ss' ss.length->kV F fin->Splits F fin b a (Kl (bN s).1)
theorem vE:∀(rules:List By) (i:Nat) (ss:List bC) (t:List Nat) (ss':List bC) (t':List Nat),kH i rules ss t= .inr (ss',t')->Q2 i rules ss t ss' t'
  | [],i,ss,t,ss',t',h=>by
    rw[kH] at h;cases h;exact⟨fun _ _=>rfl,by simp,by simp,fun a b=>⟨a,b⟩,[],by simp,rfl,fun k s h=>by simp at h⟩
  |s::r,i,ss,t,ss',t',h=>by
    rw[kH] at h;split at h
    · cases h
    · rename_i he;have he:(bN s).2=0:=by simpa using he
      have hsm:=qi he;have ih:=vE r _ _ _ _ _ h;have hpre:=lE (bN s).1 (ss++[⟨2,0,[],i⟩]) ss.length;have hlen:=fJ (bN s).1 (ss++[⟨2,0,[],i⟩]) ss.length;have htot:=tK (bN s).1 (ss++[⟨2,0,[],i⟩]) ss.length;simp only[List.length_append,List.length_singleton,gk] at hpre hlen htot;have hL:eW [(⟨2,0,[],i⟩:bC)]=1:=by simp[eW]
      generalize hly:lay (bN s).1 (ss++[⟨2,0,[],i⟩]) ss.length=ly at *;obtain⟨t2,KX,htl,hst⟩:=ih.starts;refine⟨fun j hj=>?_,⟨?_,?_⟩,?_,fun hg ht=>?_,ly.2::t2,by simp[KX],by simp[htl],fun k s' hk=>?_⟩
      · rw[ih.pre j (by omega),hpre j (by omega),List.getElem?_append_left hj]
      · have:=ih.len.1;omega
      · have:=ih.len.2;simp only[List.length_cons];omega
      · have:=ih.tot;simp only[List.length_cons];omega
      · have hgl:=qq (bN s).1 (ss++[⟨2,0,[],i⟩]) ss.length (hg.append (by intro x hx j hj;simp at hx;subst hx;cases hj)) (by simp);rw[hly] at hgl
        exact ih.good hgl.1 (fun j hj=>by
          rcases List.mem_append.1 hj with h1|h1
          · have:=ht j h1;omega
          · have:j=ly.2:=by simpa using h1
            rw[this];exact hgl.2)
      · cases k with
        |zero =>
          simp at hk;subst hk;refine⟨he,ss.length,ly.2,rfl,Nat.le_refl _,?_,fun F fin hS hF=>?_⟩
          · rw[ih.pre _ (by omega),hpre _ (by omega)];simp
          · have:=lD hF (bN s).1 (ss++[⟨2,0,[],i⟩]) ss.length (fun j h1 h2=>by
              rw[hly] at h2 ⊢;simp only[List.length_append,List.length_singleton] at h1;rw[hS j (by omega) (by have:=ih.len.1;omega)];exact ih.pre j h2)
            rwa [hly] at this
        |succ k =>
          obtain⟨h0,a,b,hb,hla,ha,hsp⟩:=hst k s' (by simpa using hk);exact⟨h0,a,b,by simpa using hb,by omega,by rw[ha];simp;omega,fun F fin hS hF=>hsp F fin (fun j h1 h2=>hS j (by omega) h2) hF⟩
structure Made (rules:List By) (ss:List bC) (st:Nat):Prop where
  good:Good ss
  stl:st<ss.length
  len:ss.length<=30000
  tot:eW ss<=110000
  num:rules.length<=64
  lng:∀r w,(∃n,Acc ss (mq ss r) n st w)↔∃s,rules[r]? =some s/\Kl (bN s).1 w
theorem fe {rules:List By}{ss:List bC}(h:eR rules= .inr (ss,st)):Made rules ss st:=by
  unfold eR at h;split at h
  · cases h
  · rename_i hn;split at h
    · cases h
    · rename_i ss0 t hm;split at h
      · cases h
      · cases h;have k:=vE _ _ _ _ _ _ hm;obtain⟨t2,KX,htl,hst⟩:=k.starts;have ht:t=t2:=by simpa using KX
        subst ht;have hl:=k.len.2;have htot:=k.tot;have hgd:=k.good (by intro x hx;cases hx) (by intro j hj;cases hj);simp only[List.length_nil] at hl;have h0:eW ([]:List bC)=0:=rfl;have hF:(ss0++[⟨0,0,t,0⟩])[ss0.length]? =some ⟨0,0,t,0⟩:=by simp
        have hS:HC (ss0++[⟨0,0,t,0⟩]) ss0 ([]:List bC).length:=fun i _ h2=>List.getElem?_append_left h2
        refine⟨hgd.1.append (by intro x hx j hj;simp at hx;subst hx;have:=hgd.2 j hj;simp;omega),by simp,by simp;omega,?_,by omega,fun r w=>?_⟩
        · have hq:eW [(⟨0,0,t,0⟩:bC)]=t.length+1:=by simp[eW]
          rw[gk,hq];omega
        · constructor
          · rintro⟨n,hw⟩;obtain⟨m,q',_,hq,hw'⟩:=hw.fork (tM _ r) hF rfl;obtain⟨k',hk'⟩:=List.getElem?_of_mem hq;have hkl:k'<t.length:=(List.getElem?_eq_some_iff.1 hk').1;obtain⟨s,hs⟩:∃s,rules[k']? =some s:=⟨_,List.getElem?_eq_getElem (by omega)⟩
            obtain⟨_,a,b,hb,_,ha,hsp⟩:=hst k' s hs;rw[hk'] at hb;cases hb;obtain⟨u,v,m',rfl,hu,_,hv⟩:=(hsp _ _ hS (tM _ r)).1 _ _ hw';have ha':(ss0++[(⟨0,0,t,0⟩:bC)])[a]? =some ⟨2,0,[],0+k'⟩:=by rw[hS a (Nat.zero_le _) (List.getElem?_eq_some_iff.1 ha).1,ha]
            cases hv with
            |done hfin =>
              obtain⟨x,hx,_,hr⟩:=hfin;rw[ha'] at hx;cases hx;simp only[Nat.zero_add] at hr;subst hr;exact⟨s,hs,by rw[List.append_nil];exact hu⟩
            |eps hx hk _ _=>rw[ha'] at hx;cases hx;cases hk
            |eat hx hk _ _ _=>rw[ha'] at hx;cases hx;cases hk
          · rintro⟨s,hs,hw⟩;obtain⟨_,a,b,hb,_,ha,hsp⟩:=hst r s hs;have ha':(ss0++[(⟨0,0,t,0⟩:bC)])[a]? =some ⟨2,0,[],0+r⟩:=by rw[hS a (Nat.zero_le _) (List.getElem?_eq_some_iff.1 ha).1,ha]
            obtain⟨n,hn⟩:=(hsp _ _ hS (tM _ r)).2 w [] 0 hw (.done ⟨_,ha',rfl,by simp⟩);rw[List.append_nil] at hn;exact⟨n+1,.eps (q':=b) hF rfl (show b∈t from List.mem_of_getElem? hb) hn⟩
theorem Ah {f:Nat->Nat}:∀{a b:List Nat},a.Sublist b->(a.map f).sum<=(b.map f).sum
  |_,_,.slnil=>by simp
  |_,_,.cons _ h=>by have:=Ah (f:=f) h;simp;omega
  |_,_,.cons_cons _ h=>by have:=Ah (f:=f) h;simp;omega
theorem Fw:∀ss:List bC,(ss.map fun x=>x.to.length).sum<=eW ss
  | []=>by simp[eW]
  |x::r=>by have:=Fw r;simp[eW] at *;omega
theorem GA (ss:List bC):((List.range ss.length).map fun i=>match ss[i]? with|some x=>x.to.length|none=>0).sum<=eW ss:=by
  have:((List.range ss.length).map fun i=>match ss[i]? with|some x=>x.to.length|none=>0)=ss.map fun x=>x.to.length:=by
    apply List.ext_getElem
    · simp
    · intro i h1 h2;simp at h2;simp[h2]
  rw[this];exact Fw ss
theorem yW (ss:List bC) (c:UInt8):∀(l a:List Nat),(stepG ss c l a).length<=a.length+(l.map fun i=>match ss[i]? with|some x=>x.to.length|none=>0).sum
  | [],a=>by simp[stepG]
  |j::r,a=>by
    rw[stepG];refine Nat.le_trans (yW ss c r _) ?_;simp only[List.map_cons,List.sum_cons];cases ss[j]? with
    |none=>simp
    |some x=>simp only;split<;>simp<;>omega
theorem Gl {ss:List bC}(c:UInt8){now:List Nat}(h:now.Sublist (List.range ss.length)):(stepG ss c now []).length<=eW ss:=by
  have h1:=yW ss c now [];have h2:=Ah (f:=fun i=>match ss[i]? with|some x=>x.to.length|none=>0) h;have h3:=GA ss;simp only[List.length_nil] at h1;omega
def IsMatch (P:Nat->Nat->Prop) (n:Nat) (o:Int×Int):Prop :=
  (o=(0,-1)/\∀k r,k<=n->¬P k r)\/∃k r:Nat,o=((k:Int),(r:Int))/\k<=n/\P k r/\(∀k' r',k'<=n->P k' r'->k'<=k)/\∀r',P k r'->r<=r'
def nk (ac:Nat->Int):Nat->Nat->Int×Int->Int×Int
  | 0,k,b=>if 0<=ac k then ((k:Int),ac k) else b
  |n+1,k,b=>nk ac n (k+1) (if 0<=ac k then ((k:Int),ac k) else b)
def pG (P:Nat->Nat->Prop) (m:Nat) (o:Int×Int):Prop :=
  (o=(0,-1)/\∀k r,k<m->¬P k r)\/∃k r:Nat,o=((k:Int),(r:Int))/\k<m/\P k r/\(∀k' r',k'<m->P k' r'->k'<=k)/\∀r',P k r'->r<=r'
theorem pG.next {P:Nat->Nat->Prop}{m:Nat}{o:Int×Int}{a:Int}(h:pG P m o) (ha:nD (P m) a):pG P (m+1) (if 0<=a then ((m:Int),a) else o):=by
  rcases ha with ⟨rfl,h1⟩|⟨r,rfl,h1,h2⟩
  · rw[if_neg (by decide)]
    rcases h with ⟨rfl,h3⟩|⟨k,r,rfl,hk,hp,h3,h4⟩
    · exact .inl ⟨rfl,fun k r hk hp=>by
        by_cases e:k=m
        · subst e;exact h1 _ hp
        · exact h3 k r (by omega) hp⟩
    · exact .inr ⟨k,r,rfl,by omega,hp,fun k' r' hk' hp'=>by
        by_cases e:k'=m
        · subst e;exact absurd hp' (h1 _)
        · exact h3 k' r' (by omega) hp',h4⟩
  · rw[if_pos (by omega)];exact .inr ⟨m,r,rfl,by omega,h1,fun k' r' hk' _=>by omega,h2⟩
theorem wK {P:Nat->Nat->Prop}{ac:Nat->Int}:∀(n k:Nat) (b:Int×Int),pG P k b->(∀j,k<=j->j<=k+n->nD (P j) (ac j))->pG P (k+n+1) (nk ac n k b)
  | 0,k,b,h,ha=>by rw[nk];exact h.next (ha k (Nat.le_refl _) (by omega))
  |n+1,k,b,h,ha=>by
    rw[nk];have:=wK n (k+1) _ (h.next (ha k (Nat.le_refl _) (by omega))) (fun j h1 h2=>ha j (by omega) (by omega))
    rwa [show k+(n+1)+1=k+1+n+1 by omega]
theorem pG.match {P:Nat->Nat->Prop}{o:Int×Int}(h:pG P (n+1) o):IsMatch P n o:=by
  rcases h with ⟨rfl,h1⟩|⟨k,r,rfl,hk,hp,h1,h2⟩
  · exact .inl ⟨rfl,fun k r hk=>h1 k r (by omega)⟩
  · exact .inr ⟨k,r,rfl,by omega,hp,fun k' r' hk'=>h1 k' r' (by omega),h2⟩
theorem Gj (ss:List bC) (c:UInt8):cz ss c []=[]:=by simp[cz,stepG,closed]
theorem sw (ss:List bC) (st:Nat) (a b:By):jG ss st (a++b)=b.foldl (fun T c=>cz ss c T) (jG ss st a):=by simp[jG,List.foldl_append]
theorem Fj (ss:List bC):∀w:By,w.foldl (fun T c=>cz ss c T) ([]:List Nat)=[]
  | []=>rfl
  |c::w=>by rw[List.foldl_cons,Gj,Fj ss w]
theorem wJ {ac:Nat->Int}:∀(n k:Nat) (b:Int×Int),(∀j,k<=j->j<=k+n->ac j<0)->nk ac n k b=b
  | 0,k,b,h=>by rw[nk,if_neg (by have:=h k (Nat.le_refl _) (by omega);omega)]
  |n+1,k,b,h=>by
    rw[nk,if_neg (by have:=h k (Nat.le_refl _) (by omega);omega)];exact wJ n (k+1) b (fun j h1 h2=>h j (by omega) (by omega))
theorem Cv {ss:List bC}:∀(l a:By) (b:Int×Int),jb ss l (jG ss st a) a.length b=nk (fun k=>bn ss (jG ss st ((a++l).take k))) l.length a.length b:=by
  have none_:∀(l a:By) (b:Int×Int),jG ss st a=[]->jb ss l (jG ss st a) a.length b=nk (fun k=>bn ss (jG ss st ((a++l).take k))) l.length a.length b:=by
    intro l a b h;rw[vD (by rw[h];rfl),wJ];intro j h1 h2;have:(a++l).take j=a++l.take (j-a.length):=by rw[List.take_append,List.take_of_length_le h1]
    rw[this,sw,h,Fj];unfold bn;split
    · decide
    · simp[qM]
  intro l
  induction l with
  |nil =>
    intro a b
    by_cases h:jG ss st a=[]
    · exact none_ [] a b h
    · rw[jb,if_neg (by simpa using h),List.length_nil,nk];simp
  |cons c r ih =>
    intro a b
    by_cases h:jG ss st a=[]
    · exact none_ (c::r) a b h
    · rw[jb,if_neg (by simpa using h)];simp only[List.length_cons,nk];have h1:=ih (a++[c]) (if 0<=bn ss (jG ss st a) then ((a.length:Int),bn ss (jG ss st a)) else b);rw[sw] at h1;simp only[List.foldl_cons,List.foldl_nil,List.length_append,List.length_singleton,List.append_assoc,List.singleton_append] at h1;rw[h1];have e:(a++c::r).take a.length=a:=by simp
      rw[e]
theorem mP {rules:List By}{ss:List bC}(k:Made rules ss st) (l:By):IsMatch (fun n r=>∃s,rules[r]? =some s/\Kl (bN s).1 (l.take n)) l.length (cV ss st l):=by
  have hst:=k.stl;unfold cV;rw[if_neg (by omega)];have h:=Cv (ss:=ss) (st:=st) l [] (0,-1);have e:jG ss st []=cg ss st:=rfl;rw[e] at h;simp only[List.length_nil,List.nil_append] at h;rw[h]
  have:=wK (P:=fun n r=>∃s,rules[r]? =some s/\Kl (bN s).1 (l.take n)) (ac:=fun k=>bn ss (jG ss st (l.take k))) l.length 0 (0,-1) (.inl ⟨rfl,fun k r hk=>by omega⟩) (fun j _ _=>by
    have h1:=yJ k.good k.stl (l.take j)
    have e:(fun r=>∃n,Acc ss (mq ss r) n st (l.take j))=(fun r=>∃s,rules[r]? =some s/\Kl (bN s).1 (l.take j)):=by
      funext r;exact propext (k.lng r _)
    rw[e] at h1;exact h1)
  rw[Nat.zero_add] at this;exact this.match
end
end Go.Proofs.YtdihgdeciopfpaaGreatDoor
