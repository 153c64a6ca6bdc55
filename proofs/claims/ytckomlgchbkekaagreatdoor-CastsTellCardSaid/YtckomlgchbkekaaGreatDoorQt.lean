/- What the proof of the statement leans on (part 20). -/
import Derived.Test.YtckomlgchbkekaaGreatDoorRows
import Derived.Test.YtckomlgchbkekaaGreatDoorQs

namespace Go.Proofs.YtckomlgchbkekaaGreatDoor.H
open Go Go.Lw
theorem Oc:aJ Tryz.prog 106=some false:=by kernel_rfl
theorem Ob:aJ Tryz.prog 111=some true:=by kernel_rfl
theorem D9:aJ Tryz.prog 117=some false:=by kernel_rfl
theorem Oa:aJ Tryz.prog 119=some true:=by kernel_rfl
theorem N9:aJ Tryz.prog 125=some true:=by kernel_rfl
theorem N8:aJ Tryz.prog 131=some false:=by kernel_rfl
theorem N7:aJ Tryz.prog 167=some false:=by kernel_rfl
theorem N6:aJ Tryz.prog 169=some true:=by kernel_rfl
theorem N5:aJ Tryz.prog 172=some false:=by kernel_rfl
theorem N4:aJ Tryz.prog 174=some false:=by kernel_rfl
theorem N3:aJ Tryz.prog 183=some false:=by kernel_rfl
theorem N2:aJ Tryz.prog 185=some true:=by kernel_rfl
theorem PB:aJ Tryz.prog 21=some false:=by kernel_rfl
theorem N1:aJ Tryz.prog 22=some false:=by kernel_rfl
theorem N0:aJ Tryz.prog 231=some true:=by kernel_rfl
theorem NZ:aJ Tryz.prog 233=some true:=by kernel_rfl
theorem NY:aJ Tryz.prog 234=some false:=by kernel_rfl
theorem NX:aJ Tryz.prog 235=some false:=by kernel_rfl
theorem NW:aJ Tryz.prog 236=some false:=by kernel_rfl
theorem pH:aJ Tryz.prog 24=some true:=by kernel_rfl
theorem NV:aJ Tryz.prog 240=some false:=by kernel_rfl
theorem Kw:aJ Tryz.prog 243=some false:=by kernel_rfl
theorem Ls:aJ Tryz.prog 27=some false:=by kernel_rfl
theorem FA:aJ Tryz.prog 29=some true:=by kernel_rfl
theorem NU:aJ Tryz.prog 297=some false:=by kernel_rfl
theorem BC:aJ Tryz.prog 3=some false:=by kernel_rfl
theorem NT:aJ Tryz.prog 308=some true:=by kernel_rfl
theorem Lr:aJ Tryz.prog 31=some false:=by kernel_rfl
theorem NS:aJ Tryz.prog 312=some false:=by kernel_rfl
theorem NR:aJ Tryz.prog 315=some true:=by kernel_rfl
theorem Kv:aJ Tryz.prog 316=some false:=by kernel_rfl
theorem wD:aJ Tryz.prog 318=some true:=by kernel_rfl
theorem NQ:aJ Tryz.prog 324=some true:=by kernel_rfl
theorem NP:aJ Tryz.prog 328=some false:=by kernel_rfl
theorem Ku:aJ Tryz.prog 330=some true:=by kernel_rfl
theorem NO:aJ Tryz.prog 333=some false:=by kernel_rfl
theorem NN:aJ Tryz.prog 339=some true:=by kernel_rfl
theorem NM:aJ Tryz.prog 379=some true:=by kernel_rfl
theorem Di:aJ Tryz.prog 39=some false:=by kernel_rfl
theorem Qp:aJ Tryz.prog 4=some false:=by kernel_rfl
theorem Lq:aJ Tryz.prog 41=some true:=by kernel_rfl
theorem NL:aJ Tryz.prog 450=some false:=by kernel_rfl
theorem Lp:aJ Tryz.prog 47=some false:=by kernel_rfl
theorem PA:aJ Tryz.prog 49=some true:=by kernel_rfl
theorem Qo:aJ Tryz.prog 5=some false:=by kernel_rfl
theorem Pz:aJ Tryz.prog 56=some true:=by kernel_rfl
theorem Py:aJ Tryz.prog 58=some true:=by kernel_rfl
theorem NK:aJ Tryz.prog 59=some true:=by kernel_rfl
theorem Px:aJ Tryz.prog 60=some false:=by kernel_rfl
theorem Pw:aJ Tryz.prog 61=some false:=by kernel_rfl
theorem Ov:aJ Tryz.prog 9=some false:=by kernel_rfl
theorem gw  : Tryz.prog.built 111 []=some #[.int .i64 (0),.string ⟨#[]⟩]:=by kernel_rfl
theorem pE (a0:Int) (a1:ByteArray):Tryz.prog.built 111 [(0,.int .i64 a0),(1,.string a1)]=some #[.int .i64 a0,.string a1]:=by kernel_rfl
theorem zl (a0:Int):Tryz.prog.built 111 [(0,.int .i64 a0)]=some #[.int .i64 a0,.string ⟨#[]⟩]:=by kernel_rfl
theorem Fw (a0:Bool) (a1_0 a1_1 a1_2 a1_3 a1_4:Value):Tryz.prog.built 113 [(0,.bool a0),(1,.agg #[a1_0,a1_1,a1_2,a1_3,a1_4])]=some #[.bool a0,a1_0,a1_1,a1_2,a1_3,a1_4,.int .i64 (0),.string ⟨#[]⟩,.int .i64 (0),.bool false,.bool false,.bool false,.bool false,.int .i64 (0)]:=by kernel_rfl
theorem jB (a0:Int) (a1:Int):Tryz.prog.built 119 [(0,.int .i64 a0),(1,.int .i32 a1)]=some #[.int .i64 a0,.int .i32 a1,.slice none 0 0,.int .u8 (0)]:=by kernel_rfl
theorem Bx (a0:Int) (a2:Option Addr) (n2 c2:Nat) (a3:Int):Tryz.prog.built 119 [(0,.int .i64 a0),(2,.slice a2 n2 c2),(3,.int .u8 a3)]=some #[.int .i64 a0,.int .i32 (0),.slice a2 n2 c2,.int .u8 a3]:=by kernel_rfl
theorem Fv (a0:Int) (a3:Int):Tryz.prog.built 119 [(0,.int .i64 a0),(3,.int .u8 a3)]=some #[.int .i64 a0,.int .i32 (0),.slice none 0 0,.int .u8 a3]:=by kernel_rfl
theorem Jl (a0:Int):Tryz.prog.built 119 [(0,.int .i64 a0)]=some #[.int .i64 a0,.int .i32 (0),.slice none 0 0,.int .u8 (0)]:=by kernel_rfl
theorem Fu (a0:Int) (a1:Int):Tryz.prog.built 125 [(0,.int .i64 a0),(1,.int .i32 a1)]=some #[.int .i64 a0,.int .i32 a1,.slice none 0 0,.int .u8 (0)]:=by kernel_rfl
theorem Bw (a0:Int) (a2:Option Addr) (n2 c2:Nat) (a3:Int):Tryz.prog.built 125 [(0,.int .i64 a0),(2,.slice a2 n2 c2),(3,.int .u8 a3)]=some #[.int .i64 a0,.int .i32 (0),.slice a2 n2 c2,.int .u8 a3]:=by kernel_rfl
theorem Ft (a0:Int) (a3:Int):Tryz.prog.built 125 [(0,.int .i64 a0),(3,.int .u8 a3)]=some #[.int .i64 a0,.int .i32 (0),.slice none 0 0,.int .u8 a3]:=by kernel_rfl
theorem Bv (a0:Option Addr) (a1:Option Addr) (a2_0 a2_1 a2_2 a2_3 a2_4:Value):Tryz.prog.built 134 [(0,.pointer a0),(1,.pointer a1),(2,.agg #[a2_0,a2_1,a2_2,a2_3,a2_4])]=some #[.pointer a0,.pointer a1,a2_0,a2_1,a2_2,a2_3,a2_4]:=by kernel_rfl
theorem Jk (t0:TypeId) (a0:Value):Tryz.prog.built 163 [(0,.iface t0 a0)]=some #[.iface t0 a0]:=by kernel_rfl
theorem Jj (a3:Int):Tryz.prog.built 169 [(3,.int .i64 a3)]=some #[.string ⟨#[]⟩,.int .i64 (0),.int .i64 (0),.int .i64 a3,.slice none 0 0,.slice none 0 0,.int .i64 (0),.string ⟨#[]⟩,.int .i64 (0),.int .i64 (0),.int .i64 (0),.string ⟨#[]⟩,.int .i64 (0),.string ⟨#[]⟩,.int .i64 (0),.int .i64 (0),.slice none 0 0,.slice none 0 0,.int .i64 (0)]:=by kernel_rfl
theorem vq (a0_0 a0_1 a0_2 a0_3 a0_4 a0_5 a0_6 a0_7 a0_8 a0_9 a0_10 a0_11 a0_12 a0_13 a0_14 a0_15 a0_16 a0_17 a0_18:Value) (a1:Option Addr) (a2:Option Addr) (a3:Option Addr):Tryz.prog.built 181 [(0,.agg #[a0_0,a0_1,a0_2,a0_3,a0_4,a0_5,a0_6,a0_7,a0_8,a0_9,a0_10,a0_11,a0_12,a0_13,a0_14,a0_15,a0_16,a0_17,a0_18]),(1,.pointer a1),(2,.pointer a2),(3,.pointer a3)]=some #[a0_0,a0_1,a0_2,a0_3,a0_4,a0_5,a0_6,a0_7,a0_8,a0_9,a0_10,a0_11,a0_12,a0_13,a0_14,a0_15,a0_16,a0_17,a0_18,.pointer a1,.pointer a2,.pointer a3,.int .i64 (0),.bool false,.int .i64 (0),.int .i32 (0)]:=by kernel_rfl
theorem kV (a0:ByteArray) (a1:Option Addr) (n1 c1:Nat) (a2:Int) (a3:ByteArray) (a4:ByteArray):Tryz.prog.built 185 [(0,.string a0),(1,.slice a1 n1 c1),(2,.int .i64 a2),(3,.string a3),(4,.string a4)]=some #[.string a0,.slice a1 n1 c1,.int .i64 a2,.string a3,.string a4]:=by kernel_rfl
theorem Fs (a0:Option Addr) (a1:Int):Tryz.prog.built 226 [(0,.pointer a0),(1,.int .i64 a1)]=some #[.pointer a0,.int .i64 a1]:=by kernel_rfl
theorem Ji (a0_0 a0_1:Value):Tryz.prog.built 229 [(0,.agg #[a0_0,a0_1])]=some #[a0_0,a0_1,.slice none 0 0,.slice none 0 0,.int .i64 (0)]:=by kernel_rfl
theorem HP  : Tryz.prog.built 233 []=some #[.int .i64 (0),.int .i64 (0),.int .i64 (0)]:=by kernel_rfl
theorem Fq (a0:Int) (a1_0 a1_1:Value):Tryz.prog.built 233 [(0,.int .i64 a0),(1,.agg #[a1_0,a1_1])]=some #[.int .i64 a0,a1_0,a1_1]:=by kernel_rfl
theorem Fp (a0:Option Addr) (a5:Option Addr) (n5 c5:Nat):Tryz.prog.built 238 [(0,.pointer a0),(5,.slice a5 n5 c5)]=some #[.pointer a0,.string ⟨#[]⟩,.slice none 0 0,.slice none 0 0,.int .i64 (0),.int .i64 (0),.slice a5 n5 c5,.int .i64 (0)]:=by kernel_rfl
theorem Kt  : Tryz.prog.built 24 []=some #[.int .i64 (0),.int .i64 (0),.slice none 0 0]:=by kernel_rfl
theorem HO (a0:Int) (a1:Int):Tryz.prog.built 24 [(0,.int .i64 a0),(1,.int .i64 a1)]=some #[.int .i64 a0,.int .i64 a1,.slice none 0 0]:=by kernel_rfl
theorem Dd (a0:Int) (a1:Int) (a2:Option Addr) (n2 c2:Nat):Tryz.prog.built 24 [(0,.int .i64 a0),(1,.int .i64 a1),(2,.slice a2 n2 c2)]=some #[.int .i64 a0,.int .i64 a1,.slice a2 n2 c2]:=by kernel_rfl
theorem Lm  : Tryz.prog.built 242 []=some #[.slice none 0 0]:=by kernel_rfl
theorem Jh (a0:Int):Tryz.prog.built 253 [(0,.int .i64 a0)]=some #[.int .i64 a0,.slice none 0 0]:=by kernel_rfl
theorem Jg (a1:Int):Tryz.prog.built 259 [(1,.int .i64 a1)]=some #[.pointer none,.slice none 0 0,.int .i64 a1,.int .i64 (0),.bool false,.bool false,.bool false]:=by kernel_rfl
theorem HN (a0:Int) (a1:Int):Tryz.prog.built 29 [(0,.int .i64 a0),(1,.int .i64 a1)]=some #[.int .i64 a0,.int .i64 a1,.slice none 0 0]:=by kernel_rfl
theorem Fo (a0:Bool) (a1:Option Addr) (n1 c1:Nat):Tryz.prog.built 303 [(0,.bool a0),(1,.slice a1 n1 c1)]=some #[.bool a0,.slice a1 n1 c1,.int .i64 (0)]:=by kernel_rfl
theorem Ll  : Tryz.prog.built 314 []=some #[.slice none 0 0,.int .i64 (0)]:=by kernel_rfl
theorem Dc  : Tryz.prog.built 318 []=some #[.int .i64 (0),.int .u64 (0),.int .u64 (0),.int .u64 (0),.int .u64 (0),.slice none 0 0]:=by kernel_rfl
theorem pz (a0:Int) (a2:Option Addr) (n2 c2:Nat):Tryz.prog.built 318 [(0,.int .i64 a0),(2,.slice a2 n2 c2)]=some #[.int .i64 a0,.int .u64 (0),.int .u64 (0),.int .u64 (0),.int .u64 (0),.slice a2 n2 c2]:=by kernel_rfl
theorem D8 (a0:Int):Tryz.prog.built 318 [(0,.int .i64 a0)]=some #[.int .i64 a0,.int .u64 (0),.int .u64 (0),.int .u64 (0),.int .u64 (0),.slice none 0 0]:=by kernel_rfl
theorem HM  : Tryz.prog.built 324 []=some #[.int .i64 (0),.int .u64 (0),.int .u64 (0),.int .u64 (0),.int .u64 (0),.slice none 0 0,.int .i64 (0)]:=by kernel_rfl
theorem Bu (a0:Int) (a1_0 a1_1 a1_2 a1_3:Value) (a2:Option Addr) (n2 c2:Nat):Tryz.prog.built 324 [(0,.int .i64 a0),(1,.agg #[a1_0,a1_1,a1_2,a1_3]),(2,.slice a2 n2 c2)]=some #[.int .i64 a0,a1_0,a1_1,a1_2,a1_3,.slice a2 n2 c2,.int .i64 (0)]:=by kernel_rfl
theorem Fm (a0:Int) (a3:Int):Tryz.prog.built 324 [(0,.int .i64 a0),(3,.int .i64 a3)]=some #[.int .i64 a0,.int .u64 (0),.int .u64 (0),.int .u64 (0),.int .u64 (0),.slice none 0 0,.int .i64 a3]:=by kernel_rfl
theorem zk (a2:Option Addr) (n2 c2:Nat):Tryz.prog.built 324 [(2,.slice a2 n2 c2)]=some #[.int .i64 (0),.int .u64 (0),.int .u64 (0),.int .u64 (0),.int .u64 (0),.slice a2 n2 c2,.int .i64 (0)]:=by kernel_rfl
theorem HL  : Tryz.prog.built 335 []=some #[.slice none 0 0,.slice none 0 0]:=by kernel_rfl
theorem gu  : Tryz.prog.built 387 []=some #[]:=by kernel_rfl
theorem Jf (a0:ByteArray):Tryz.prog.built 390 [(0,.string a0)]=some #[.string a0]:=by kernel_rfl
theorem Je (a0:ByteArray):Tryz.prog.built 402 [(0,.string a0)]=some #[.string a0,.slice none 0 0]:=by kernel_rfl
theorem Ks  : Tryz.prog.built 41 []=some #[.int .i64 (0),.int .i64 (0),.slice none 0 0,.int .i64 (0),.int .i64 (0)]:=by kernel_rfl
theorem HK (a0:Int) (a1:Int):Tryz.prog.built 41 [(0,.int .i64 a0),(1,.int .i64 a1)]=some #[.int .i64 a0,.int .i64 a1,.slice none 0 0,.int .i64 (0),.int .i64 (0)]:=by kernel_rfl
theorem tY (a0:Int) (a1:Int) (a2:Option Addr) (n2 c2:Nat):Tryz.prog.built 41 [(0,.int .i64 a0),(1,.int .i64 a1),(2,.slice a2 n2 c2)]=some #[.int .i64 a0,.int .i64 a1,.slice a2 n2 c2,.int .i64 (0),.int .i64 (0)]:=by kernel_rfl
theorem HH (a0:Int) (a1:ByteArray):Tryz.prog.built 49 [(0,.int .i64 a0),(1,.string a1)]=some #[.int .i64 a0,.string a1,.int .i64 (0),.int .i64 (0)]:=by kernel_rfl
theorem HJ (a0:Int):Tryz.prog.built 49 [(0,.int .i64 a0)]=some #[.int .i64 a0,.string ⟨#[]⟩,.int .i64 (0),.int .i64 (0)]:=by kernel_rfl
theorem qu  : Tryz.prog.built 56 []=some #[.int .i64 (0),.bool false,.bool false,.bool false]:=by kernel_rfl
theorem HG (a0:Int) (a1:Int):Tryz.prog.built 58 [(0,.int .i32 a0),(1,.int .i64 a1)]=some #[.int .i32 a0,.int .i64 a1,.int .i64 (0),.bool false,.bool false,.bool false]:=by kernel_rfl
theorem nA (a0:Int) (a1:Int) (a2_0 a2_1 a2_2 a2_3:Value):Tryz.prog.built 58 [(0,.int .i32 a0),(1,.int .i64 a1),(2,.agg #[a2_0,a2_1,a2_2,a2_3])]=some #[.int .i32 a0,.int .i64 a1,a2_0,a2_1,a2_2,a2_3]:=by kernel_rfl
theorem Db (a2_0 a2_1 a2_2 a2_3:Value):Tryz.prog.built 58 [(2,.agg #[a2_0,a2_1,a2_2,a2_3])]=some #[.int .i32 (0),.int .i64 (0),a2_0,a2_1,a2_2,a2_3]:=by kernel_rfl
theorem Lj (a0:Int):Tryz.prog.built 59 [(0,.int .i64 a0)]=some #[.int .i64 a0,.string ⟨#[]⟩,.int .i64 (0),.int .i64 (0)]:=by kernel_rfl
theorem Li (a0_0 a0_1 a0_2 a0_3 a0_4:Value):Tryz.prog.built 86 [(0,.agg #[a0_0,a0_1,a0_2,a0_3,a0_4])]=some #[a0_0,a0_1,a0_2,a0_3,a0_4,.string ⟨#[]⟩,.int .i64 (0),.bool false,.bool false,.bool false,.bool false,.int .i64 (0)]:=by kernel_rfl
theorem Kq:Tryz.prog.concrete 387=true:=by kernel_rfl
theorem Qm:Tryz.prog.concrete 9=true:=by kernel_rfl
set_option maxRecDepth 100000 in
theorem Nh:cD Tryz.prog 117 1 24:=⟨⟨_,_,rfl,rfl,rfl,rfl,rfl⟩,by decide⟩
set_option maxRecDepth 100000 in
theorem Km:cD Tryz.prog 119 4 48:=⟨⟨_,_,rfl,rfl,rfl,rfl,rfl⟩,by decide⟩
set_option maxRecDepth 100000 in
theorem Kl:cD Tryz.prog 125 4 48:=⟨⟨_,_,rfl,rfl,rfl,rfl,rfl⟩,by decide⟩
set_option maxRecDepth 100000 in
theorem Pg:cD Tryz.prog 21 1 4:=⟨⟨_,_,rfl,rfl,rfl,rfl,rfl⟩,by decide⟩
set_option maxRecDepth 100000 in
theorem Kk:cD Tryz.prog 231 2 16:=⟨⟨_,_,rfl,rfl,rfl,rfl,rfl⟩,by decide⟩
set_option maxRecDepth 100000 in
theorem Kj:cD Tryz.prog 233 3 24:=⟨⟨_,_,rfl,rfl,rfl,rfl,rfl⟩,by decide⟩
set_option maxRecDepth 100000 in
theorem Ng:cD Tryz.prog 247 1 8:=⟨⟨_,_,rfl,rfl,rfl,rfl,rfl⟩,by decide⟩
set_option maxRecDepth 100000 in
theorem Ld:cD Tryz.prog 3 1 8:=⟨⟨_,_,rfl,rfl,rfl,rfl,rfl⟩,by decide⟩
set_option maxRecDepth 100000 in
theorem Ki:cD Tryz.prog 308 3 24:=⟨⟨_,_,rfl,rfl,rfl,rfl,rfl⟩,by decide⟩
set_option maxRecDepth 100000 in
theorem Hq:cD Tryz.prog 318 6 64:=⟨⟨_,_,rfl,rfl,rfl,rfl,rfl⟩,by decide⟩
set_option maxRecDepth 100000 in
theorem Kh:cD Tryz.prog 324 7 72:=⟨⟨_,_,rfl,rfl,rfl,rfl,rfl⟩,by decide⟩
set_option maxRecDepth 100000 in
theorem D1:cD Tryz.prog 339 256 2048:=⟨⟨_,_,rfl,rfl,rfl,rfl,rfl⟩,by decide⟩
set_option maxRecDepth 100000 in
theorem Pf:cD Tryz.prog 4 1 1:=⟨⟨_,_,rfl,rfl,rfl,rfl,rfl⟩,by decide⟩
set_option maxRecDepth 100000 in
theorem Nf:cD Tryz.prog 49 4 40:=⟨⟨_,_,rfl,rfl,rfl,rfl,rfl⟩,by decide⟩
set_option maxRecDepth 100000 in
theorem Qh:cD Tryz.prog 5 1 1:=⟨⟨_,_,rfl,rfl,rfl,rfl,rfl⟩,by decide⟩
set_option maxRecDepth 100000 in
theorem Pe:cD Tryz.prog 56 4 16:=⟨⟨_,_,rfl,rfl,rfl,rfl,rfl⟩,by decide⟩
set_option maxRecDepth 100000 in
theorem yB:cD Tryz.prog 58 6 32:=⟨⟨_,_,rfl,rfl,rfl,rfl,rfl⟩,by decide⟩
set_option maxRecDepth 100000 in
theorem Nc:cD Tryz.prog 59 4 40:=⟨⟨_,_,rfl,rfl,rfl,rfl,rfl⟩,by decide⟩
set_option maxRecDepth 100000 in
theorem Kg:cD Tryz.prog 9 1 16:=⟨⟨_,_,rfl,rfl,rfl,rfl,rfl⟩,by decide⟩
theorem mixed:Tryz.prog.follows .mixedOrders=true:=by kernel_rfl
theorem O6:(Tryz.f10.name == "runtime.NumGoroutine")=false:=by decide +kernel
theorem M1:(Tryz.f11.name == "runtime.NumGoroutine")=false:=by decide +kernel
theorem O5:(Tryz.f12.name == "runtime.NumGoroutine")=false:=by decide +kernel
theorem O4:(Tryz.f13.name == "runtime.NumGoroutine")=false:=by decide +kernel
theorem M0:(Tryz.f14.name == "runtime.NumGoroutine")=false:=by decide +kernel
theorem J4:(Tryz.f145.name == "runtime.NumGoroutine")=false:=by decide +kernel
theorem O3:(Tryz.f15.name == "runtime.NumGoroutine")=false:=by decide +kernel
theorem MZ:(Tryz.f208.name == "runtime.NumGoroutine")=false:=by decide +kernel
theorem O2:(Tryz.f24.name == "runtime.NumGoroutine")=false:=by decide +kernel
theorem MY:(Tryz.f267.name == "runtime.NumGoroutine")=false:=by decide +kernel
theorem PO:(Tryz.f4.name == "runtime.NumGoroutine")=false:=by decide +kernel
theorem O1:(Tryz.f43.name == "runtime.NumGoroutine")=false:=by decide +kernel
theorem O0:(Tryz.f44.name == "runtime.NumGoroutine")=false:=by decide +kernel
theorem OZ:(Tryz.f45.name == "runtime.NumGoroutine")=false:=by decide +kernel
theorem Qd:(Tryz.f5.name == "runtime.NumGoroutine")=false:=by decide +kernel
theorem PN:(Tryz.f6.name == "runtime.NumGoroutine")=false:=by decide +kernel
theorem PM:(Tryz.f7.name == "runtime.NumGoroutine")=false:=by decide +kernel
theorem Qc:(Tryz.f8.name == "runtime.NumGoroutine")=false:=by decide +kernel
theorem Qb:(Tryz.f9.name == "runtime.NumGoroutine")=false:=by decide +kernel
theorem Mz:bE Tryz.prog 106=some 1:=by kernel_rfl
theorem JT:bE Tryz.prog 111=some 2:=by kernel_rfl
theorem kK:bE Tryz.prog 117=some 1:=by kernel_rfl
theorem My:bE Tryz.prog 119=some 4:=by kernel_rfl
theorem Mx:bE Tryz.prog 125=some 4:=by kernel_rfl
theorem Mw:bE Tryz.prog 131=some 1:=by kernel_rfl
theorem JS:bE Tryz.prog 167=some 1:=by kernel_rfl
theorem JR:bE Tryz.prog 169=some 19:=by kernel_rfl
theorem Mu:bE Tryz.prog 172=some 1:=by kernel_rfl
theorem Mt:bE Tryz.prog 174=some 1:=by kernel_rfl
theorem Ms:bE Tryz.prog 183=some 1:=by kernel_rfl
theorem Mr:bE Tryz.prog 185=some 5:=by kernel_rfl
theorem Er:bE Tryz.prog 21=some 1:=by kernel_rfl
theorem KH:bE Tryz.prog 22=some 1:=by kernel_rfl
theorem Dx:bE Tryz.prog 231=some 2:=by kernel_rfl
theorem Mq:bE Tryz.prog 233=some 3:=by kernel_rfl
theorem JQ:bE Tryz.prog 234=some 1:=by kernel_rfl
theorem JP:bE Tryz.prog 235=some 1:=by kernel_rfl
theorem JO:bE Tryz.prog 236=some 1:=by kernel_rfl
theorem mq:bE Tryz.prog 24=some 3:=by kernel_rfl
theorem JN:bE Tryz.prog 240=some 1:=by kernel_rfl
theorem Iy:bE Tryz.prog 27=some 1:=by kernel_rfl
theorem B5:bE Tryz.prog 29=some 3:=by kernel_rfl
theorem zU:bE Tryz.prog 299=some 2:=by kernel_rfl
theorem fu:bE Tryz.prog 3=some 1:=by kernel_rfl
theorem JM:bE Tryz.prog 308=some 3:=by kernel_rfl
theorem Ep:bE Tryz.prog 31=some 1:=by kernel_rfl
theorem JL:bE Tryz.prog 312=some 1:=by kernel_rfl
theorem F5:bE Tryz.prog 315=some 4:=by kernel_rfl
theorem Mp:bE Tryz.prog 316=some 1:=by kernel_rfl
theorem lz:bE Tryz.prog 318=some 6:=by kernel_rfl
theorem Mo:bE Tryz.prog 324=some 7:=by kernel_rfl
theorem Mn:bE Tryz.prog 328=some 1:=by kernel_rfl
theorem F4:bE Tryz.prog 330=some 3:=by kernel_rfl
theorem JK:bE Tryz.prog 333=some 1:=by kernel_rfl
theorem Mm:bE Tryz.prog 339=some 256:=by kernel_rfl
theorem Ml:bE Tryz.prog 379=some 2:=by kernel_rfl
theorem KG:bE Tryz.prog 39=some 1:=by kernel_rfl
theorem zC:bE Tryz.prog 4=some 1:=by kernel_rfl
theorem iC:bE Tryz.prog 41=some 5:=by kernel_rfl
theorem F3:bE Tryz.prog 47=some 1:=by kernel_rfl
theorem Mk:bE Tryz.prog 49=some 4:=by kernel_rfl
theorem Mj:bE Tryz.prog 5=some 1:=by kernel_rfl
theorem F2:bE Tryz.prog 56=some 4:=by kernel_rfl
theorem lu:bE Tryz.prog 58=some 6:=by kernel_rfl
theorem KF:bE Tryz.prog 59=some 4:=by kernel_rfl
theorem Mi:bE Tryz.prog 60=some 1:=by kernel_rfl
theorem Mh:bE Tryz.prog 61=some 1:=by kernel_rfl
theorem OR:bE Tryz.prog 63=some 2:=by kernel_rfl
theorem BP:bE Tryz.prog 9=some 1:=by kernel_rfl
theorem L8:(Tryz.prog.info? 111).bind (·.zero)=some (.agg #[.int .i64 (0),.string ⟨#[]⟩]):=by kernel_rfl
theorem L7:(Tryz.prog.info? 117).bind (·.zero)=some (.slice none 0 0):=by kernel_rfl
theorem L6:(Tryz.prog.info? 119).bind (·.zero)=some (.agg #[.int .i64 (0),.int .i32 (0),.slice none 0 0,.int .u8 (0)]):=by kernel_rfl
theorem L5:(Tryz.prog.info? 125).bind (·.zero)=some (.agg #[.int .i64 (0),.int .i32 (0),.slice none 0 0,.int .u8 (0)]):=by kernel_rfl
theorem L4:(Tryz.prog.info? 169).bind (·.zero)=some (.agg #[.string ⟨#[]⟩,.int .i64 (0),.int .i64 (0),.int .i64 (0),.slice none 0 0,.slice none 0 0,.int .i64 (0),.string ⟨#[]⟩,.int .i64 (0),.int .i64 (0),.int .i64 (0),.string ⟨#[]⟩,.int .i64 (0),.string ⟨#[]⟩,.int .i64 (0),.int .i64 (0),.slice none 0 0,.slice none 0 0,.int .i64 (0)]):=by kernel_rfl
theorem L3:(Tryz.prog.info? 185).bind (·.zero)=some (.agg #[.string ⟨#[]⟩,.slice none 0 0,.int .i64 (0),.string ⟨#[]⟩,.string ⟨#[]⟩]):=by kernel_rfl
theorem L1:(Tryz.prog.info? 231).bind (·.zero)=some (.agg #[.int .i64 (0),.int .i64 (0)]):=by kernel_rfl
theorem L0:(Tryz.prog.info? 233).bind (·.zero)=some (.agg #[.int .i64 (0),.int .i64 (0),.int .i64 (0)]):=by kernel_rfl
theorem OJ:(Tryz.prog.info? 24).bind (·.zero)=some (.agg #[.int .i64 (0),.int .i64 (0),.slice none 0 0]):=by kernel_rfl
theorem LZ:(Tryz.prog.info? 29).bind (·.zero)=some (.agg #[.int .i64 (0),.int .i64 (0),.slice none 0 0]):=by kernel_rfl
theorem OI:(Tryz.prog.info? 3).bind (·.zero)=some (.int .i64 (0)):=by kernel_rfl
theorem LY:(Tryz.prog.info? 308).bind (·.zero)=some (.agg #[.int .i64 (0),.int .i64 (0),.int .i64 (0)]):=by kernel_rfl
theorem OH:(Tryz.prog.info? 31).bind (·.zero)=some (.int .i64 (0)):=by kernel_rfl
theorem JG:(Tryz.prog.info? 318).bind (·.zero)=some (.agg #[.int .i64 (0),.int .u64 (0),.int .u64 (0),.int .u64 (0),.int .u64 (0),.slice none 0 0]):=by kernel_rfl
theorem JF:(Tryz.prog.info? 330).bind (·.zero)=some (.agg #[.string ⟨#[]⟩,.int .i64 (0),.int .i64 (0)]):=by kernel_rfl
theorem LX:(Tryz.prog.info? 339).bind (·.zero)=some (.agg (Array.replicate 256 (.int .i64 (0)))):=by kernel_rfl
theorem LW:(Tryz.prog.info? 379).bind (·.zero)=some (.agg #[.int .u8 (0),.int .u8 (0)]):=by kernel_rfl
theorem OG:(Tryz.prog.info? 4).bind (·.zero)=some (.bool false):=by kernel_rfl
theorem FM:(Tryz.prog.info? 41).bind (·.zero)=some (.agg #[.int .i64 (0),.int .i64 (0),.slice none 0 0,.int .i64 (0),.int .i64 (0)]):=by kernel_rfl
theorem OF:(Tryz.prog.info? 47).bind (·.zero)=some (.slice none 0 0):=by kernel_rfl
theorem OE:(Tryz.prog.info? 49).bind (·.zero)=some (.agg #[.int .i64 (0),.string ⟨#[]⟩,.int .i64 (0),.int .i64 (0)]):=by kernel_rfl
theorem LV:(Tryz.prog.info? 56).bind (·.zero)=some (.agg #[.int .i64 (0),.bool false,.bool false,.bool false]):=by kernel_rfl
theorem Kz:(Tryz.prog.info? 58).bind (·.zero)=some (.agg #[.int .i32 (0),.int .i64 (0),.int .i64 (0),.bool false,.bool false,.bool false]):=by kernel_rfl
theorem OD:(Tryz.prog.info? 59).bind (·.zero)=some (.agg #[.int .i64 (0),.string ⟨#[]⟩,.int .i64 (0),.int .i64 (0)]):=by kernel_rfl
theorem OC:(Tryz.prog.info? 63).bind (·.zero)=some (.agg #[.pointer none,.slice none 0 0]):=by kernel_rfl
end Go.Proofs.YtckomlgchbkekaaGreatDoor.H
namespace Go.Proofs.YtckomlgchbkekaaGreatDoor.H
open Go.Proofs.Tryz
open Go Go.Lw
set_option maxRecDepth 100000 in
instance:Jw Tryz.prog:=⟨by decide +kernel⟩
instance:gD Tryz.prog 106 false:=⟨Oc⟩
instance:gD Tryz.prog 111 true:=⟨Ob⟩
instance:gD Tryz.prog 117 false:=⟨D9⟩
instance:gD Tryz.prog 119 true:=⟨Oa⟩
instance:gD Tryz.prog 125 true:=⟨N9⟩
instance:gD Tryz.prog 131 false:=⟨N8⟩
instance:gD Tryz.prog 167 false:=⟨N7⟩
instance:gD Tryz.prog 169 true:=⟨N6⟩
instance:gD Tryz.prog 172 false:=⟨N5⟩
instance:gD Tryz.prog 174 false:=⟨N4⟩
instance:gD Tryz.prog 183 false:=⟨N3⟩
instance:gD Tryz.prog 185 true:=⟨N2⟩
instance:gD Tryz.prog 21 false:=⟨PB⟩
instance:gD Tryz.prog 22 false:=⟨N1⟩
instance:gD Tryz.prog 231 true:=⟨N0⟩
instance:gD Tryz.prog 233 true:=⟨NZ⟩
instance:gD Tryz.prog 234 false:=⟨NY⟩
instance:gD Tryz.prog 235 false:=⟨NX⟩
instance:gD Tryz.prog 236 false:=⟨NW⟩
instance:gD Tryz.prog 24 true:=⟨pH⟩
instance:gD Tryz.prog 240 false:=⟨NV⟩
instance:gD Tryz.prog 243 false:=⟨Kw⟩
instance:gD Tryz.prog 27 false:=⟨Ls⟩
instance:gD Tryz.prog 29 true:=⟨FA⟩
instance:gD Tryz.prog 297 false:=⟨NU⟩
instance:gD Tryz.prog 3 false:=⟨BC⟩
instance:gD Tryz.prog 308 true:=⟨NT⟩
instance:gD Tryz.prog 31 false:=⟨Lr⟩
instance:gD Tryz.prog 312 false:=⟨NS⟩
instance:gD Tryz.prog 315 true:=⟨NR⟩
instance:gD Tryz.prog 316 false:=⟨Kv⟩
instance:gD Tryz.prog 318 true:=⟨wD⟩
instance:gD Tryz.prog 324 true:=⟨NQ⟩
instance:gD Tryz.prog 328 false:=⟨NP⟩
instance:gD Tryz.prog 330 true:=⟨Ku⟩
instance:gD Tryz.prog 333 false:=⟨NO⟩
instance:gD Tryz.prog 339 true:=⟨NN⟩
instance:gD Tryz.prog 379 true:=⟨NM⟩
instance:gD Tryz.prog 39 false:=⟨Di⟩
instance:gD Tryz.prog 4 false:=⟨Qp⟩
instance:gD Tryz.prog 41 true:=⟨Lq⟩
instance:gD Tryz.prog 450 false:=⟨NL⟩
instance:gD Tryz.prog 47 false:=⟨Lp⟩
instance:gD Tryz.prog 49 true:=⟨PA⟩
instance:gD Tryz.prog 5 false:=⟨Qo⟩
instance:gD Tryz.prog 56 true:=⟨Pz⟩
instance:gD Tryz.prog 58 true:=⟨Py⟩
instance:gD Tryz.prog 59 true:=⟨NK⟩
instance:gD Tryz.prog 60 false:=⟨Px⟩
instance:gD Tryz.prog 61 false:=⟨Pw⟩
instance:gD Tryz.prog 9 false:=⟨Ov⟩
instance:PE Tryz.prog 387:=⟨Kq⟩
instance:PE Tryz.prog 9:=⟨Qm⟩
instance:wJ Tryz.prog 117 1 24:=⟨Nh⟩
instance:wJ Tryz.prog 119 4 48:=⟨Km⟩
instance:wJ Tryz.prog 125 4 48:=⟨Kl⟩
instance:wJ Tryz.prog 21 1 4:=⟨Pg⟩
instance:wJ Tryz.prog 231 2 16:=⟨Kk⟩
instance:wJ Tryz.prog 233 3 24:=⟨Kj⟩
instance:wJ Tryz.prog 247 1 8:=⟨Ng⟩
instance:wJ Tryz.prog 3 1 8:=⟨Ld⟩
instance:wJ Tryz.prog 308 3 24:=⟨Ki⟩
instance:wJ Tryz.prog 318 6 64:=⟨Hq⟩
instance:wJ Tryz.prog 324 7 72:=⟨Kh⟩
instance:wJ Tryz.prog 49 4 40:=⟨Nf⟩
instance:wJ Tryz.prog 5 1 1:=⟨Qh⟩
instance:wJ Tryz.prog 58 6 32:=⟨yB⟩
instance:wJ Tryz.prog 59 4 40:=⟨Nc⟩
instance:wJ Tryz.prog 9 1 16:=⟨Kg⟩
instance:cB Tryz.prog 111 0 0:=⟨⟨_,_,_,underlying111,rfl,rfl,fu⟩⟩
instance:cB Tryz.prog 111 1 1:=⟨⟨_,_,_,underlying111,rfl,rfl,BP⟩⟩
instance:cB Tryz.prog 113 0 0:=⟨⟨_,_,_,underlying113,rfl,rfl,zC⟩⟩
instance:cB Tryz.prog 113 1 1:=⟨⟨_,_,_,underlying113,rfl,rfl,iC⟩⟩
instance:cB Tryz.prog 113 2 6:=⟨⟨_,_,_,underlying113,rfl,rfl,JT⟩⟩
instance:cB Tryz.prog 113 3 8:=⟨⟨_,_,_,underlying113,rfl,rfl,F2⟩⟩
instance:cB Tryz.prog 113 4 12:=⟨⟨_,_,_,underlying113,rfl,rfl,zC⟩⟩
instance:cB Tryz.prog 113 5 13:=⟨⟨_,_,_,underlying113,rfl,rfl,fu⟩⟩
instance:cB Tryz.prog 119 0 0:=⟨⟨_,_,_,underlying119,rfl,rfl,fu⟩⟩
instance:cB Tryz.prog 119 1 1:=⟨⟨_,_,_,underlying119,rfl,rfl,Er⟩⟩
instance:cB Tryz.prog 119 2 2:=⟨⟨_,_,_,underlying119,rfl,rfl,kK⟩⟩
instance:cB Tryz.prog 119 3 3:=⟨⟨_,_,_,underlying119,rfl,rfl,Mj⟩⟩
instance:cB Tryz.prog 125 0 0:=⟨⟨_,_,_,underlying125,rfl,rfl,fu⟩⟩
instance:cB Tryz.prog 125 1 1:=⟨⟨_,_,_,underlying125,rfl,rfl,Er⟩⟩
instance:cB Tryz.prog 125 2 2:=⟨⟨_,_,_,underlying125,rfl,rfl,kK⟩⟩
instance:cB Tryz.prog 125 3 3:=⟨⟨_,_,_,underlying125,rfl,rfl,Mj⟩⟩
instance:cB Tryz.prog 134 1 1:=⟨⟨_,_,_,underlying134,rfl,rfl,Mw⟩⟩
instance:cB Tryz.prog 134 2 2:=⟨⟨_,_,_,underlying134,rfl,rfl,iC⟩⟩
instance:cB Tryz.prog 169 0 0:=⟨⟨_,_,_,underlying169,rfl,rfl,BP⟩⟩
instance:cB Tryz.prog 169 1 1:=⟨⟨_,_,_,underlying169,rfl,rfl,fu⟩⟩
instance:cB Tryz.prog 169 16 16:=⟨⟨_,_,_,underlying169,rfl,rfl,F3⟩⟩
instance:cB Tryz.prog 169 17 17:=⟨⟨_,_,_,underlying169,rfl,rfl,JS⟩⟩
instance:cB Tryz.prog 169 2 2:=⟨⟨_,_,_,underlying169,rfl,rfl,fu⟩⟩
instance:cB Tryz.prog 169 4 4:=⟨⟨_,_,_,underlying169,rfl,rfl,F3⟩⟩
instance:cB Tryz.prog 169 5 5:=⟨⟨_,_,_,underlying169,rfl,rfl,F3⟩⟩
instance:cB Tryz.prog 181 0 0:=⟨⟨_,_,_,underlying181,rfl,rfl,JR⟩⟩
instance:cB Tryz.prog 181 3 21:=⟨⟨_,_,_,underlying181,rfl,rfl,Mu⟩⟩
instance:cB Tryz.prog 185 0 0:=⟨⟨_,_,_,underlying185,rfl,rfl,BP⟩⟩
instance:cB Tryz.prog 185 1 1:=⟨⟨_,_,_,underlying185,rfl,rfl,Ms⟩⟩
instance:cB Tryz.prog 185 2 2:=⟨⟨_,_,_,underlying185,rfl,rfl,fu⟩⟩
instance:cB Tryz.prog 185 3 3:=⟨⟨_,_,_,underlying185,rfl,rfl,BP⟩⟩
instance:cB Tryz.prog 233 0 0:=⟨⟨_,_,_,underlying233,rfl,rfl,fu⟩⟩
instance:cB Tryz.prog 233 1 1:=⟨⟨_,_,_,underlying233,rfl,rfl,Dx⟩⟩
instance:cB Tryz.prog 238 0 0:=⟨⟨_,_,_,underlying238,rfl,rfl,Mt⟩⟩
instance:cB Tryz.prog 238 1 1:=⟨⟨_,_,_,underlying238,rfl,rfl,BP⟩⟩
instance:cB Tryz.prog 238 2 2:=⟨⟨_,_,_,underlying238,rfl,rfl,JP⟩⟩
instance:cB Tryz.prog 238 3 3:=⟨⟨_,_,_,underlying238,rfl,rfl,JO⟩⟩
instance:cB Tryz.prog 238 4 4:=⟨⟨_,_,_,underlying238,rfl,rfl,Dx⟩⟩
instance:cB Tryz.prog 238 5 6:=⟨⟨_,_,_,underlying238,rfl,rfl,JQ⟩⟩
instance:cB Tryz.prog 238 6 7:=⟨⟨_,_,_,underlying238,rfl,rfl,fu⟩⟩
instance:cB Tryz.prog 24 0 0:=⟨⟨_,_,_,underlying24,rfl,rfl,fu⟩⟩
instance:cB Tryz.prog 24 1 1:=⟨⟨_,_,_,underlying24,rfl,rfl,fu⟩⟩
instance:cB Tryz.prog 24 2 2:=⟨⟨_,_,_,underlying24,rfl,rfl,KH⟩⟩
instance:cB Tryz.prog 242 0 0:=⟨⟨_,_,_,underlying242,rfl,rfl,JN⟩⟩
instance:cB Tryz.prog 253 1 1:=⟨⟨_,_,_,underlying253,rfl,rfl,KG⟩⟩
instance:cB Tryz.prog 259 0 0:=⟨⟨_,_,_,underlying259,rfl,rfl,OR⟩⟩
instance:cB Tryz.prog 259 1 2:=⟨⟨_,_,_,underlying259,rfl,rfl,fu⟩⟩
instance:cB Tryz.prog 259 2 3:=⟨⟨_,_,_,underlying259,rfl,rfl,F2⟩⟩
instance:cB Tryz.prog 29 0 0:=⟨⟨_,_,_,underlying29,rfl,rfl,fu⟩⟩
instance:cB Tryz.prog 29 1 1:=⟨⟨_,_,_,underlying29,rfl,rfl,fu⟩⟩
instance:cB Tryz.prog 29 2 2:=⟨⟨_,_,_,underlying29,rfl,rfl,Iy⟩⟩
instance:cB Tryz.prog 299 0 0:=⟨⟨_,_,_,underlying299,rfl,rfl,Er⟩⟩
instance:cB Tryz.prog 299 1 1:=⟨⟨_,_,_,underlying299,rfl,rfl,Er⟩⟩
instance:cB Tryz.prog 303 2 2:=⟨⟨_,_,_,underlying303,rfl,rfl,fu⟩⟩
instance:cB Tryz.prog 308 0 0:=⟨⟨_,_,_,underlying308,rfl,rfl,fu⟩⟩
instance:cB Tryz.prog 308 1 1:=⟨⟨_,_,_,underlying308,rfl,rfl,fu⟩⟩
instance:cB Tryz.prog 308 2 2:=⟨⟨_,_,_,underlying308,rfl,rfl,fu⟩⟩
instance:cB Tryz.prog 314 0 0:=⟨⟨_,_,_,underlying314,rfl,rfl,JL⟩⟩
instance:cB Tryz.prog 314 1 1:=⟨⟨_,_,_,underlying314,rfl,rfl,fu⟩⟩
instance:cB Tryz.prog 318 0 0:=⟨⟨_,_,_,underlying318,rfl,rfl,fu⟩⟩
instance:cB Tryz.prog 318 1 1:=⟨⟨_,_,_,underlying318,rfl,rfl,F5⟩⟩
instance:cB Tryz.prog 318 2 5:=⟨⟨_,_,_,underlying318,rfl,rfl,Mp⟩⟩
instance:cB Tryz.prog 324 0 0:=⟨⟨_,_,_,underlying324,rfl,rfl,fu⟩⟩
instance:cB Tryz.prog 324 1 1:=⟨⟨_,_,_,underlying324,rfl,rfl,F5⟩⟩
instance:cB Tryz.prog 324 2 5:=⟨⟨_,_,_,underlying324,rfl,rfl,kK⟩⟩
instance:cB Tryz.prog 324 3 6:=⟨⟨_,_,_,underlying324,rfl,rfl,fu⟩⟩
instance:cB Tryz.prog 335 0 0:=⟨⟨_,_,_,underlying335,rfl,rfl,JK⟩⟩
instance:cB Tryz.prog 335 1 1:=⟨⟨_,_,_,underlying335,rfl,rfl,kK⟩⟩
instance:cB Tryz.prog 379 0 0:=⟨⟨_,_,_,underlying379,rfl,rfl,Mj⟩⟩
instance:cB Tryz.prog 379 1 1:=⟨⟨_,_,_,underlying379,rfl,rfl,Mj⟩⟩
instance:cB Tryz.prog 390 0 0:=⟨⟨_,_,_,underlying390,rfl,rfl,BP⟩⟩
instance:cB Tryz.prog 402 0 0:=⟨⟨_,_,_,underlying402,rfl,rfl,BP⟩⟩
instance:cB Tryz.prog 41 0 0:=⟨⟨_,_,_,underlying41,rfl,rfl,fu⟩⟩
instance:cB Tryz.prog 41 1 1:=⟨⟨_,_,_,underlying41,rfl,rfl,fu⟩⟩
instance:cB Tryz.prog 41 2 2:=⟨⟨_,_,_,underlying41,rfl,rfl,KG⟩⟩
instance:cB Tryz.prog 41 3 3:=⟨⟨_,_,_,underlying41,rfl,rfl,fu⟩⟩
instance:cB Tryz.prog 41 4 4:=⟨⟨_,_,_,underlying41,rfl,rfl,fu⟩⟩
instance:cB Tryz.prog 49 0 0:=⟨⟨_,_,_,underlying49,rfl,rfl,fu⟩⟩
instance:cB Tryz.prog 49 1 1:=⟨⟨_,_,_,underlying49,rfl,rfl,BP⟩⟩
instance:cB Tryz.prog 49 2 2:=⟨⟨_,_,_,underlying49,rfl,rfl,fu⟩⟩
instance:cB Tryz.prog 49 3 3:=⟨⟨_,_,_,underlying49,rfl,rfl,fu⟩⟩
instance:cB Tryz.prog 56 0 0:=⟨⟨_,_,_,underlying56,rfl,rfl,fu⟩⟩
instance:cB Tryz.prog 56 1 1:=⟨⟨_,_,_,underlying56,rfl,rfl,zC⟩⟩
instance:cB Tryz.prog 56 2 2:=⟨⟨_,_,_,underlying56,rfl,rfl,zC⟩⟩
instance:cB Tryz.prog 56 3 3:=⟨⟨_,_,_,underlying56,rfl,rfl,zC⟩⟩
instance:cB Tryz.prog 58 0 0:=⟨⟨_,_,_,underlying58,rfl,rfl,Er⟩⟩
instance:cB Tryz.prog 58 1 1:=⟨⟨_,_,_,underlying58,rfl,rfl,fu⟩⟩
instance:cB Tryz.prog 58 2 2:=⟨⟨_,_,_,underlying58,rfl,rfl,F2⟩⟩
instance:cB Tryz.prog 59 0 0:=⟨⟨_,_,_,underlying59,rfl,rfl,fu⟩⟩
instance:cB Tryz.prog 59 1 1:=⟨⟨_,_,_,underlying59,rfl,rfl,BP⟩⟩
instance:cB Tryz.prog 59 2 2:=⟨⟨_,_,_,underlying59,rfl,rfl,fu⟩⟩
instance:cB Tryz.prog 59 3 3:=⟨⟨_,_,_,underlying59,rfl,rfl,fu⟩⟩
instance:cB Tryz.prog 63 0 0:=⟨⟨_,_,_,underlying63,rfl,rfl,Mi⟩⟩
instance:cB Tryz.prog 63 1 1:=⟨⟨_,_,_,underlying63,rfl,rfl,Mh⟩⟩
instance:cB Tryz.prog 86 0 0:=⟨⟨_,_,_,underlying86,rfl,rfl,iC⟩⟩
instance:cB Tryz.prog 86 1 5:=⟨⟨_,_,_,underlying86,rfl,rfl,BP⟩⟩
instance:cB Tryz.prog 86 2 6:=⟨⟨_,_,_,underlying86,rfl,rfl,F2⟩⟩
instance:cB Tryz.prog 86 3 10:=⟨⟨_,_,_,underlying86,rfl,rfl,zC⟩⟩
instance:cB Tryz.prog 86 4 11:=⟨⟨_,_,_,underlying86,rfl,rfl,fu⟩⟩
instance:aZ Tryz.prog 10 f10:=⟨func10⟩
instance:aZ Tryz.prog 100 f100:=⟨func100⟩
instance:aZ Tryz.prog 101 f101:=⟨func101⟩
instance:aZ Tryz.prog 102 f102:=⟨func102⟩
instance:aZ Tryz.prog 103 f103:=⟨func103⟩
instance:aZ Tryz.prog 104 f104:=⟨func104⟩
instance:aZ Tryz.prog 105 f105:=⟨func105⟩
instance:aZ Tryz.prog 106 f106:=⟨func106⟩
instance:aZ Tryz.prog 107 f107:=⟨func107⟩
instance:aZ Tryz.prog 108 f108:=⟨func108⟩
instance:aZ Tryz.prog 109 f109:=⟨func109⟩
instance:aZ Tryz.prog 11 f11:=⟨func11⟩
instance:aZ Tryz.prog 110 f110:=⟨func110⟩
instance:aZ Tryz.prog 111 f111:=⟨func111⟩
instance:aZ Tryz.prog 12 Tryz.f12:=⟨func12⟩
instance:aZ Tryz.prog 126 f126:=⟨func126⟩
instance:aZ Tryz.prog 13 Tryz.f13:=⟨func13⟩
instance:aZ Tryz.prog 133 f133:=⟨func133⟩
instance:aZ Tryz.prog 134 f134:=⟨func134⟩
instance:aZ Tryz.prog 135 f135:=⟨func135⟩
instance:aZ Tryz.prog 136 f136:=⟨func136⟩
instance:aZ Tryz.prog 137 Tryz.f137:=⟨func137⟩
instance:aZ Tryz.prog 138 f138:=⟨func138⟩
instance:aZ Tryz.prog 139 f139:=⟨func139⟩
instance:aZ Tryz.prog 14 f14:=⟨func14⟩
instance:aZ Tryz.prog 140 f140:=⟨func140⟩
instance:aZ Tryz.prog 141 f141:=⟨func141⟩
instance:aZ Tryz.prog 142 f142:=⟨func142⟩
instance:aZ Tryz.prog 143 Tryz.f143:=⟨func143⟩
instance:aZ Tryz.prog 144 f144:=⟨func144⟩
instance:aZ Tryz.prog 145 Tryz.f145:=⟨func145⟩
instance:aZ Tryz.prog 146 f146:=⟨func146⟩
instance:aZ Tryz.prog 147 f147:=⟨func147⟩
instance:aZ Tryz.prog 148 f148:=⟨func148⟩
instance:aZ Tryz.prog 149 f149:=⟨func149⟩
instance:aZ Tryz.prog 15 f15:=⟨func15⟩
instance:aZ Tryz.prog 150 f150:=⟨func150⟩
instance:aZ Tryz.prog 151 f151:=⟨func151⟩
instance:aZ Tryz.prog 152 f152:=⟨func152⟩
instance:aZ Tryz.prog 153 f153:=⟨func153⟩
instance:aZ Tryz.prog 154 f154:=⟨func154⟩
instance:aZ Tryz.prog 155 f155:=⟨func155⟩
instance:aZ Tryz.prog 156 f156:=⟨func156⟩
instance:aZ Tryz.prog 157 f157:=⟨func157⟩
instance:aZ Tryz.prog 158 f158:=⟨func158⟩
instance:aZ Tryz.prog 159 f159:=⟨func159⟩
instance:aZ Tryz.prog 16 f16:=⟨func16⟩
instance:aZ Tryz.prog 160 f160:=⟨func160⟩
instance:aZ Tryz.prog 161 f161:=⟨func161⟩
instance:aZ Tryz.prog 162 f162:=⟨func162⟩
instance:aZ Tryz.prog 164 f164:=⟨func164⟩
instance:aZ Tryz.prog 165 f165:=⟨func165⟩
instance:aZ Tryz.prog 17 f17:=⟨func17⟩
instance:aZ Tryz.prog 175 f175:=⟨func175⟩
instance:aZ Tryz.prog 18 f18:=⟨func18⟩
instance:aZ Tryz.prog 19 f19:=⟨func19⟩
instance:aZ Tryz.prog 194 f194:=⟨func194⟩
instance:aZ Tryz.prog 195 f195:=⟨func195⟩
instance:aZ Tryz.prog 196 f196:=⟨func196⟩
instance:aZ Tryz.prog 197 Tryz.f197:=⟨func197⟩
instance:aZ Tryz.prog 198 f198:=⟨func198⟩
instance:aZ Tryz.prog 199 f199:=⟨func199⟩
instance:aZ Tryz.prog 20 f20:=⟨func20⟩
instance:aZ Tryz.prog 200 f200:=⟨func200⟩
instance:aZ Tryz.prog 201 f201:=⟨func201⟩
instance:aZ Tryz.prog 202 f202:=⟨func202⟩
instance:aZ Tryz.prog 203 f203:=⟨func203⟩
instance:aZ Tryz.prog 204 f204:=⟨func204⟩
instance:aZ Tryz.prog 206 f206:=⟨func206⟩
instance:aZ Tryz.prog 207 f207:=⟨func207⟩
instance:aZ Tryz.prog 208 f208:=⟨func208⟩
instance:aZ Tryz.prog 209 f209:=⟨func209⟩
instance:aZ Tryz.prog 21 f21:=⟨func21⟩
instance:aZ Tryz.prog 210 f210:=⟨func210⟩
instance:aZ Tryz.prog 211 f211:=⟨func211⟩
instance:aZ Tryz.prog 212 f212:=⟨func212⟩
instance:aZ Tryz.prog 213 f213:=⟨func213⟩
instance:aZ Tryz.prog 214 f214:=⟨func214⟩
instance:aZ Tryz.prog 215 f215:=⟨func215⟩
instance:aZ Tryz.prog 216 f216:=⟨func216⟩
instance:aZ Tryz.prog 217 Tryz.f217:=⟨func217⟩
instance:aZ Tryz.prog 218 f218:=⟨func218⟩
instance:aZ Tryz.prog 219 Tryz.f219:=⟨func219⟩
instance:aZ Tryz.prog 22 f22:=⟨func22⟩
instance:aZ Tryz.prog 220 Tryz.f220:=⟨func220⟩
instance:aZ Tryz.prog 222 f222:=⟨func222⟩
instance:aZ Tryz.prog 223 f223:=⟨func223⟩
instance:aZ Tryz.prog 224 Tryz.f224:=⟨func224⟩
instance:aZ Tryz.prog 225 Tryz.f225:=⟨func225⟩
instance:aZ Tryz.prog 226 f226:=⟨func226⟩
instance:aZ Tryz.prog 228 f228:=⟨func228⟩
instance:aZ Tryz.prog 23 f23:=⟨func23⟩
instance:aZ Tryz.prog 230 f230:=⟨func230⟩
instance:aZ Tryz.prog 24 f24:=⟨func24⟩
instance:aZ Tryz.prog 25 f25:=⟨func25⟩
instance:aZ Tryz.prog 256 f256:=⟨func256⟩
instance:aZ Tryz.prog 257 f257:=⟨func257⟩
instance:aZ Tryz.prog 258 f258:=⟨func258⟩
instance:aZ Tryz.prog 259 f259:=⟨func259⟩
instance:aZ Tryz.prog 26 f26:=⟨func26⟩
instance:aZ Tryz.prog 260 Tryz.f260:=⟨func260⟩
instance:aZ Tryz.prog 267 Tryz.f267:=⟨func267⟩
instance:aZ Tryz.prog 268 f268:=⟨func268⟩
instance:aZ Tryz.prog 269 f269:=⟨func269⟩
instance:aZ Tryz.prog 27 f27:=⟨func27⟩
instance:aZ Tryz.prog 270 f270:=⟨func270⟩
instance:aZ Tryz.prog 271 f271:=⟨func271⟩
instance:aZ Tryz.prog 272 f272:=⟨func272⟩
instance:aZ Tryz.prog 273 f273:=⟨func273⟩
instance:aZ Tryz.prog 276 f276:=⟨func276⟩
instance:aZ Tryz.prog 277 f277:=⟨func277⟩
instance:aZ Tryz.prog 278 f278:=⟨func278⟩
instance:aZ Tryz.prog 279 Tryz.f279:=⟨func279⟩
instance:aZ Tryz.prog 28 f28:=⟨func28⟩
instance:aZ Tryz.prog 29 f29:=⟨func29⟩
instance:aZ Tryz.prog 295 f295:=⟨func295⟩
instance:aZ Tryz.prog 296 f296:=⟨func296⟩
instance:aZ Tryz.prog 3 Tryz.f3:=⟨func3⟩
instance:aZ Tryz.prog 30 f30:=⟨func30⟩
instance:aZ Tryz.prog 300 f300:=⟨func300⟩
instance:aZ Tryz.prog 301 f301:=⟨func301⟩
instance:aZ Tryz.prog 302 f302:=⟨func302⟩
instance:aZ Tryz.prog 303 f303:=⟨func303⟩
instance:aZ Tryz.prog 304 f304:=⟨func304⟩
instance:aZ Tryz.prog 31 f31:=⟨func31⟩
instance:aZ Tryz.prog 32 f32:=⟨func32⟩
instance:aZ Tryz.prog 33 f33:=⟨func33⟩
instance:aZ Tryz.prog 332 f332:=⟨func332⟩
instance:aZ Tryz.prog 34 f34:=⟨func34⟩
instance:aZ Tryz.prog 35 f35:=⟨func35⟩
instance:aZ Tryz.prog 36 Tryz.f36:=⟨func36⟩
instance:aZ Tryz.prog 367 f367:=⟨func367⟩
instance:aZ Tryz.prog 368 f368:=⟨func368⟩
instance:aZ Tryz.prog 369 f369:=⟨func369⟩
instance:aZ Tryz.prog 37 f37:=⟨func37⟩
instance:aZ Tryz.prog 38 f38:=⟨func38⟩
instance:aZ Tryz.prog 384 f384:=⟨func384⟩
instance:aZ Tryz.prog 385 f385:=⟨func385⟩
instance:aZ Tryz.prog 386 f386:=⟨func386⟩
instance:aZ Tryz.prog 387 f387:=⟨func387⟩
instance:aZ Tryz.prog 39 f39:=⟨func39⟩
instance:aZ Tryz.prog 391 f391:=⟨func391⟩
instance:aZ Tryz.prog 392 f392:=⟨func392⟩
instance:aZ Tryz.prog 4 Tryz.f4:=⟨func4⟩
instance:aZ Tryz.prog 42 f42:=⟨func42⟩
instance:aZ Tryz.prog 43 f43:=⟨func43⟩
instance:aZ Tryz.prog 44 f44:=⟨func44⟩
instance:aZ Tryz.prog 45 f45:=⟨func45⟩
instance:aZ Tryz.prog 47 f47:=⟨func47⟩
instance:aZ Tryz.prog 49 f49:=⟨func49⟩
instance:aZ Tryz.prog 5 Tryz.f5:=⟨func5⟩
instance:aZ Tryz.prog 50 f50:=⟨func50⟩
instance:aZ Tryz.prog 51 f51:=⟨func51⟩
instance:aZ Tryz.prog 52 f52:=⟨func52⟩
instance:aZ Tryz.prog 53 f53:=⟨func53⟩
instance:aZ Tryz.prog 54 f54:=⟨func54⟩
instance:aZ Tryz.prog 55 f55:=⟨func55⟩
instance:aZ Tryz.prog 56 f56:=⟨func56⟩
instance:aZ Tryz.prog 57 f57:=⟨func57⟩
instance:aZ Tryz.prog 58 f58:=⟨func58⟩
instance:aZ Tryz.prog 59 f59:=⟨func59⟩
instance:aZ Tryz.prog 6 f6:=⟨func6⟩
instance:aZ Tryz.prog 60 f60:=⟨func60⟩
instance:aZ Tryz.prog 61 f61:=⟨func61⟩
instance:aZ Tryz.prog 62 f62:=⟨func62⟩
instance:aZ Tryz.prog 63 f63:=⟨func63⟩
instance:aZ Tryz.prog 64 f64:=⟨func64⟩
instance:aZ Tryz.prog 65 f65:=⟨func65⟩
instance:aZ Tryz.prog 66 f66:=⟨func66⟩
instance:aZ Tryz.prog 7 Tryz.f7:=⟨func7⟩
instance:aZ Tryz.prog 71 f71:=⟨func71⟩
instance:aZ Tryz.prog 72 f72:=⟨func72⟩
instance:aZ Tryz.prog 74 f74:=⟨func74⟩
instance:aZ Tryz.prog 75 f75:=⟨func75⟩
instance:aZ Tryz.prog 79 f79:=⟨func79⟩
instance:aZ Tryz.prog 8 f8:=⟨func8⟩
instance:aZ Tryz.prog 80 f80:=⟨func80⟩
instance:aZ Tryz.prog 81 f81:=⟨func81⟩
instance:aZ Tryz.prog 82 f82:=⟨func82⟩
instance:aZ Tryz.prog 83 f83:=⟨func83⟩
instance:aZ Tryz.prog 84 f84:=⟨func84⟩
instance:aZ Tryz.prog 85 f85:=⟨func85⟩
instance:aZ Tryz.prog 86 f86:=⟨func86⟩
instance:aZ Tryz.prog 87 f87:=⟨func87⟩
instance:aZ Tryz.prog 88 f88:=⟨func88⟩
instance:aZ Tryz.prog 89 f89:=⟨func89⟩
instance:aZ Tryz.prog 9 Tryz.f9:=⟨func9⟩
instance:aZ Tryz.prog 90 f90:=⟨func90⟩
instance:aZ Tryz.prog 91 f91:=⟨func91⟩
instance:aZ Tryz.prog 92 f92:=⟨func92⟩
instance:aZ Tryz.prog 93 f93:=⟨func93⟩
instance:aZ Tryz.prog 94 f94:=⟨func94⟩
instance:aZ Tryz.prog 95 f95:=⟨func95⟩
instance:aZ Tryz.prog 96 f96:=⟨func96⟩
instance:aZ Tryz.prog 97 f97:=⟨func97⟩
instance:aZ Tryz.prog 98 f98:=⟨func98⟩
instance:aZ Tryz.prog 99 f99:=⟨func99⟩
instance:LQ Tryz.prog:=⟨mixed⟩
instance:ia Tryz.prog 106 1:=⟨Mz⟩
instance:ia Tryz.prog 111 2:=⟨JT⟩
instance:ia Tryz.prog 117 1:=⟨kK⟩
instance:ia Tryz.prog 119 4:=⟨My⟩
instance:ia Tryz.prog 125 4:=⟨Mx⟩
instance:ia Tryz.prog 167 1:=⟨JS⟩
instance:ia Tryz.prog 169 19:=⟨JR⟩
instance:ia Tryz.prog 185 5:=⟨Mr⟩
instance:ia Tryz.prog 21 1:=⟨Er⟩
instance:ia Tryz.prog 22 1:=⟨KH⟩
instance:ia Tryz.prog 231 2:=⟨Dx⟩
instance:ia Tryz.prog 233 3:=⟨Mq⟩
instance:ia Tryz.prog 234 1:=⟨JQ⟩
instance:ia Tryz.prog 235 1:=⟨JP⟩
instance:ia Tryz.prog 236 1:=⟨JO⟩
instance:ia Tryz.prog 24 3:=⟨mq⟩
instance:ia Tryz.prog 240 1:=⟨JN⟩
instance:ia Tryz.prog 27 1:=⟨Iy⟩
instance:ia Tryz.prog 29 3:=⟨B5⟩
instance:ia Tryz.prog 299 2:=⟨zU⟩
instance:ia Tryz.prog 3 1:=⟨fu⟩
instance:ia Tryz.prog 308 3:=⟨JM⟩
instance:ia Tryz.prog 31 1:=⟨Ep⟩
instance:ia Tryz.prog 312 1:=⟨JL⟩
instance:ia Tryz.prog 315 4:=⟨F5⟩
instance:ia Tryz.prog 318 6:=⟨lz⟩
instance:ia Tryz.prog 324 7:=⟨Mo⟩
instance:ia Tryz.prog 328 1:=⟨Mn⟩
instance:ia Tryz.prog 330 3:=⟨F4⟩
instance:ia Tryz.prog 333 1:=⟨JK⟩
instance:ia Tryz.prog 339 256:=⟨Mm⟩
instance:ia Tryz.prog 379 2:=⟨Ml⟩
instance:ia Tryz.prog 39 1:=⟨KG⟩
instance:ia Tryz.prog 4 1:=⟨zC⟩
instance:ia Tryz.prog 41 5:=⟨iC⟩
instance:ia Tryz.prog 47 1:=⟨F3⟩
instance:ia Tryz.prog 49 4:=⟨Mk⟩
instance:ia Tryz.prog 5 1:=⟨Mj⟩
instance:ia Tryz.prog 56 4:=⟨F2⟩
instance:ia Tryz.prog 58 6:=⟨lu⟩
instance:ia Tryz.prog 59 4:=⟨KF⟩
instance:ia Tryz.prog 60 1:=⟨Mi⟩
instance:ia Tryz.prog 61 1:=⟨Mh⟩
instance:ia Tryz.prog 9 1:=⟨BP⟩
instance:iy Tryz.prog 106 (.int .u64):=⟨underlying106⟩
instance:iy Tryz.prog 114 (.slice 119):=⟨underlying114⟩
instance:iy Tryz.prog 117 (.slice 3):=⟨underlying117⟩
instance:iy Tryz.prog 122 (.slice 125):=⟨underlying122⟩
instance:iy Tryz.prog 167 (.slice 4):=⟨underlying167⟩
instance:iy Tryz.prog 183 (.slice 56):=⟨underlying183⟩
instance:iy Tryz.prog 21 (.int .i32):=⟨underlying21⟩
instance:iy Tryz.prog 22 (.slice 49):=⟨underlying22⟩
instance:iy Tryz.prog 220 (.slice 21):=⟨underlying220⟩
instance:iy Tryz.prog 234 (.slice 233):=⟨underlying234⟩
instance:iy Tryz.prog 235 (.slice 308):=⟨underlying235⟩
instance:iy Tryz.prog 236 (.slice 231):=⟨underlying236⟩
instance:iy Tryz.prog 240 (.slice 247):=⟨underlying240⟩
instance:iy Tryz.prog 27 (.slice 59):=⟨underlying27⟩
instance:iy Tryz.prog 280 (.int .u64):=⟨underlying280⟩
instance:iy Tryz.prog 297 (.slice 299):=⟨underlying297⟩
instance:iy Tryz.prog 3 (.int .i64):=⟨underlying3⟩
instance:iy Tryz.prog 312 (.slice 324):=⟨underlying312⟩
instance:iy Tryz.prog 315 (.array 4 106):=⟨underlying315⟩
instance:iy Tryz.prog 316 (.slice 318):=⟨underlying316⟩
instance:iy Tryz.prog 328 (.slice 330):=⟨underlying328⟩
instance:iy Tryz.prog 331 (.array 3 328):=⟨underlying331⟩
instance:iy Tryz.prog 333 (.slice 339):=⟨underlying333⟩
instance:iy Tryz.prog 338 (.slice 117):=⟨underlying338⟩
instance:iy Tryz.prog 339 (.array 256 3):=⟨underlying339⟩
instance:iy Tryz.prog 377 (.array 256 5):=⟨underlying377⟩
instance:iy Tryz.prog 380 (.array 16 379):=⟨underlying380⟩
instance:iy Tryz.prog 39 (.slice 58):=⟨underlying39⟩
instance:iy Tryz.prog 47 (.slice 9):=⟨underlying47⟩
instance:iy Tryz.prog 5 (.int .u8):=⟨underlying5⟩
instance:iy Tryz.prog 61 (.slice 5):=⟨underlying61⟩
instance:iy Tryz.prog 87 (.slice 91):=⟨underlying87⟩
instance:iy Tryz.prog 9 (.string):=⟨underlying9⟩
instance:qx Tryz.prog 111 (.agg #[.int .i64 (0),.string ⟨#[]⟩]):=⟨L8⟩
instance:qx Tryz.prog 117 (.slice none 0 0):=⟨L7⟩
instance:qx Tryz.prog 119 (.agg #[.int .i64 (0),.int .i32 (0),.slice none 0 0,.int .u8 (0)]):=⟨L6⟩
instance:qx Tryz.prog 125 (.agg #[.int .i64 (0),.int .i32 (0),.slice none 0 0,.int .u8 (0)]):=⟨L5⟩
instance:qx Tryz.prog 169 (.agg #[.string ⟨#[]⟩,.int .i64 (0),.int .i64 (0),.int .i64 (0),.slice none 0 0,.slice none 0 0,.int .i64 (0),.string ⟨#[]⟩,.int .i64 (0),.int .i64 (0),.int .i64 (0),.string ⟨#[]⟩,.int .i64 (0),.string ⟨#[]⟩,.int .i64 (0),.int .i64 (0),.slice none 0 0,.slice none 0 0,.int .i64 (0)]):=⟨L4⟩
instance:qx Tryz.prog 185 (.agg #[.string ⟨#[]⟩,.slice none 0 0,.int .i64 (0),.string ⟨#[]⟩,.string ⟨#[]⟩]):=⟨L3⟩
instance:qx Tryz.prog 231 (.agg #[.int .i64 (0),.int .i64 (0)]):=⟨L1⟩
instance:qx Tryz.prog 233 (.agg #[.int .i64 (0),.int .i64 (0),.int .i64 (0)]):=⟨L0⟩
instance:qx Tryz.prog 24 (.agg #[.int .i64 (0),.int .i64 (0),.slice none 0 0]):=⟨OJ⟩
instance:qx Tryz.prog 29 (.agg #[.int .i64 (0),.int .i64 (0),.slice none 0 0]):=⟨LZ⟩
instance:qx Tryz.prog 3 (.int .i64 (0)):=⟨OI⟩
instance:qx Tryz.prog 308 (.agg #[.int .i64 (0),.int .i64 (0),.int .i64 (0)]):=⟨LY⟩
instance:qx Tryz.prog 31 (.int .i64 (0)):=⟨OH⟩
instance:qx Tryz.prog 318 (.agg #[.int .i64 (0),.int .u64 (0),.int .u64 (0),.int .u64 (0),.int .u64 (0),.slice none 0 0]):=⟨JG⟩
instance:qx Tryz.prog 330 (.agg #[.string ⟨#[]⟩,.int .i64 (0),.int .i64 (0)]):=⟨JF⟩
instance:qx Tryz.prog 339 (.agg (Array.replicate 256 (.int .i64 (0)))):=⟨LX⟩
instance:qx Tryz.prog 379 (.agg #[.int .u8 (0),.int .u8 (0)]):=⟨LW⟩
instance:qx Tryz.prog 4 (.bool false):=⟨OG⟩
instance:qx Tryz.prog 41 (.agg #[.int .i64 (0),.int .i64 (0),.slice none 0 0,.int .i64 (0),.int .i64 (0)]):=⟨FM⟩
instance:qx Tryz.prog 47 (.slice none 0 0):=⟨OF⟩
instance:qx Tryz.prog 49 (.agg #[.int .i64 (0),.string ⟨#[]⟩,.int .i64 (0),.int .i64 (0)]):=⟨OE⟩
instance:qx Tryz.prog 56 (.agg #[.int .i64 (0),.bool false,.bool false,.bool false]):=⟨LV⟩
instance:qx Tryz.prog 58 (.agg #[.int .i32 (0),.int .i64 (0),.int .i64 (0),.bool false,.bool false,.bool false]):=⟨Kz⟩
instance:qx Tryz.prog 59 (.agg #[.int .i64 (0),.string ⟨#[]⟩,.int .i64 (0),.int .i64 (0)]):=⟨OD⟩
instance:qx Tryz.prog 63 (.agg #[.pointer none,.slice none 0 0]):=⟨OC⟩
end Go.Proofs.YtckomlgchbkekaaGreatDoor.H
namespace Go.Proofs.YtckomlgchbkekaaGreatDoor
section
variable {i:Nat}
abbrev By:=List UInt8
inductive Nd where
 |mk (kind:Nat) (set:Nat) (kids:List Nd)
def Nd.kind:Nd->Nat|.mk k _ _=>k
def Nd.set:Nd->Nat|.mk _ s _=>s
def Nd.kids:Nd->List Nd|.mk _ _ l=>l
def HT:Nat:=2 ^ 256-1
def vI (s a:Nat):Nat->Nat
 | 0=>s
 |n+1=>vI (s |||(1 <<< a)) (a+1) n
def mF (s:Nat) (a b:UInt8):Nat:=vI s a.toNat (b.toNat+1-a.toNat)
def lM (s:Nat):Nat:=HT ^^^ s
def ze (b:UInt8):Nd:=.mk 1 (mF 0 b b) []
def Kp:Nd:=.mk 1 (mF (mF 0 0 9) 11 255) []
def mh:Nd:=.mk 0 0 []
def eS:By:=[40,41,91,93,124,42,43,63,46,92,45,94]
def jX (b:UInt8):Option Nat :=
 if 48<=b.toNat/\b.toNat<=57 then some (b.toNat-48) else if 97<=b.toNat/\b.toNat<=102 then some (b.toNat-87) else if 65<=b.toNat/\b.toNat<=70 then some (b.toNat-55) else none
def ou:By->Option (UInt8×By)
 | []=>none
 |b::r =>
  if b=110 then some (10,r) else if b=116 then some (9,r) else if b=114 then some (13,r)
  else if b=120 then
   match r with
   |x::y::r=>match jX x,jX y with
    |some m,some n=>some (UInt8.ofNat (m*16+n),r)
    |_,_=>none
   |_=>none
  else if b∈eS then some (b,r) else none
def ni:By->Option (UInt8×By)
 | []=>none
 |b::r=>if b=92 then ou r else if b∈eS then none else some (b,r)
def dW (s:By):Option ((UInt8×UInt8)×By) :=
 match ni s with
 |none=>none
 |some (a,r)=>match r with
  | 45::r'=>match ni r' with
   |none=>none
   |some (b,r'')=>if b.toNat<a.toNat then none else some ((a,b),r'')
  |_=>some ((a,a),r)
def kM:Nat->Nat->By->Option (Nat×By)
 | 0,_,_=>none
 |n+1,acc,s=>match dW s with
  |none=>none
  |some ((a,b),r)=>match r with
   | 93::r'=>some (mF acc a b,r')
   |_=>kM n (mF acc a b) r
def gR (s:By):Option (Nd×By) :=
 match s with
 | 94::r=>(kM (r.length+1) 0 r).map fun p=>(.mk 1 (lM p.1) [],p.2)
 |_=>(kM (s.length+1) 0 s).map fun p=>(.mk 1 p.1 [],p.2)
def eC (rows:By->Option (Nd×By)):By->Option (Nd×By)
 | []=>none
 |c::r =>
  if c=40 then
   match rows r with
   |none=>none
   |some (n,r')=>match r' with
    | 41::r''=>some (n,r'')
    |_=>none
  else if c=91 then gR r
  else if c=46 then some (Kp,r)
  else if c=92 then (ou r).map fun p=>(ze p.1,p.2)
  else if c∈[(41:UInt8),93,124,42,43,63] then none
  else some (ze c,r)
def cG (c:UInt8):Nat:=if c=42 then 4 else if c=43 then 5 else if c=63 then 6 else 0
def dR (n:Nd):By->Nd×By
 | []=>(n,[])
 |c::r=>if cG c=0 then (n,c::r) else dR (.mk (cG c) 0 [n]) r
def fm (rows:By->Option (Nd×By)) (s:By):Option (Nd×By) :=
 (eC rows s).map fun p=>dR p.1 p.2
def bG (kind:Nat):List Nd->Nd
 | []=>mh
 | [n]=>n
 |l=>.mk kind 0 l
def iZ:By->Bool
 | []=>true
 |c::_=>c ==124 ||c ==41
def lG (rows:By->Option (Nd×By)):Nat->By->Option (List Nd×By)
 | 0,_=>none
 |n+1,s=>if iZ s then some ([],s) else
  match fm rows s with
  |none=>none
  |some (x,r)=>(lG rows n r).map fun p=>(x::p.1,p.2)
def hU (rows:By->Option (Nd×By)):Nat->List Nd->List Nd->By->Option (Nd×By)
 | 0,_,_,_=>none
 |n+1,all,row,s=>if iZ s then
  if s.head? =some 124 then hU rows n (all++[bG 2 row]) [] s.tail
  else some (bG 3 (all++[bG 2 row]),s)
  else match fm rows s with
   |none=>none
   |some (x,r)=>hU rows n all (row++[x]) r
def cW:Nat->By->Option (Nd×By)
 | 0,_=>none
 |d+1,s=>hU (cW d) (s.length+1) [] [] s
def ja (s:By):Option Nd :=
 match cW (s.length+1) s with
 |some (n,[])=>some n
 |_=>none
theorem tE {s:By}{b:UInt8}{r:By}(h:ou s=some (b,r)):r.length<s.length:=by
 unfold ou at h;split at h
 · cases h
 · rename_i c t;split at h
   · cases h;simp
   · split at h
     · cases h;simp
     · split at h
       · cases h;simp
       · split at h
         · split at h
           · split at h
             · cases h;simp only[List.length_cons];omega
             · cases h
           · cases h
         · split at h
           · cases h;simp
           · cases h
theorem n7 {s:By}{b:UInt8}{r:By}(h:ni s=some (b,r)):r.length<s.length:=by
 unfold ni at h;split at h
 · cases h
 · split at h
   · have:=tE h;simp only[List.length_cons];omega
   · split at h
     · cases h
     · cases h;simp
theorem lO {s:By}{p:UInt8×UInt8}{r:By}(h:dW s=some (p,r)):r.length<s.length:=by
 unfold dW at h;split at h
 · cases h
 · rename_i a t ha;have h1:=n7 ha;split at h
   · rename_i t';split at h
     · cases h
     · rename_i b t'' hb;have h2:=n7 hb;split at h
       · cases h
       · cases h;simp only[List.length_cons] at h1;omega
   · cases h;exact h1
theorem oP:∀(n acc:Nat){s:By}{m:Nat}{r:By},kM n acc s=some (m,r)->r.length<s.length
 | 0,_,s,m,r,h=>by cases h
 |n+1,acc,s,m,r,h=>by
  rw[kM] at h;split at h
  · cases h
  · rename_i a b t ht;have h1:=lO ht;split at h
    · cases h;simp only[List.length_cons] at h1;omega
    · have:=oP n _ h;omega
theorem oE {s:By}{x:Nd}{r:By}(h:gR s=some (x,r)):r.length<s.length:=by
 unfold gR at h;split at h
 · rename_i t;simp only[Option.map_eq_some_iff] at h;obtain⟨⟨m,r'⟩,h1,h2⟩:=h;cases h2;have:=oP _ _ h1;simp only[List.length_cons];omega
 · simp only[Option.map_eq_some_iff] at h;obtain⟨⟨m,r'⟩,h1,h2⟩:=h;cases h2;exact oP _ _ h1
theorem wA {rows:By->Option (Nd×By)}(hr:∀{s x r},rows s=some (x,r)->r.length<=s.length){s:By}{x:Nd}{r:By}(h:eC rows s=some (x,r)):r.length<s.length:=by
 unfold eC at h;split at h
 · cases h
 · rename_i c t;simp only[List.length_cons];split at h
   · split at h
     · cases h
     · rename_i n t' ht;have:=hr ht;split at h
       · rename_i t'' _;cases h;simp only[List.length_cons] at this;omega
       · cases h
   · split at h
     · have:=oE h;omega
     · split at h
       · cases h;omega
       · split at h
         · simp only[Option.map_eq_some_iff] at h;obtain⟨⟨b,r'⟩,h1,h2⟩:=h;cases h2;have:=tE h1;dsimp only;omega
         · split at h
           · cases h
           · cases h;omega
theorem rH:∀(s:By) (n:Nd),(dR n s).2.length<=s.length
 | [],n=>by simp[dR]
 |c::r,n=>by
  rw[dR];split
  · simp
  · have:=rH r (.mk (cG c) 0 [n]);simp only[List.length_cons];omega
theorem fk {rows:By->Option (Nd×By)}(hr:∀{s x r},rows s=some (x,r)->r.length<=s.length){s:By}{x:Nd}{r:By}(h:fm rows s=some (x,r)):r.length<s.length:=by
 unfold fm at h;simp only[Option.map_eq_some_iff] at h;obtain⟨⟨n,t⟩,h1,h2⟩:=h;have h3:=wA hr h1;have h4:=rH t n;rw[h2] at h4;simp only at h4;omega
theorem oS {rows:By->Option (Nd×By)}(hr:∀{s x r},rows s=some (x,r)->r.length<=s.length):∀(n:Nat) (all row:List Nd){s:By}{x:Nd}{r:By},hU rows n all row s=some (x,r)->r.length<=s.length/\(r=[]\/r.head? =some 41)
 | 0,_,_,s,x,r,h=>by cases h
 |n+1,all,row,s,x,r,h=>by
  rw[hU] at h;split at h
  · rename_i he;split at h
    · have:=oS hr n _ _ h;exact⟨by have h2:=this.1;simp only[List.length_tail] at h2;omega,this.2⟩
    · rename_i hn;cases h;refine⟨Nat.le_refl _,?_⟩;cases s with
      |nil=>exact .inl rfl
      |cons c t =>
       right
       unfold iZ at he;have h1:c≠124:=fun e=>hn (by rw[e];rfl)
       simp[h1] at he;simp[he]
  · split at h
    · cases h
    · rename_i y t ht;have h1:=fk hr ht;have h2:=oS hr n _ _ h;exact⟨by omega,h2.2⟩
theorem ju:∀(d:Nat){s:By}{x:Nd}{r:By},cW d s=some (x,r)->r.length<=s.length
 | 0,s,x,r,h=>by cases h
 |d+1,s,x,r,h=>(oS (fun h=>ju d h) _ _ _ h).1
theorem Am {rows:By->Option (Nd×By)}(hr:∀{s x r},rows s=some (x,r)->r.length<=s.length):∀(n:Nat){s:By}{l:List Nd}{r:By},lG rows n s=some (l,r)->r.length<=s.length/\iZ r=true/\l.length<=s.length
 | 0,s,l,r,h=>by cases h
 |n+1,s,l,r,h=>by
  rw[lG] at h;split at h
  · rename_i he;cases h;exact⟨Nat.le_refl _,he,Nat.zero_le _⟩
  · split at h
    · cases h
    · rename_i y t ht;have h1:=fk hr ht;simp only[Option.map_eq_some_iff] at h;obtain⟨⟨m,r'⟩,h2,h3⟩:=h;cases h3;have h4:=Am hr n h2;have h5:=h4.1;have h6:=h4.2.2;exact⟨by first|omega|(dsimp only;omega),h4.2.1,by simp only[List.length_cons];first|omega|(dsimp only at h6;omega)⟩
theorem rR {rows:By->Option (Nd×By)}(hr:∀{s x r},rows s=some (x,r)->r.length<=s.length):∀(k:Nat) (n m:Nat) (all row:List Nd) (s:By),s.length<=k->s.length<n->s.length<m->hU rows n all row s=hU rows m all row s:=by
 intro k
 induction k with
 |zero =>
  intro n m all row s hk hn hm;cases n with
  |zero=>omega
  |succ n =>
   cases m with
   |zero=>omega
   |succ m =>
    have:s=[]:=List.eq_nil_of_length_eq_zero (by omega);subst this;rfl
 |succ k ih =>
  intro n m all row s hk hn hm;cases n with
  |zero=>omega
  |succ n =>
   cases m with
   |zero=>omega
   |succ m =>
    rw[hU,hU];split
    · split
      · rename_i h1;have h2:s.tail.length+1=s.length:=by cases s with|nil=>cases h1|cons a b=>simp
        exact ih _ _ _ _ _ (by omega) (by omega) (by omega)
      · rfl
    · cases hp:fm rows s with
      |none=>rfl
      |some p =>
       obtain⟨y,t⟩:=p;have:=fk hr hp;exact ih _ _ _ _ _ (by omega) (by omega) (by omega)
theorem vO {rows:By->Option (Nd×By)}(hr:∀{s x r},rows s=some (x,r)->r.length<=s.length):∀(n m:Nat) (s:By),s.length<n->s.length<m->lG rows n s=lG rows m s
 | 0,_,_,h,_=>by omega
 |_,0,_,_,h=>by omega
 |n+1,m+1,s,hn,hm=>by
  rw[lG,lG];split
  · rfl
  · cases hp:fm rows s with
    |none=>rfl
    |some p =>
     obtain⟨y,t⟩:=p;have:=fk hr hp;simp only;rw[vO hr n m t (by omega) (by omega)]
def xF (rows:By->Option (Nd×By)) (s:By):Option (Nd×By):=(lG rows (s.length+1) s).map fun p=>(bG 2 p.1,p.2)
def qp (rows:By->Option (Nd×By)) (all:List Nd) (m:By):Option (Nd×By) :=
 if m.head? =some 124 then hU rows (m.tail.length+1) all [] m.tail else some (bG 3 all,m)
theorem EE {rows:By->Option (Nd×By)}(hr:∀{s x r},rows s=some (x,r)->r.length<=s.length):∀(n m:Nat) (all row:List Nd) (s:By),s.length<n->s.length<m ->
 hU rows n all row s=match lG rows m s with
  |none=>none
  |some (l,r)=>if r.head? =some 124 then hU rows (r.length+1) (all++[bG 2 (row++l)]) [] r.tail else some (bG 3 (all++[bG 2 (row++l)]),r):=by
 have fuel:=fun k=>@rR rows hr k
 intro n
 induction n with
 |zero=>intro m all row s h;omega
 |succ n ih =>
  intro m all row s hn hm;cases m with
  |zero=>omega
  |succ m =>
   rw[hU,lG]
   by_cases he:iZ s=true
   · rw[if_pos he,if_pos he];simp only[List.append_nil];split
     · rename_i h1;have h2:s.tail.length+1=s.length:=by cases s with|nil=>cases h1|cons a b=>simp
       exact fuel _ _ _ _ _ _ (Nat.le_refl _) (by omega) (by omega)
     · rfl
   · rw[if_neg he,if_neg he];cases hp:fm rows s with
     |none=>rfl
     |some p =>
      obtain⟨y,t⟩:=p;have hlt:=fk hr hp;simp only;rw[ih m all (row++[y]) t (by omega) (by omega)];cases hl:lG rows m t with
      |none=>rfl
      |some q =>
       obtain⟨l,r⟩:=q;simp only[Option.map_some,List.append_assoc,List.singleton_append]
theorem rS {rows:By->Option (Nd×By)}(hr:∀{s x r},rows s=some (x,r)->r.length<=s.length) (all:List Nd) (s:By) :
 hU rows (s.length+1) all [] s=match xF rows s with|none=>none|some (x,r)=>qp rows (all++[x]) r:=by
 rw[EE hr _ (s.length+1) _ _ _ (Nat.lt_succ_self _) (Nat.lt_succ_self _)];unfold xF;cases hl:lG rows (s.length+1) s with
 |none=>rfl
 |some q =>
  obtain⟨l,r⟩:=q;simp only[Option.map_some,List.nil_append,qp];split
  · exact rR hr r.length _ _ _ _ _ (by simp) (by simp;omega) (by omega)
  · rfl
theorem Al {rows:By->Option (Nd×By)}(hr:∀{s x r},rows s=some (x,r)->r.length<=s.length){s:By}{x:Nd}{r:By}(h:xF rows s=some (x,r)):r.length<=s.length:=by
 unfold xF at h;simp only[Option.map_eq_some_iff] at h;obtain⟨⟨l,r'⟩,h1,h2⟩:=h;cases h2;exact(Am hr _ h1).1
def b6 (s:By):Nd×Int:=if 200<s.length then (mh,3) else match ja s with|some x=>(x,0)|none=>(mh,10)
structure cL where
 kind:Nat
 set:Nat
 to:List Nat
 rule:Nat
end
mutual
def lay:Nd->List cL->Nat->List cL×Nat
 |.mk k s kids,ss,to =>
  if k=1 then (ss++[⟨1,s,[to],0⟩],ss.length)
  else if k=2 then cg kids ss to
  else if k=3 then ((bz kids ss to).1++[⟨0,0,(bz kids ss to).2,0⟩],(bz kids ss to).1.length)
  else if k=6 then ((eN kids ss to).1++[⟨0,0,[(eN kids ss to).2,to],0⟩],(eN kids ss to).1.length)
  else if k=4\/k=5 then
   ((eN kids (ss++[⟨0,0,[],0⟩]) ss.length).1.set ss.length ⟨0,0,[(eN kids (ss++[⟨0,0,[],0⟩]) ss.length).2,to],0⟩,
    if k=5 then (eN kids (ss++[⟨0,0,[],0⟩]) ss.length).2 else ss.length)
  else (ss,to)
def cg:List Nd->List cL->Nat->List cL×Nat
 | [],ss,to=>(ss,to)
 |x::r,ss,to=>lay x (cg r ss to).1 (cg r ss to).2
def bz:List Nd->List cL->Nat->List cL×List Nat
 | [],ss,_=>(ss,[])
 |x::r,ss,to=>((bz r (lay x ss to).1 to).1,(lay x ss to).2::(bz r (lay x ss to).1 to).2)
def eN:List Nd->List cL->Nat->List cL×Nat
 | [],ss,to=>(ss,to)
 |x::_,ss,to=>lay x ss to
end
mutual
def mW:Nd->Nat
 |.mk _ _ kids=>gG kids+1
def gG:List Nd->Nat
 | []=>0
 |x::r=>mW x+gG r
end
mutual
def rA:Nd->Bool
 |.mk k _ kids=>(!(k ==4 ||k ==5 ||k ==6) ||kids.length ==1) && rB kids
def rB:List Nd->Bool
 | []=>true
 |x::r=>rA x && rB r
end
section
variable {i:Nat}
theorem Dv (x:Nd):0<mW x:=by cases x;simp[mW]
theorem fW:∀(l m:List Nd),gG (l++m)=gG l+gG m
 | [],m=>by simp[gG]
 |x::l,m=>by simp only[List.cons_append,gG];rw[fW l m];omega
theorem jJ:∀(l m:List Nd),rB (l++m)=(rB l && rB m)
 | [],m=>by simp[rB]
 |x::l,m=>by simp only[List.cons_append,rB];rw[jJ l m,Bool.and_assoc]
theorem wL:∀{l:List Nd}{i:Nat}{x:Nd},rB l=true->l[i]? =some x->rA x=true
 | [],i,x,_,h=>by simp at h
 |y::l,0,x,hw,h=>by simp at h;subst h;simp only[rB,Bool.and_eq_true] at hw;exact hw.1
 |y::l,i+1,x,hw,h=>by simp only[rB,Bool.and_eq_true] at hw;exact wL hw.2 (by simpa using h)
end
mutual
theorem iT:∀(x:Nd) (ss:List cL) (to:Nat),ss.length<=(lay x ss to).1.length/\(lay x ss to).1.length<=ss.length+mW x
 |.mk k s kids,ss,to=>by
  rw[lay];simp only[mW];split
  · simp
  · split
    · have:=jW kids ss to;omega
    · split
      · have:=iD kids ss to;simp only[List.length_append,List.length_singleton];omega
      · split
        · have:=nj kids ss to;simp only[List.length_append,List.length_singleton];omega
        · split
          · have:=nj kids (ss++[⟨0,0,[],0⟩]) ss.length;simp only[List.length_append,List.length_singleton] at this;simp only[List.length_set];omega
          · simp
theorem jW:∀(l:List Nd) (ss:List cL) (to:Nat),ss.length<=(cg l ss to).1.length/\(cg l ss to).1.length<=ss.length+gG l
 | [],ss,to=>by simp[cg,gG]
 |x::r,ss,to=>by
  rw[cg];have h1:=jW r ss to;have h2:=iT x (cg r ss to).1 (cg r ss to).2;simp only[gG];omega
theorem iD:∀(l:List Nd) (ss:List cL) (to:Nat),ss.length<=(bz l ss to).1.length/\(bz l ss to).1.length<=ss.length+gG l
 | [],ss,to=>by simp[bz,gG]
 |x::r,ss,to=>by
  rw[bz];have h1:=iT x ss to;have h2:=iD r (lay x ss to).1 to;simp only[gG];omega
theorem nj:∀(l:List Nd) (ss:List cL) (to:Nat),ss.length<=(eN l ss to).1.length/\(eN l ss to).1.length<=ss.length+gG l
 | [],ss,to=>by simp[eN,gG]
 |x::r,ss,to=>by
  rw[eN];have h1:=iT x ss to;simp only[gG];omega
end
section
variable {i:Nat}
def Small (s:By) (p:Option (Nd×By)):Prop:=∀x r,p=some (x,r)->mW x+2*r.length<=2*s.length+1/\rA x=true
theorem wW (k:Nat) (l:List Nd):mW (bG k l)<=gG l+1:=by
 unfold bG;split
 · simp[mh,mW,gG]
 · simp[gG]
 · simp[mW]
theorem wK {k:Nat}{l:List Nd}(hk:k=2\/k=3) (h:rB l=true):rA (bG k l)=true:=by
 unfold bG;split
 · rfl
 · simp only[rB,Bool.and_eq_true] at h;exact h.1
 · simp only[rA,h,Bool.and_true];rcases hk with rfl|rfl<;>rfl
theorem pT:∀(s:By) (n:Nd),rA n=true->mW (dR n s).1+2*(dR n s).2.length<=mW n+2*s.length/\rA (dR n s).1=true
 | [],n,hw=>by simp[dR,hw]
 |c::r,n,hw=>by
  rw[dR];split
  · simp[hw]
  · rename_i hs;have hw':rA (.mk (cG c) 0 [n])=true:=by simp[rA,rB,hw]
    have h:=pT r (.mk (cG c) 0 [n]) hw';refine⟨?_,h.2⟩;have h1:=h.1;simp only[mW,gG,List.length_cons] at h1 ⊢;omega
theorem Av {rows:By->Option (Nd×By)}(hr:∀s,Small s (rows s)){s:By}{x:Nd}{r:By}(h:fm rows s=some (x,r)):mW x+2*r.length+1<=2*s.length/\rA x=true:=by
 have leaf:∀k st,(k=0\/k=1)->rA (.mk k st [])=true:=fun k st hk=>by rcases hk with rfl|rfl<;>rfl
 have key:∀y t,eC rows s=some (y,t)->mW y+2*t.length+1<=2*s.length/\rA y=true:=by
  intro y t ha;have hlen:∀(k st:Nat),y= .mk k st []->t.length<s.length->mW y+2*t.length+1<=2*s.length:=fun k st hy ht=>by subst hy;simp only[mW,gG];omega
  unfold eC at ha;split at ha
  · cases ha
  · rename_i c u;split at ha
    · split at ha
      · cases ha
      · rename_i n t' ht;split at ha
        · rename_i t'' _;cases ha;have:=hr _ _ _ ht;simp only[List.length_cons] at this ⊢;exact⟨by omega,this.2⟩
        · cases ha
    · split at ha
      · have hb:=oE ha
        have hy:∃st,y= .mk 1 st []:=by
         unfold gR at ha;split at ha<;>(simp only[Option.map_eq_some_iff] at ha;obtain⟨⟨m,r'⟩,_,h2⟩:=ha;cases h2;exact⟨_,rfl⟩)
        obtain⟨st,rfl⟩:=hy;exact⟨hlen _ _ rfl (by simp only[List.length_cons];omega),leaf _ _ (.inr rfl)⟩
      · split at ha
        · cases ha;exact⟨hlen _ _ rfl (by simp),leaf _ _ (.inr rfl)⟩
        · split at ha
          · simp only[Option.map_eq_some_iff] at ha;obtain⟨⟨b,r'⟩,h1,h2⟩:=ha;have:=tE h1;cases h2;exact⟨hlen _ _ rfl (by simp only[List.length_cons];omega),leaf _ _ (.inr rfl)⟩
          · split at ha
            · cases ha
            · cases ha;exact⟨hlen _ _ rfl (by simp),leaf _ _ (.inr rfl)⟩
 unfold fm at h;simp only[Option.map_eq_some_iff] at h;obtain⟨⟨n,t⟩,h1,h2⟩:=h;have h3:=key n t h1;have h4:=pT t n h3.2;rw[h2] at h4;simp only at h4;exact⟨by omega,h4.2⟩
theorem lF {rows:By->Option (Nd×By)}(hr:∀s,Small s (rows s)):∀(n:Nat) (all row:List Nd) (s:By) (x:Nd) (r:By),rB all=true->rB row=true->hU rows n all row s=some (x,r) ->
 mW x+2*r.length<=2*s.length+1+gG all+gG row+(if all=[] then 0 else 1)/\rA x=true
 | 0,_,_,_,_,_,_,_,h=>by cases h
 |n+1,all,row,s,x,r,hwa,hwr,h=>by
  rw[hU] at h;split at h
  · split at h
    · rename_i hbar;have hs:s.tail.length+1=s.length:=by cases s with|nil=>cases hbar|cons a b=>simp
      have hw':rB (all++[bG 2 row])=true:=by rw[jJ,hwa];simp[rB,wK (.inl rfl) hwr]
      have ih:=lF hr n _ _ _ _ _ hw' (by rfl) h;have hj:=wW 2 row;have ha:gG (all++[bG 2 row])=gG all+mW (bG 2 row):=by rw[fW];simp[gG]
      rw[ha] at ih;refine⟨?_,ih.2⟩;have h1:=ih.1;rw[if_neg (by simp)] at h1;simp only[gG] at h1;omega
    · cases h;have hj:=wW 2 row;have hj3:=wW 3 (all++[bG 2 row]);have ha:gG (all++[bG 2 row])=gG all+mW (bG 2 row):=by rw[fW];simp[gG]
      refine⟨?_,wK (.inr rfl) (by rw[jJ,hwa];simp[rB,wK (.inl rfl) hwr])⟩;split
      · rename_i he;subst he;have:bG 3 ([]++[bG 2 row])=bG 2 row:=rfl;rw[this];simp only[gG] at *;omega
      · rw[ha] at hj3;omega
  · split at h
    · cases h
    · rename_i y t ht;have h1:=Av hr ht;have ih:=lF hr n all (row++[y]) t x r hwa (by rw[jJ,hwr];simp[rB,h1.2]) h;have ha:gG (row++[y])=gG row+mW y:=by rw[fW];simp[gG]
      rw[ha] at ih;exact⟨by have:=ih.1;omega,ih.2⟩
theorem pU:∀(d:Nat) (s:By),Small s (cW d s)
 | 0,s=>fun x r h=>by cases h
 |d+1,s=>fun x r h=>by
  have:=lF (fun s=>pU d s) _ _ _ _ _ _ rfl rfl h;simpa [gG] using this
theorem xO {s:By}{x:Nd}(h:ja s=some x):mW x<=2*s.length+1/\rA x=true:=by
 unfold ja at h;split at h
 · rename_i n hn;cases h;have:=pU _ _ _ _ hn;simpa using this
 · cases h
theorem AT {l:List Nd}{x:Nd}(hx:l[i]? =some x) (ss:List cL) (to:Nat):cg (l.drop i) ss to=lay x (cg (l.drop (i+1)) ss to).1 (cg (l.drop (i+1)) ss to).2:=by
 obtain⟨hi,rfl⟩:=List.getElem?_eq_some_iff.1 hx;rw[List.drop_eq_getElem_cons hi,cg]
theorem p9:∀(l:List Nd) (ss:List cL) (to:Nat),(bz l ss to).2.length=l.length
 | [],ss,to=>by simp[bz]
 |x::r,ss,to=>by rw[bz];simp[p9 r]
end
mutual
theorem n8:∀(x:Nd) (ss:List cL) (to i:Nat),i<ss.length->(lay x ss to).1[i]? =ss[i]?
 |.mk k s kids,ss,to,i,hi=>by
  rw[lay];split
  · simp[List.getElem?_append_left hi]
  · split
    · exact sK kids ss to i hi
    · split
      · have:=iD kids ss to;simp only;rw[List.getElem?_append_left (by omega)];exact sL kids ss to i hi
      · split
        · have:=nj kids ss to;simp only;rw[List.getElem?_append_left (by omega)];exact sJ kids ss to i hi
        · split
          · simp only;rw[List.getElem?_set_ne (by omega),sJ kids (ss++[(⟨0,0,[],0⟩:cL)]) ss.length i (by simp;omega),List.getElem?_append_left hi]
          · rfl
theorem sK:∀(l:List Nd) (ss:List cL) (to i:Nat),i<ss.length->(cg l ss to).1[i]? =ss[i]?
 | [],ss,to,i,hi=>by simp[cg]
 |x::r,ss,to,i,hi=>by
  rw[cg];have h1:=jW r ss to;rw[n8 x _ _ i (by omega),sK r ss to i hi]
theorem sL:∀(l:List Nd) (ss:List cL) (to i:Nat),i<ss.length->(bz l ss to).1[i]? =ss[i]?
 | [],ss,to,i,hi=>by simp[bz]
 |x::r,ss,to,i,hi=>by
  rw[bz];have h1:=iT x ss to;simp only;rw[sL r _ _ i (by omega),n8 x ss to i hi]
theorem sJ:∀(l:List Nd) (ss:List cL) (to i:Nat),i<ss.length->(eN l ss to).1[i]? =ss[i]?
 | [],ss,to,i,hi=>by simp[eN]
 |x::r,ss,to,i,hi=>by
  rw[eN];exact n8 x ss to i hi
end
section
variable {i:Nat}
theorem F0 {l:List Nd}{x:Nd}(hx:l[i]? =some x):gG (l.take i)+mW x<=gG l:=by
 obtain⟨hi,rfl⟩:=List.getElem?_eq_some_iff.1 hx;have h:gG (l.take i++l.drop i)=gG l:=by rw[List.take_append_drop]
 rw[fW,List.drop_eq_getElem_cons hi,gG] at h;omega
theorem F1 {l:List Nd}{x:Nd}(hx:l[i]? =some x):gG (l.drop (i+1))+mW x<=gG l:=by
 obtain⟨hi,rfl⟩:=List.getElem?_eq_some_iff.1 hx;have h:gG (l.take i++l.drop i)=gG l:=by rw[List.take_append_drop]
 rw[fW,List.drop_eq_getElem_cons hi,gG] at h;omega
theorem Dw:∀l:List Nd,l.length<=gG l
 | []=>by simp[gG]
 |x::l=>by have:=Dw l;have:=Dv x;simp only[List.length_cons,gG];omega
def rV:List cL->List Bool->Nat
 |x::r,b::s=>(if b then 0 else x.to.length+1)+rV r s
 |_,_=>0
def jz (ss:List cL):Nat->List Nat->List Bool->List Bool
 | 0,_,seen=>seen
 |n+1,todo,seen =>
  match todo.getLast? with
  |none=>seen
  |some i =>
   if seen[i]? =some true then jz ss n todo.dropLast seen
   else jz ss n (match ss[i]? with|some x=>if x.kind=0 then todo.dropLast++x.to else todo.dropLast|none=>todo.dropLast) (seen.set i true)
def closed (ss:List cL) (todo:List Nat):List Nat :=
 if todo.length=0 then []
 else ((List.range ss.length).filter fun i=>(jz ss (todo.length+rV ss (List.replicate ss.length false)) todo (List.replicate ss.length false))[i]? ==some true && (ss[i]?.map (·.kind)) !=some 0)
theorem DJ:∀(ss:List cL) (seen:List Bool) (i:Nat) (x:cL),ss[i]? =some x->seen[i]? =some false->rV ss (seen.set i true)+(x.to.length+1)=rV ss seen
 | [],_,_,_,h,_=>by simp at h
 |_::_,[],_,_,_,h=>by simp at h
 |y::r,b::s,0,x,h1,h2=>by
  simp at h1 h2;subst h1 h2;simp[rV];omega
 |y::r,b::s,i+1,x,h1,h2=>by
  have:=DJ r s i x (by simpa using h1) (by simpa using h2);simp only[List.set_cons_succ,rV];omega
def Good (ss:List cL):Prop:=∀x∈ss,∀j∈x.to,j<ss.length
def b9 (ss:List cL) (st:Nat):List Nat:=if ss.length=0 then [] else closed ss [st]
def BE (x:cL) (b:Int):Bool:=decide (x.kind=2/\(b<0\/(x.rule:Int)<b))
def zo (ss:List cL):List Nat->Int->Int
 | [],b=>b
 |j::r,b=>zo ss r (match ss[j]? with|some x=>if BE x b then x.rule else b|none=>b)
def bQ (ss:List cL) (now:List Nat):Int:=if ss.length=0 then -1 else zo ss now (-1)
def mX (x:cL) (c:UInt8):Bool:=decide (x.kind=1) && x.set.testBit c.toNat
def stepG (ss:List cL) (c:UInt8):List Nat->List Nat->List Nat
 | [],a=>a
 |j::r,a=>stepG ss c r (match ss[j]? with|some x=>if mX x c then a++x.to else a|none=>a)
def dy (ss:List cL) (c:UInt8) (now:List Nat):List Nat:=if ss.length=0 then [] else closed ss (stepG ss c now [])
theorem oO (ss:List cL) (c:UInt8):∀(l a:List Nat),a.length<=(stepG ss c l a).length
 | [],a=>Nat.le_refl _
 |j::r,a=>by
  rw[stepG];refine Nat.le_trans ?_ (oO ss c r _);split
  · split<;>simp
  · exact Nat.le_refl _
def GM (ss:List cL):List UInt8->List Nat->Nat->Int×Int->Int×Int
 |l,now,k,b =>
  if now.length=0 then b
  else match l with
   | []=>if 0<=bQ ss now then ((k:Int),bQ ss now) else b
   |c::r=>GM ss r (dy ss c now) (k+1) (if 0<=bQ ss now then ((k:Int),bQ ss now) else b)
def Cu (ss:List cL) (st:Nat) (l:List UInt8):Int×Int:=if ss.length=0 then (0,-1) else GM ss l (b9 ss st) 0 (0,-1)
theorem B8 (ss:List cL) (st:Nat):(b9 ss st).Sublist (List.range ss.length):=by
 unfold b9 closed;split
 · exact List.nil_sublist _
 · split
   · exact List.nil_sublist _
   · exact List.filter_sublist
theorem Et (ss:List cL) (c:UInt8) (now:List Nat):(dy ss c now).Sublist (List.range ss.length):=by
 unfold dy closed;split
 · exact List.nil_sublist _
 · split
   · exact List.nil_sublist _
   · exact List.filter_sublist
def sE:Nat->List By->List cL->List Nat->Int ⊕ (List cL×List Nat)
 |_,[],ss,t=>.inr (ss,t)
 |i,s::r,ss,t=>if (b6 s).2≠0 then .inl (b6 s).2 else sE (i+1) r (lay (b6 s).1 (ss++[⟨2,0,[],i⟩]) ss.length).1 (t++[(lay (b6 s).1 (ss++[⟨2,0,[],i⟩]) ss.length).2])
def uy (l:List By):Nat:=(l.map List.length).sum
def fV (rules:List By):Int ⊕ (List cL×Nat) :=
 if rules.length=0\/64<rules.length then .inl 2
 else match sE 0 rules [] [] with
  |.inl e=>.inl e
  |.inr (ss,t)=>if 2000<uy rules then .inl 70 else .inr (ss++[⟨0,0,t,0⟩],ss.length)
theorem xP {s:By}(h0:(b6 s).2=0):mW (b6 s).1<=401/\rA (b6 s).1=true/\s.length<=200:=by
 unfold b6 at *;split at h0
 · cases h0
 · rename_i hl;rw[if_neg hl];split at h0
   · rename_i x hx;have:=xO hx;exact⟨by show mW x<=401;omega,this.2,by omega⟩
   · cases h0
theorem vF {l:List By}{s:By}(hx:l[i]? =some s):uy (l.take (i+1))=uy (l.take i)+s.length:=by
 rw[List.take_add_one,hx,Option.toList_some];simp[uy]
def wQ (ss:List cL):Nat:=(ss.map fun x=>x.to.length+1).sum
theorem Gx:∀(ss:List cL) (seen:List Bool),rV ss seen<=wQ ss
 | [],_=>by simp[rV]
 |x::r,[]=>by simp[rV]
 |x::r,b::s=>by
  have:=Gx r s;simp only[rV,wQ,List.map_cons,List.sum_cons] at *;split<;>omega
theorem wX {f:Nat->Nat}:∀{a b:List Nat},a.Sublist b->(a.map f).sum<=(b.map f).sum
 |_,_,.slnil=>by simp
 |_,_,.cons _ h=>by have:=wX (f:=f) h;simp;omega
 |_,_,.cons_cons _ h=>by have:=wX (f:=f) h;simp;omega
theorem DO:∀ss:List cL,(ss.map fun x=>x.to.length).sum<=wQ ss
 | []=>by simp[wQ]
 |x::r=>by have:=DO r;simp[wQ] at *;omega
theorem EH (ss:List cL):((List.range ss.length).map fun i=>match ss[i]? with|some x=>x.to.length|none=>0).sum<=wQ ss:=by
 have:((List.range ss.length).map fun i=>match ss[i]? with|some x=>x.to.length|none=>0)=ss.map fun x=>x.to.length:=by
  apply List.ext_getElem
  · simp
  · intro i h1 h2;simp at h2;simp[h2]
 rw[this];exact DO ss
theorem vH (ss:List cL) (c:UInt8):∀(l a:List Nat),(stepG ss c l a).length<=a.length+(l.map fun i=>match ss[i]? with|some x=>x.to.length|none=>0).sum
 | [],a=>by simp[stepG]
 |j::r,a=>by
  rw[stepG];refine Nat.le_trans (vH ss c r _) ?_;simp only[List.map_cons,List.sum_cons];cases ss[j]? with
  |none=>simp
  |some x=>simp only;split<;>simp<;>omega
theorem Ew {ss:List cL}(c:UInt8){now:List Nat}(h:now.Sublist (List.range ss.length)):(stepG ss c now []).length<=wQ ss:=by
 have h1:=vH ss c now [];have h2:=wX (f:=fun i=>match ss[i]? with|some x=>x.to.length|none=>0) h;have h3:=EH ss;simp only[List.length_nil] at h1;omega
end
end Go.Proofs.YtckomlgchbkekaaGreatDoor
