/- What the proof of the statement leans on (part 20). -/
import Derived.Test.YtmehdcdbeafljaaGreatDoorRows
import Derived.Test.YtmehdcdbeafljaaGreatDoorQs

namespace Go.Proofs.YtmehdcdbeafljaaGreatDoor.H
open Go Go.Lw
theorem iK:bP Tryz.prog 111=some false:=by kernel_rfl
theorem iz:bP Tryz.prog 124=some false:=by kernel_rfl
theorem nV:bP Tryz.prog 127=some false:=by kernel_rfl
theorem GQ:bP Tryz.prog 128=some false:=by kernel_rfl
theorem IZ:bP Tryz.prog 129=some true:=by kernel_rfl
theorem vq:bP Tryz.prog 130=some false:=by kernel_rfl
theorem eX:bP Tryz.prog 132=some true:=by kernel_rfl
theorem K7:bP Tryz.prog 138=some true:=by kernel_rfl
theorem Dp:bP Tryz.prog 142=some false:=by kernel_rfl
theorem Bc:bP Tryz.prog 144=some true:=by kernel_rfl
theorem qe:bP Tryz.prog 147=some false:=by kernel_rfl
theorem vp:bP Tryz.prog 153=some true:=by kernel_rfl
theorem K6:bP Tryz.prog 188=some true:=by kernel_rfl
theorem GP:bP Tryz.prog 203=some false:=by kernel_rfl
theorem IY:bP Tryz.prog 214=some true:=by kernel_rfl
theorem K5:bP Tryz.prog 215=some true:=by kernel_rfl
theorem lV:bP Tryz.prog 23=some false:=by kernel_rfl
theorem bQ:bP Tryz.prog 25=some true:=by kernel_rfl
theorem IX:bP Tryz.prog 283=some false:=by kernel_rfl
theorem IW:bP Tryz.prog 287=some true:=by kernel_rfl
theorem cM:bP Tryz.prog 3=some false:=by kernel_rfl
theorem JD:bP Tryz.prog 31=some false:=by kernel_rfl
theorem zg:bP Tryz.prog 38=some false:=by kernel_rfl
theorem vk:bP Tryz.prog 4=some false:=by kernel_rfl
theorem iE:bP Tryz.prog 41=some true:=by kernel_rfl
theorem zf:bP Tryz.prog 46=some true:=by kernel_rfl
theorem K4:bP Tryz.prog 5=some false:=by kernel_rfl
theorem HX:bP Tryz.prog 81=some false:=by kernel_rfl
theorem sx:bP Tryz.prog 84=some false:=by kernel_rfl
theorem HW:bP Tryz.prog 87=some false:=by kernel_rfl
theorem Mj:bP Tryz.prog 89=some false:=by kernel_rfl
theorem fM:bP Tryz.prog 9=some false:=by kernel_rfl
theorem Ew (a0:Option Addr) (n0 c0:Nat) (a2:Int):Tryz.prog.built 116 [(0,.slice a0 n0 c0),(2,.int .i64 a2)]=some #[.slice a0 n0 c0,.int .i64 (0),.int .i64 a2,.bool false,.int .i64 (0)]:=by kernel_rfl
theorem JC  : Tryz.prog.built 126 []=some #[.slice none 0 0,.int .i64 (0)]:=by kernel_rfl
theorem Cs  : Tryz.prog.built 132 []=some #[.int .i64 (0),.int .u64 (0),.int .u64 (0),.int .u64 (0),.int .u64 (0),.slice none 0 0]:=by kernel_rfl
theorem qQ (a0:Int) (a2:Option Addr) (n2 c2:Nat):Tryz.prog.built 132 [(0,.int .i64 a0),(2,.slice a2 n2 c2)]=some #[.int .i64 a0,.int .u64 (0),.int .u64 (0),.int .u64 (0),.int .u64 (0),.slice a2 n2 c2]:=by kernel_rfl
theorem Dn (a0:Int):Tryz.prog.built 132 [(0,.int .i64 a0)]=some #[.int .i64 a0,.int .u64 (0),.int .u64 (0),.int .u64 (0),.int .u64 (0),.slice none 0 0]:=by kernel_rfl
theorem GJ  : Tryz.prog.built 138 []=some #[.int .i64 (0),.int .u64 (0),.int .u64 (0),.int .u64 (0),.int .u64 (0),.slice none 0 0,.int .i64 (0)]:=by kernel_rfl
theorem Ba (a0:Int) (a1_0 a1_1 a1_2 a1_3:Value) (a2:Option Addr) (n2 c2:Nat):Tryz.prog.built 138 [(0,.int .i64 a0),(1,.agg #[a1_0,a1_1,a1_2,a1_3]),(2,.slice a2 n2 c2)]=some #[.int .i64 a0,a1_0,a1_1,a1_2,a1_3,.slice a2 n2 c2,.int .i64 (0)]:=by kernel_rfl
theorem Ev (a0:Int) (a3:Int):Tryz.prog.built 138 [(0,.int .i64 a0),(3,.int .i64 a3)]=some #[.int .i64 a0,.int .u64 (0),.int .u64 (0),.int .u64 (0),.int .u64 (0),.slice none 0 0,.int .i64 a3]:=by kernel_rfl
theorem zc (a2:Option Addr) (n2 c2:Nat):Tryz.prog.built 138 [(2,.slice a2 n2 c2)]=some #[.int .i64 (0),.int .u64 (0),.int .u64 (0),.int .u64 (0),.int .u64 (0),.slice a2 n2 c2,.int .i64 (0)]:=by kernel_rfl
theorem JB  : Tryz.prog.built 144 []=some #[.string ⟨#[]⟩,.int .i64 (0),.int .i64 (0)]:=by kernel_rfl
theorem GI  : Tryz.prog.built 149 []=some #[.slice none 0 0,.slice none 0 0]:=by kernel_rfl
theorem rX (a0:Int) (a1:ByteArray) (a2:Int):Tryz.prog.built 188 [(0,.int .i64 a0),(1,.string a1),(2,.int .i64 a2)]=some #[.int .i64 a0,.string a1,.int .i64 a2]:=by kernel_rfl
theorem gY  : Tryz.prog.built 193 []=some #[]:=by kernel_rfl
theorem HR (a0:ByteArray):Tryz.prog.built 196 [(0,.string a0)]=some #[.string a0]:=by kernel_rfl
theorem GH  : Tryz.prog.built 25 []=some #[.int .i64 (0),.string ⟨#[]⟩,.slice none 0 0]:=by kernel_rfl
theorem kE (a0:Int) (a1:ByteArray):Tryz.prog.built 25 [(0,.int .i64 a0),(1,.string a1)]=some #[.int .i64 a0,.string a1,.slice none 0 0]:=by kernel_rfl
theorem lC (a0:Int) (a1:ByteArray) (a2:Option Addr) (n2 c2:Nat):Tryz.prog.built 25 [(0,.int .i64 a0),(1,.string a1),(2,.slice a2 n2 c2)]=some #[.int .i64 a0,.string a1,.slice a2 n2 c2]:=by kernel_rfl
theorem A9 (a0:Int) (a2:Option Addr) (n2 c2:Nat):Tryz.prog.built 25 [(0,.int .i64 a0),(2,.slice a2 n2 c2)]=some #[.int .i64 a0,.string ⟨#[]⟩,.slice a2 n2 c2]:=by kernel_rfl
theorem JA (a0:Int):Tryz.prog.built 25 [(0,.int .i64 a0)]=some #[.int .i64 a0,.string ⟨#[]⟩,.slice none 0 0]:=by kernel_rfl
theorem K0  : Tryz.prog.built 41 []=some #[.int .i64 (0),.int .i64 (0)]:=by kernel_rfl
theorem GG (a0:Int) (a1:Int):Tryz.prog.built 41 [(0,.int .i64 a0),(1,.int .i64 a1)]=some #[.int .i64 a0,.int .i64 a1]:=by kernel_rfl
theorem Jz (a0:Int):Tryz.prog.built 41 [(0,.int .i64 a0)]=some #[.int .i64 a0,.int .i64 (0)]:=by kernel_rfl
theorem ve (a0:ByteArray) (a1:ByteArray) (a2:ByteArray) (a3:ByteArray) (a4:ByteArray):Tryz.prog.built 44 [(0,.string a0),(1,.string a1),(2,.string a2),(3,.string a3),(4,.string a4)]=some #[.string a0,.string a1,.string a2,.string a3,.string a4]:=by kernel_rfl
theorem KZ  : Tryz.prog.built 46 []=some #[.int .i64 (0),.int .i64 (0),.int .i64 (0)]:=by kernel_rfl
theorem u9 (a0:Int) (a1:Int) (a2:Int):Tryz.prog.built 46 [(0,.int .i64 a0),(1,.int .i64 a1),(2,.int .i64 a2)]=some #[.int .i64 a0,.int .i64 a1,.int .i64 a2]:=by kernel_rfl
theorem KY  : Tryz.prog.built 83 []=some #[.slice none 0 0]:=by kernel_rfl
theorem kD:Tryz.prog.concrete 193=true:=by kernel_rfl
set_option maxRecDepth 100000 in
theorem Gt:fQ Tryz.prog 127 1 24:=⟨⟨_,_,rfl,rfl,rfl,rfl,rfl⟩,by decide⟩
set_option maxRecDepth 100000 in
theorem uT:fQ Tryz.prog 132 6 64:=⟨⟨_,_,rfl,rfl,rfl,rfl,rfl⟩,by decide⟩
set_option maxRecDepth 100000 in
theorem IL:fQ Tryz.prog 138 7 72:=⟨⟨_,_,rfl,rfl,rfl,rfl,rfl⟩,by decide⟩
set_option maxRecDepth 100000 in
theorem Dg:fQ Tryz.prog 153 256 2048:=⟨⟨_,_,rfl,rfl,rfl,rfl,rfl⟩,by decide⟩
set_option maxRecDepth 100000 in
theorem Df:fQ Tryz.prog 188 3 32:=⟨⟨_,_,rfl,rfl,rfl,rfl,rfl⟩,by decide⟩
set_option maxRecDepth 100000 in
theorem lz:fQ Tryz.prog 25 3 48:=⟨⟨_,_,rfl,rfl,rfl,rfl,rfl⟩,by decide⟩
set_option maxRecDepth 100000 in
theorem pV:fQ Tryz.prog 3 1 8:=⟨⟨_,_,rfl,rfl,rfl,rfl,rfl⟩,by decide⟩
set_option maxRecDepth 100000 in
theorem My:fQ Tryz.prog 4 1 1:=⟨⟨_,_,rfl,rfl,rfl,rfl,rfl⟩,by decide⟩
set_option maxRecDepth 100000 in
theorem KT:fQ Tryz.prog 46 3 24:=⟨⟨_,_,rfl,rfl,rfl,rfl,rfl⟩,by decide⟩
set_option maxRecDepth 100000 in
theorem Lj:fQ Tryz.prog 5 1 1:=⟨⟨_,_,rfl,rfl,rfl,rfl,rfl⟩,by decide⟩
set_option maxRecDepth 100000 in
theorem KS:fQ Tryz.prog 89 1 8:=⟨⟨_,_,rfl,rfl,rfl,rfl,rfl⟩,by decide⟩
set_option maxRecDepth 100000 in
theorem qL:fQ Tryz.prog 9 1 16:=⟨⟨_,_,rfl,rfl,rfl,rfl,rfl⟩,by decide⟩
theorem mixed:Tryz.prog.follows .mixedOrders=true:=by kernel_rfl
theorem KH:(Tryz.f10.name == "runtime.NumGoroutine")=false:=by decide +kernel
theorem KG:(Tryz.f100.name == "runtime.NumGoroutine")=false:=by decide +kernel
theorem Dc:(Tryz.f101.name == "runtime.NumGoroutine")=false:=by decide +kernel
theorem FN:(Tryz.f102.name == "runtime.NumGoroutine")=false:=by decide +kernel
theorem KF:(Tryz.f103.name == "runtime.NumGoroutine")=false:=by decide +kernel
theorem KE:(Tryz.f104.name == "runtime.NumGoroutine")=false:=by decide +kernel
theorem KD:(Tryz.f106.name == "runtime.NumGoroutine")=false:=by decide +kernel
theorem KC:(Tryz.f107.name == "runtime.NumGoroutine")=false:=by decide +kernel
theorem KB:(Tryz.f108.name == "runtime.NumGoroutine")=false:=by decide +kernel
theorem FM:(Tryz.f109.name == "runtime.NumGoroutine")=false:=by decide +kernel
theorem BX:(Tryz.f11.name == "runtime.NumGoroutine")=false:=by decide +kernel
theorem KA:(Tryz.f110.name == "runtime.NumGoroutine")=false:=by decide +kernel
theorem Kz:(Tryz.f111.name == "runtime.NumGoroutine")=false:=by decide +kernel
theorem IF:(Tryz.f112.name == "runtime.NumGoroutine")=false:=by decide +kernel
theorem IE:(Tryz.f113.name == "runtime.NumGoroutine")=false:=by decide +kernel
theorem Ky:(Tryz.f12.name == "runtime.NumGoroutine")=false:=by decide +kernel
theorem Kx:(Tryz.f125.name == "runtime.NumGoroutine")=false:=by decide +kernel
theorem ID:(Tryz.f127.name == "runtime.NumGoroutine")=false:=by decide +kernel
theorem wQ:(Tryz.f128.name == "runtime.NumGoroutine")=false:=by decide +kernel
theorem IC:(Tryz.f129.name == "runtime.NumGoroutine")=false:=by decide +kernel
theorem L9:(Tryz.f13.name == "runtime.NumGoroutine")=false:=by decide +kernel
theorem IB:(Tryz.f130.name == "runtime.NumGoroutine")=false:=by decide +kernel
theorem Kw:(Tryz.f131.name == "runtime.NumGoroutine")=false:=by decide +kernel
theorem Kv:(Tryz.f132.name == "runtime.NumGoroutine")=false:=by decide +kernel
theorem IA:(Tryz.f137.name == "runtime.NumGoroutine")=false:=by decide +kernel
theorem Db:(Tryz.f138.name == "runtime.NumGoroutine")=false:=by decide +kernel
theorem Iz:(Tryz.f139.name == "runtime.NumGoroutine")=false:=by decide +kernel
theorem L8:(Tryz.f14.name == "runtime.NumGoroutine")=false:=by decide +kernel
theorem FL:(Tryz.f141.name == "runtime.NumGoroutine")=false:=by decide +kernel
theorem Ku:(Tryz.f143.name == "runtime.NumGoroutine")=false:=by decide +kernel
theorem Da:(Tryz.f144.name == "runtime.NumGoroutine")=false:=by decide +kernel
theorem Kt:(Tryz.f145.name == "runtime.NumGoroutine")=false:=by decide +kernel
theorem Ks:(Tryz.f146.name == "runtime.NumGoroutine")=false:=by decide +kernel
theorem Kr:(Tryz.f147.name == "runtime.NumGoroutine")=false:=by decide +kernel
theorem Jn:(Tryz.f15.name == "runtime.NumGoroutine")=false:=by decide +kernel
theorem Kq:(Tryz.f160.name == "runtime.NumGoroutine")=false:=by decide +kernel
theorem FK:(Tryz.f161.name == "runtime.NumGoroutine")=false:=by decide +kernel
theorem FJ:(Tryz.f162.name == "runtime.NumGoroutine")=false:=by decide +kernel
theorem tU:(Tryz.f163.name == "runtime.NumGoroutine")=false:=by decide +kernel
theorem Kp:(Tryz.f169.name == "runtime.NumGoroutine")=false:=by decide +kernel
theorem Ko:(Tryz.f172.name == "runtime.NumGoroutine")=false:=by decide +kernel
theorem Au:(Tryz.f181.name == "runtime.NumGoroutine")=false:=by decide +kernel
theorem Kn:(Tryz.f184.name == "runtime.NumGoroutine")=false:=by decide +kernel
theorem Iy:(Tryz.f185.name == "runtime.NumGoroutine")=false:=by decide +kernel
theorem tS:(Tryz.f186.name == "runtime.NumGoroutine")=false:=by decide +kernel
theorem Km:(Tryz.f188.name == "runtime.NumGoroutine")=false:=by decide +kernel
theorem Kl:(Tryz.f189.name == "runtime.NumGoroutine")=false:=by decide +kernel
theorem Kk:(Tryz.f196.name == "runtime.NumGoroutine")=false:=by decide +kernel
theorem Ix:(Tryz.f197.name == "runtime.NumGoroutine")=false:=by decide +kernel
theorem Kj:(Tryz.f198.name == "runtime.NumGoroutine")=false:=by decide +kernel
theorem wP:(Tryz.f199.name == "runtime.NumGoroutine")=false:=by decide +kernel
theorem Iw:(Tryz.f200.name == "runtime.NumGoroutine")=false:=by decide +kernel
theorem Ki:(Tryz.f201.name == "runtime.NumGoroutine")=false:=by decide +kernel
theorem Iv:(Tryz.f205.name == "runtime.NumGoroutine")=false:=by decide +kernel
theorem Iu:(Tryz.f206.name == "runtime.NumGoroutine")=false:=by decide +kernel
theorem Is:(Tryz.f207.name == "runtime.NumGoroutine")=false:=by decide +kernel
theorem FI:(Tryz.f208.name == "runtime.NumGoroutine")=false:=by decide +kernel
theorem Ir:(Tryz.f210.name == "runtime.NumGoroutine")=false:=by decide +kernel
theorem FH:(Tryz.f212.name == "runtime.NumGoroutine")=false:=by decide +kernel
theorem Kh:(Tryz.f213.name == "runtime.NumGoroutine")=false:=by decide +kernel
theorem Kg:(Tryz.f214.name == "runtime.NumGoroutine")=false:=by decide +kernel
theorem L7:(Tryz.f23.name == "runtime.NumGoroutine")=false:=by decide +kernel
theorem L6:(Tryz.f27.name == "runtime.NumGoroutine")=false:=by decide +kernel
theorem L5:(Tryz.f28.name == "runtime.NumGoroutine")=false:=by decide +kernel
theorem L4:(Tryz.f29.name == "runtime.NumGoroutine")=false:=by decide +kernel
theorem L3:(Tryz.f30.name == "runtime.NumGoroutine")=false:=by decide +kernel
theorem FG:(Tryz.f31.name == "runtime.NumGoroutine")=false:=by decide +kernel
theorem Jm:(Tryz.f32.name == "runtime.NumGoroutine")=false:=by decide +kernel
theorem L2:(Tryz.f33.name == "runtime.NumGoroutine")=false:=by decide +kernel
theorem Kf:(Tryz.f34.name == "runtime.NumGoroutine")=false:=by decide +kernel
theorem Ke:(Tryz.f41.name == "runtime.NumGoroutine")=false:=by decide +kernel
theorem Kc:(Tryz.f42.name == "runtime.NumGoroutine")=false:=by decide +kernel
theorem je:(Tryz.f43.name == "runtime.NumGoroutine")=false:=by decide +kernel
theorem vT:(Tryz.f44.name == "runtime.NumGoroutine")=false:=by decide +kernel
theorem L1:(Tryz.f47.name == "runtime.NumGoroutine")=false:=by decide +kernel
theorem DZ:(Tryz.f48.name == "runtime.NumGoroutine")=false:=by decide +kernel
theorem BW:(Tryz.f49.name == "runtime.NumGoroutine")=false:=by decide +kernel
theorem L0:(Tryz.f50.name == "runtime.NumGoroutine")=false:=by decide +kernel
theorem LZ:(Tryz.f51.name == "runtime.NumGoroutine")=false:=by decide +kernel
theorem Hu:(Tryz.f52.name == "runtime.NumGoroutine")=false:=by decide +kernel
theorem LY:(Tryz.f53.name == "runtime.NumGoroutine")=false:=by decide +kernel
theorem LX:(Tryz.f54.name == "runtime.NumGoroutine")=false:=by decide +kernel
theorem Kb:(Tryz.f55.name == "runtime.NumGoroutine")=false:=by decide +kernel
theorem LW:(Tryz.f56.name == "runtime.NumGoroutine")=false:=by decide +kernel
theorem LV:(Tryz.f57.name == "runtime.NumGoroutine")=false:=by decide +kernel
theorem LU:(Tryz.f58.name == "runtime.NumGoroutine")=false:=by decide +kernel
theorem Ka:(Tryz.f59.name == "runtime.NumGoroutine")=false:=by decide +kernel
theorem LS:(Tryz.f60.name == "runtime.NumGoroutine")=false:=by decide +kernel
theorem LR:(Tryz.f61.name == "runtime.NumGoroutine")=false:=by decide +kernel
theorem LQ:(Tryz.f62.name == "runtime.NumGoroutine")=false:=by decide +kernel
theorem J9:(Tryz.f63.name == "runtime.NumGoroutine")=false:=by decide +kernel
theorem LP:(Tryz.f64.name == "runtime.NumGoroutine")=false:=by decide +kernel
theorem LO:(Tryz.f65.name == "runtime.NumGoroutine")=false:=by decide +kernel
theorem LN:(Tryz.f66.name == "runtime.NumGoroutine")=false:=by decide +kernel
theorem J8:(Tryz.f67.name == "runtime.NumGoroutine")=false:=by decide +kernel
theorem J7:(Tryz.f68.name == "runtime.NumGoroutine")=false:=by decide +kernel
theorem LM:(Tryz.f86.name == "runtime.NumGoroutine")=false:=by decide +kernel
theorem LL:(Tryz.f87.name == "runtime.NumGoroutine")=false:=by decide +kernel
theorem J6:(Tryz.f88.name == "runtime.NumGoroutine")=false:=by decide +kernel
theorem BV:(Tryz.f89.name == "runtime.NumGoroutine")=false:=by decide +kernel
theorem Mw:(Tryz.f9.name == "runtime.NumGoroutine")=false:=by decide +kernel
theorem Jl:(Tryz.f90.name == "runtime.NumGoroutine")=false:=by decide +kernel
theorem J5:(Tryz.f94.name == "runtime.NumGoroutine")=false:=by decide +kernel
theorem LK:(Tryz.f95.name == "runtime.NumGoroutine")=false:=by decide +kernel
theorem Jk:(Tryz.f97.name == "runtime.NumGoroutine")=false:=by decide +kernel
theorem J4:(Tryz.f98.name == "runtime.NumGoroutine")=false:=by decide +kernel
theorem FF:(Tryz.f99.name == "runtime.NumGoroutine")=false:=by decide +kernel
theorem iG:dI Tryz.prog 111=some 1:=by kernel_rfl
theorem gG:dI Tryz.prog 124=some 1:=by kernel_rfl
theorem gN:dI Tryz.prog 127=some 1:=by kernel_rfl
theorem tq:dI Tryz.prog 128=some 1:=by kernel_rfl
theorem lN:dI Tryz.prog 129=some 4:=by kernel_rfl
theorem zQ:dI Tryz.prog 130=some 1:=by kernel_rfl
theorem cn:dI Tryz.prog 132=some 6:=by kernel_rfl
theorem lM:dI Tryz.prog 138=some 7:=by kernel_rfl
theorem E4:dI Tryz.prog 142=some 1:=by kernel_rfl
theorem jX:dI Tryz.prog 144=some 3:=by kernel_rfl
theorem jW:dI Tryz.prog 147=some 1:=by kernel_rfl
theorem jV:dI Tryz.prog 153=some 256:=by kernel_rfl
theorem jU:dI Tryz.prog 188=some 3:=by kernel_rfl
theorem zP:dI Tryz.prog 203=some 1:=by kernel_rfl
theorem wv:dI Tryz.prog 214=some 2:=by kernel_rfl
theorem JR:dI Tryz.prog 215=some 12:=by kernel_rfl
theorem fO:dI Tryz.prog 23=some 1:=by kernel_rfl
theorem aV:dI Tryz.prog 25=some 3:=by kernel_rfl
theorem CO:dI Tryz.prog 287=some 256:=by kernel_rfl
theorem bW:dI Tryz.prog 3=some 1:=by kernel_rfl
theorem I9:dI Tryz.prog 31=some 1:=by kernel_rfl
theorem n8:dI Tryz.prog 38=some 1:=by kernel_rfl
theorem lT:dI Tryz.prog 4=some 1:=by kernel_rfl
theorem ey:dI Tryz.prog 41=some 2:=by kernel_rfl
theorem LF:dI Tryz.prog 44=some 5:=by kernel_rfl
theorem ir:dI Tryz.prog 46=some 3:=by kernel_rfl
theorem JI:dI Tryz.prog 5=some 1:=by kernel_rfl
theorem DB:dI Tryz.prog 81=some 1:=by kernel_rfl
theorem LD:dI Tryz.prog 87=some 1:=by kernel_rfl
theorem LC:dI Tryz.prog 89=some 1:=by kernel_rfl
theorem fq:dI Tryz.prog 9=some 1:=by kernel_rfl
theorem jS:(Tryz.prog.info? 132).bind (·.zero)=some (.agg #[.int .i64 (0),.int .u64 (0),.int .u64 (0),.int .u64 (0),.int .u64 (0),.slice none 0 0]):=by kernel_rfl
theorem zw:(Tryz.prog.info? 144).bind (·.zero)=some (.agg #[.string ⟨#[]⟩,.int .i64 (0),.int .i64 (0)]):=by kernel_rfl
theorem CJ:(Tryz.prog.info? 153).bind (·.zero)=some (.agg (Array.replicate 256 (.int .i64 (0)))):=by kernel_rfl
theorem JN:(Tryz.prog.info? 188).bind (·.zero)=some (.agg #[.int .i64 (0),.string ⟨#[]⟩,.int .i64 (0)]):=by kernel_rfl
theorem EL:(Tryz.prog.info? 205).bind (·.zero)=some (.agg #[.pointer none,.slice none 0 0]):=by kernel_rfl
theorem JM:(Tryz.prog.info? 214).bind (·.zero)=some (.agg #[.int .u8 (0),.int .u8 (0)]):=by kernel_rfl
theorem fu:(Tryz.prog.info? 25).bind (·.zero)=some (.agg #[.int .i64 (0),.string ⟨#[]⟩,.slice none 0 0]):=by kernel_rfl
theorem Im:(Tryz.prog.info? 287).bind (·.zero)=some (.agg (Array.replicate 256 (.bool false))):=by kernel_rfl
theorem Lp:(Tryz.prog.info? 3).bind (·.zero)=some (.int .i64 (0)):=by kernel_rfl
theorem Lo:(Tryz.prog.info? 31).bind (·.zero)=some (.int .i64 (0)):=by kernel_rfl
theorem Mq:(Tryz.prog.info? 4).bind (·.zero)=some (.bool false):=by kernel_rfl
theorem xJ:(Tryz.prog.info? 41).bind (·.zero)=some (.agg #[.int .i64 (0),.int .i64 (0)]):=by kernel_rfl
theorem Ln:(Tryz.prog.info? 44).bind (·.zero)=some (.agg #[.string ⟨#[]⟩,.string ⟨#[]⟩,.string ⟨#[]⟩,.string ⟨#[]⟩,.string ⟨#[]⟩]):=by kernel_rfl
theorem EK:(Tryz.prog.info? 46).bind (·.zero)=some (.agg #[.int .i64 (0),.int .i64 (0),.int .i64 (0)]):=by kernel_rfl
theorem Lm:(Tryz.prog.info? 87).bind (·.zero)=some (.slice none 0 0):=by kernel_rfl
end Go.Proofs.YtmehdcdbeafljaaGreatDoor.H
namespace Go.Proofs.YtmehdcdbeafljaaGreatDoor
open Go.Proofs.Tryz
open Go Go.Lw
set_option maxRecDepth 20000
section
variable {rb n m d lim:Nat}{h h':az}{c a:UInt8}{l r:By}{x:Nd}{M:Nat->Prop}
def tP:Value:=.iface 193 (.agg #[])
def CE (c:List PanicEntry):Prop:=c=[{ v:=tP,recovered:=false }]
def St (h:az) (rb:Nat) (l:By):Prop:=bh h rb 196 [.string (bs l)]
abbrev zq (rb:Nat):Value:=.pointer (some ⟨rb,0,none⟩)
abbrev only (rb:Nat):Nat->Prop:=fun b=>b=rb
def PR {α:Type}(rb:Nat) (h:az) (p:Option (α×By)) (Φ:α->Value->az->Prop):Ending->az->Prop :=
 EE (fun v h'=>∃x r,p=some (x,r)/\Φ x v h'/\St h' rb r/\Ext (only rb) h h') (fun ch h'=>CE ch/\p=none/\Ext (only rb) h h')
theorem ef {α:Type}{p:Option (α×By)}{Φ:α->Value->az->Prop}{c:List PanicEntry}(hc:CE c) (hp:p=none) (hx:Ext (only rb) h h'):PR rb h p Φ (.panicked c) h':=⟨hc,hp,hx⟩
theorem HY {Φ:Value->az->Prop}{X:List PanicEntry->az->Prop}{c:List PanicEntry}(k:X c h):EE Φ X (.panicked c) h:=k
theorem St.cell {h:az}{rb:Nat}{l:By}(k:St h rb l):cellAt h ⟨rb,0,none⟩=some (.string (bs l)):=bh.cell k (i:=0) rfl
theorem St.lt {h:az}{rb:Nat}{l:By}(k:St h rb l):rb<h.size:=bh.lt k
def EY:By->Option (UInt8×By)| []=>none|c::r=>some (c,r)
theorem iW (h:EY l=none):l=[]:=by cases l with|nil=>rfl|cons c r=>cases h
theorem fY (h:EY l=some (c,r)):l=c::r:=by cases l with|nil=>cases h|cons d t=>cases h;rfl
theorem tV (hs:St h rb l):ah Tryz.prog 185 #[zq rb] h (cT fun r h'=>r= .int .u8 ((l.head?.getD 0).toNat:Nat)/\h'=h):=by
 refine ah.of func185 rfl rfl ?_;refine aY func185 1 [0,2] rfl ?_;refine av rfl ?_;refine bp func185 2 rfl ?_;refine xp rfl (af (off:=0) underlying196 rfl rfl H.fq rfl) ?_;refine xp rfl (ai H.fM rfl hs.cell) ?_;refine xp rfl (aj.dV rfl rfl) ?_;refine xd [0,2,7] rfl ?_;refine aO rfl rfl (fun he=>?_) (fun he=>?_)
 · have hl:l=[]:=eK he;subst hl;refine aY func185 1 [0,2,7] rfl ?_;refine G.ret func185 rfl rfl ?_;exact⟨_,rfl,rfl,rfl⟩
 · obtain⟨c,r,rfl⟩:=List.exists_cons_of_ne_nil (fun(e:l=[])=>he (by rw[e];rfl));refine aB rfl ?_;refine bp func185 2 rfl ?_;refine xp rfl (af (off:=0) underlying196 rfl rfl H.fq rfl) ?_;refine xp rfl (ai H.fM rfl hs.cell) ?_;refine xp rfl (aj.dw underlying9 rfl rfl 0 rfl (gP rfl)) ?_;refine aS 1 [0,2,7] rfl ?_;refine G.ret func185 rfl rfl ?_;exact⟨_,rfl,rfl,rfl⟩
theorem fX (hs:St h rb l) (hl:l.length<=1000000):ah Tryz.prog 186 #[zq rb] h (PR rb h (EY l) fun c v _=>v= .int .u8 (c.toNat:Nat)):=by
 refine ah.of func186 rfl rfl ?_;refine aY func186 1 [0,2] rfl ?_;refine av rfl ?_;refine bp func186 2 rfl ?_;refine xp rfl (af (off:=0) underlying196 rfl rfl H.fq rfl) ?_;refine xp rfl (ai H.fM rfl hs.cell) ?_;refine xp rfl (aj.dV rfl rfl) ?_;refine xd [0,2,8] rfl ?_;refine aO rfl rfl (fun he=>?_) (fun he=>?_)
 · have hl:l=[]:=eK he;subst hl;refine G.cq func186 rfl ?_;refine xp rfl (aP (H.gY ) rfl) ?_;refine xp rfl (bG H.kD rfl) ?_;refine RW.b9 rfl rfl rfl (dN (Φ:=fun _ _=>False) rfl (ef rfl rfl (Ext.refl _ _))) ?_;rintro _ _ hpn;exact hpn.elim
 · obtain⟨c,r,rfl⟩:=List.exists_cons_of_ne_nil (fun(e:l=[])=>he (by rw[e];rfl));have hz:(bs (c::r)).size=r.length+1:=by rw[bu];rfl
   have hd:=ny (c::r) 1;simp only[List.length_cons] at hl;refine aB rfl ?_;refine bp func186 2 rfl ?_;refine xp rfl (af (off:=0) underlying196 rfl rfl H.fq rfl) ?_;refine xp rfl (ai H.fM rfl hs.cell) ?_;refine xp rfl (aj.dw underlying9 rfl rfl 0 rfl (gP rfl)) ?_;refine aS 1 [0,2,3,8] rfl ?_;refine bp func186 3 rfl ?_;refine xp rfl (af (off:=0) underlying196 rfl rfl H.fq rfl) ?_;refine xp rfl (ai H.fM rfl hs.cell) ?_;refine xp rfl (aj.gU underlying9 rfl rfl 1 rfl (by omega)) ?_;refine ct 1 rfl rfl (af (off:=0) underlying196 rfl rfl H.fq rfl) ?_;refine RW.b9 rfl rfl rfl (aA.bz H.fq rfl rfl hs (by first|decide|exact of_decide_eq_true rfl|(simp;done)|(simp;omega)) rfl) ?_;rintro _ h1 ⟨rfl,hk,hx,hz1⟩;refine xd [0,2,3,8] rfl ?_;refine aY func186 2 [0,2,3,8] rfl ?_;refine G.ret func186 rfl rfl ?_;exact⟨c,r,rfl,rfl,by rw[hd] at hk;exact hk,hx⟩
theorem kO (c:UInt8) (hs:St h rb l) (hl:l.length<=1000000):ah Tryz.prog 138 #[zq rb,.int .u8 (c.toNat:Nat)] h (cT fun v h' =>
 ((l.head? =some c/\v= .bool true/\St h' rb l.tail)\/(l.head? ≠some c/\v= .bool false/\St h' rb l))/\Ext (only rb) h h'):=by
 refine ah.of func138 rfl rfl ?_;refine aY func138 1 [0,1,4] rfl ?_;refine av rfl ?_;refine av rfl ?_;refine G.bE [(18,.bool (decide (l.head? ≠some c)))] [(0,_),(1,_),(4,_)] ⟨rfl,rfl,rfl,trivial⟩ func138 rfl ?_ ?_
 · refine ct 2 rfl rfl (af (off:=0) underlying196 rfl rfl H.fq rfl) ?_;refine xp rfl (ai H.fM rfl hs.cell) ?_;refine xp rfl (aj.dV rfl rfl) ?_;refine bf 1 rfl ?_;refine aN (d:=10) rfl (fun he=>?_) (fun he=>?_)
   · have hl:l=[]:=eK (of_decide_eq_true he);refine bf 8 rfl ?_;refine aE rfl ?_;exact⟨rfl,aF rfl (by subst hl;simp),rfl,rfl,rfl,trivial⟩
   · obtain⟨d,r,rfl⟩:=List.exists_cons_of_ne_nil (fun(e:l=[])=>(of_decide_eq_false he) (by rw[e];rfl));refine ct 2 rfl rfl (af (off:=0) underlying196 rfl rfl H.fq rfl) ?_;refine xp rfl (ai H.fM rfl hs.cell) ?_;refine xp rfl (aj.dw underlying9 rfl rfl 0 rfl (gP rfl)) ?_;refine bf 3 rfl ?_;refine aE rfl ?_;exact⟨rfl,aF rfl (by simp only[List.head?_cons,Option.some.injEq,ne_eq];exact JP d c),rfl,rfl,rfl,trivial⟩
 · refine aO rfl rfl (fun hn=>?_) (fun hn=>?_)
   · refine aY func138 1 [0,1,4,18] rfl ?_;refine G.ret func138 rfl rfl ?_;exact⟨_,rfl,.inr ⟨hn,rfl,hs⟩,Ext.refl _ _⟩
   · have hn:=Classical.not_not.1 hn;obtain⟨d,r,rfl⟩:=List.exists_cons_of_ne_nil (fun(e:l=[])=>by rw[e] at hn;cases hn);have hz:(bs (d::r)).size=r.length+1:=by rw[bu];rfl
     have hd:=ny (d::r) 1;simp only[List.length_cons] at hl;refine aB rfl ?_;refine bp func138 3 rfl ?_;refine xp rfl (af (off:=0) underlying196 rfl rfl H.fq rfl) ?_;refine xp rfl (ai H.fM rfl hs.cell) ?_;refine xp rfl (aj.gU underlying9 rfl rfl 1 rfl (by omega)) ?_;refine ct 1 rfl rfl (af (off:=0) underlying196 rfl rfl H.fq rfl) ?_;refine RW.b9 rfl rfl rfl (aA.bz H.fq rfl rfl hs (by first|decide|exact of_decide_eq_true rfl|(simp;done)|(simp;omega)) rfl) ?_;rintro _ h1 ⟨rfl,hk,hx,hz1⟩;refine xd [0,1,4,18] rfl ?_;refine aY func138 1 [0,1,4,18] rfl ?_;refine G.ret func138 rfl rfl ?_;exact⟨_,rfl,.inl ⟨hn,rfl,by rw[hd] at hk;exact hk⟩,hx⟩
theorem tW (c:UInt8) (hs:St h rb l) (hl:l.length<=1000000):ah Tryz.prog 197 #[zq rb,.int .u8 (c.toNat:Nat)] h (PR rb h (if l.head? =some c then some ((),l.tail) else none) fun _ _ _=>True):=by
 refine ah.of func197 rfl rfl ?_;refine bp func197 2 rfl ?_;refine xo rfl (aq (vs:=[_,_]) func138 rfl H.Db rfl (ah.br (kO c hs hl))) ?_;rintro _ h1 ⟨hor,hx⟩
 rcases hor with ⟨h1,rfl,h2⟩|⟨h1,rfl,h2⟩
 · refine aS 1 [0,1,7] rfl ?_;refine aG rfl rfl (fun hc=>absurd hc (by decide)) (fun _=>?_);refine aB rfl ?_;refine G.uQ func197 rfl ?_;exact⟨(),_,if_pos h1,trivial,h2,hx⟩
 · refine aS 1 [0,1,7] rfl ?_;refine aG rfl rfl (fun _=>?_) (fun hc=>absurd hc (by decide));refine G.cq func197 rfl ?_;refine xp rfl (aP (H.gY ) rfl) ?_;refine xp rfl (bG H.kD rfl) ?_;refine RW.b9 rfl rfl rfl (dN (Φ:=fun _ _=>False) rfl (ef rfl (if_neg h1) hx)) ?_;rintro _ _ hpn;exact hpn.elim
theorem mg (x:UInt8):ah Tryz.prog 208 #[.string ⟨#[40,41,91,93,124,42,43,63,46,92,45,94]⟩,.int .u8 (x.toNat:Nat)] h (cT fun r h'=>r= .int .i64 (Lib.indexByte fP x)/\h'=h) :=
 (lQ _ _).ret fun _ _ ⟨ho,he⟩=>⟨by rw[ho];simp[fP],he⟩
theorem jA:∀x:UInt8,(0<=Lib.indexByte fP x)↔x∈fP:=by
 have h:∀n:Fin 256,(0<=Lib.indexByte fP (UInt8.ofNat n.val))↔(UInt8.ofNat n.val)∈fP:=by decide +kernel
 intro x;have:=h ⟨x.toNat,x.toNat_lt⟩;simpa using this
def yR:By:=[48,49,50,51,52,53,54,55,56,57,97,98,99,100,101,102]
theorem yQ (x:UInt8):ah Tryz.prog 208 #[.string ⟨#[48,49,50,51,52,53,54,55,56,57,97,98,99,100,101,102]⟩,.int .u8 (x.toNat:Nat)] h (cT fun r h'=>r= .int .i64 (Lib.indexByte yR x)/\h'=h) :=
 (lQ _ _).ret fun _ _ ⟨ho,he⟩=>⟨by rw[ho];simp[yR],he⟩
theorem Hy:∀n:Fin 256,IntKind.u8.wrap ((BitVec.ofInt IntKind.u8.bits (n.val:Int) |||BitVec.ofInt IntKind.u8.bits 32).toNat)=(((UInt8.ofNat n.val) ||| 32).toNat:Nat):=by decide +kernel
theorem low (x:UInt8):IntKind.u8.wrap ((BitVec.ofInt IntKind.u8.bits (x.toNat:Int) |||BitVec.ofInt IntKind.u8.bits 32).toNat)=((x ||| 32).toNat:Nat):=by
 have:=Hy ⟨x.toNat,x.toNat_lt⟩;simpa using this
theorem HP:∀n:Fin 256,lg (UInt8.ofNat n.val)=if Lib.indexByte yR ((UInt8.ofNat n.val) ||| 32)<0\/n.val<48 then none else some (Lib.indexByte yR ((UInt8.ofNat n.val) ||| 32)).toNat:=by decide +kernel
theorem MU (x:UInt8):lg x=if Lib.indexByte yR (x ||| 32)<0\/x.toNat<48 then none else some (Lib.indexByte yR (x ||| 32)).toNat:=by
 have:=HP ⟨x.toNat,x.toNat_lt⟩;simpa using this
theorem Ei {x:UInt8}(h:lg x=some n):n<16:=by
 unfold lg at h;split at h
 · cases h;omega
 · split at h
   · cases h;omega
   · split at h
     · cases h;omega
     · cases h
theorem rR (x:UInt8):ah Tryz.prog 207 #[.int .u8 (x.toNat:Nat)] h (EE (fun v h'=>∃n:Nat,lg x=some n/\n<16/\v= .int .u8 n/\h'=h) (fun ch h'=>CE ch/\lg x=none/\h'=h)):=by
 have hd:=MU x;refine ah.of func207 rfl rfl ?_;refine aY func207 1 [0,2] rfl ?_;refine bp func207 1 rfl ?_;refine xp rfl (aj.yZ rfl rfl) ?_;refine xo rfl (aq (vs:=[_,_]) func208 rfl H.FI rfl (ah.br ((low x▸yQ (x ||| 32))))) ?_;rintro _ _ ⟨rfl,rfl⟩;refine aS 1 [0,2,3] rfl ?_;refine av rfl ?_;refine av rfl ?_;refine G.bE [(12,.bool (decide (Lib.indexByte yR (x ||| 32)<0\/x.toNat<48)))] [(0,_),(2,_),(3,_)] ⟨rfl,rfl,rfl,trivial⟩ func207 rfl ?_ ?_
 · refine bf 3 rfl ?_;refine aN (d:=9) rfl (fun hg=>?_) (fun hg=>?_)
   · refine bf 3 rfl ?_;refine aE rfl ?_;exact⟨rfl,aF rfl (by have:=of_decide_eq_true hg;simp[this]),rfl,rfl,rfl,trivial⟩
   · refine bf 3 rfl ?_;refine aE rfl ?_;exact⟨rfl,aF rfl (by have:=of_decide_eq_false hg;simp only[decide_eq_decide];omega),rfl,rfl,rfl,trivial⟩
 · refine aO rfl rfl (fun hn=>?_) (fun hn=>?_)
   · rw[if_pos hn] at hd;refine G.cq func207 rfl ?_;refine xp rfl (aP (H.gY ) rfl) ?_;refine xp rfl (bG H.kD rfl) ?_;refine RW.b9 rfl rfl rfl (dN (Φ:=fun _ _=>False) rfl (HY ⟨rfl,hd,rfl⟩)) ?_;rintro _ _ hpn;exact hpn.elim
   · rw[if_neg hn] at hd;have h16:=Ei hd;refine aB rfl ?_;refine bp func207 1 rfl ?_;refine xp rfl (aj.Dj underlying3 underlying5 rfl) ?_;refine aS 1 [0,2,3,12] rfl ?_;refine G.ret func207 rfl rfl ?_;refine⟨_,hd,h16,?_,rfl⟩
     show Value.int .u8 _=_
     congr 1
     have:IntKind.u8.wrap (Lib.indexByte yR (x ||| 32))=Lib.indexByte yR (x ||| 32):=wrap_u8 (by omega);rw[this];omega
theorem Gd:∀m n:Fin 16,IntKind.u8.wrap ((BitVec.ofInt IntKind.u8.bits (IntKind.u8.wrap ((m.val:Int)*2 ^ min (4:Int).toNat IntKind.u8.bits)) |||BitVec.ofInt IntKind.u8.bits (n.val:Int)).toNat)=((UInt8.ofNat (m.val*16+n.val)).toNat:Nat):=by decide +kernel
theorem Md (hm:m<16) (hn:n<16):IntKind.u8.wrap ((BitVec.ofInt IntKind.u8.bits (IntKind.u8.wrap ((m:Int)*2 ^ min (4:Int).toNat IntKind.u8.bits)) |||BitVec.ofInt IntKind.u8.bits (n:Int)).toNat)=((UInt8.ofNat (m*16+n)).toNat:Nat):=Gd ⟨m,hm⟩ ⟨n,hn⟩
theorem Js {x:UInt8}(t:By) (h:lg x=none):pU (120::x::t)=none:=by
 unfold pU;cases t with
 |nil=>rfl
 |cons y t=>simp[h]
theorem nT (hs:St h rb l) (hl:l.length<=1000000):ah Tryz.prog 200 #[zq rb] h (PR rb h (pU l) fun c v _=>v= .int .u8 (c.toNat:Nat)):=by
 refine ah.of func200 rfl rfl ?_;refine aY func200 1 [0,2] rfl ?_;refine av rfl ?_;refine bp func200 1 rfl ?_;refine xo rfl (aq (vs:=[_]) func186 rfl H.tS rfl (ah.jv (fX hs hl) ((fun _ _ ⟨hc,hp,hx⟩=>ef hc (by rw[iW hp];rfl) hx)))) ?_;rintro _ h1 ⟨c,r,hp,rfl,hs1,hx1⟩;refine aS 1 [0,2,3] rfl ?_;refine G.block rfl rfl ?_;refine aY func200 3 [0,2,3,7] rfl ?_;obtain rfl:=fY hp;simp only[List.length_cons] at hl;refine aO rfl rfl (fun e1=>?_) (fun e1=>?_)
 · have e1:c=110:=(dD rfl).1 e1;refine aY func200 1 [0,2,3,7] rfl ?_;refine G.ret func200 rfl rfl ?_;exact⟨10,r,by unfold pU;simp[e1],rfl,hs1,hx1⟩
 · have e1:¬c=110:=fun e=>e1 ((dD rfl).2 e)
   refine aY func200 3 [0,2,3,7,10] rfl ?_;refine aO rfl rfl (fun e2=>?_) (fun e2=>?_)
   · have e2:c=116:=(dD rfl).1 e2;refine aY func200 1 [0,2,3,7,10] rfl ?_;refine G.ret func200 rfl rfl ?_;exact⟨9,r,by unfold pU;simp[e2],rfl,hs1,hx1⟩
   · have e2:¬c=116:=fun e=>e2 ((dD rfl).2 e)
     refine aY func200 3 [0,2,3,7,10,13] rfl ?_;refine aO rfl rfl (fun e3=>?_) (fun e3=>?_)
     · have e3:c=114:=(dD rfl).1 e3;refine aY func200 1 [0,2,3,7,10,13] rfl ?_;refine G.ret func200 rfl rfl ?_;exact⟨13,r,by unfold pU;simp[e3],rfl,hs1,hx1⟩
     · have e3:¬c=114:=fun e=>e3 ((dD rfl).2 e)
       refine aY func200 3 [0,2,3,7,10,13,16] rfl ?_;refine aO rfl rfl (fun e4=>?_) (fun e4=>?_)
       · have e4:c=120:=(dD rfl).1 e4;subst e4;refine bp func200 1 rfl ?_;refine xo rfl (aq (vs:=[_]) func186 rfl H.tS rfl (ah.jv (fX hs1 (by omega)) ((fun _ _ ⟨hc,hp,hx⟩=>ef hc (by rw[iW hp];rfl) (hx1.trans hx))))) ?_;rintro _ h2 ⟨x,r2,hp2,rfl,hs2,hx2⟩;refine xo rfl (aq (vs:=[_]) func207 rfl H.Is rfl (ah.jv (rR x) ((fun _ h' ⟨hc,hq,hh⟩=>ef hc (by obtain rfl:=fY hp2;exact Js _ hq) (by subst hh;exact hx1.trans hx2))))) ?_;rintro _ _ ⟨m,hm,hm16,rfl,rfl⟩;refine aS 1 [0,2,3,4,7,10,13,16] rfl ?_;refine bp func200 1 rfl ?_;refine xp rfl (Ds rfl rfl (by omega)) ?_;refine bf 1 rfl ?_;obtain rfl:=fY hp2;simp only[List.length_cons] at hl;refine xo rfl (aq (vs:=[_]) func186 rfl H.tS rfl (ah.jv (fX hs2 (by omega)) ((fun _ _ ⟨hc,hp,hx⟩=>ef hc (by rw[iW hp];rfl) ((hx1.trans hx2).trans hx))))) ?_;rintro _ h3 ⟨y,r3,hp3,rfl,hs3,hx3⟩;refine xo rfl (aq (vs:=[_]) func207 rfl H.Is rfl (ah.jv (rR y) ((fun _ h' ⟨hc,hq,hh⟩=>ef hc (by obtain rfl:=fY hp3;unfold pU;simp[hm,hq]) (by subst hh;exact(hx1.trans hx2).trans hx3))))) ?_;rintro _ _ ⟨n,hn,hn16,rfl,rfl⟩;refine xp rfl (aj.yZ rfl rfl) ?_;refine aS 1 [0,2,3,4,7,10,13,16] rfl ?_;obtain rfl:=fY hp3;refine G.ret func200 rfl rfl ?_;exact⟨UInt8.ofNat (m*16+n),r3,by unfold pU;simp[hm,hn],by show Value.int _ _=_;rw[Md hm16 hn16],hs3,(hx1.trans hx2).trans hx3⟩
       · have e4:¬c=120:=fun e=>e4 ((dD rfl).2 e)
         refine bp func200 1 rfl ?_;refine xo rfl (aq (vs:=[_,_]) func208 rfl H.FI rfl (ah.br (mg c))) ?_;rintro _ _ ⟨rfl,rfl⟩;refine aS 2 [0,2,3,7,10,13,16,28] rfl ?_;refine aO rfl rfl (fun e5=>?_) (fun e5=>?_)
         · have e5:=(jA c).1 e5;refine aY func200 2 [0,2,3,7,10,13,16,28] rfl ?_;refine G.ret func200 rfl rfl ?_;exact⟨c,r,by unfold pU;simp[e1,e2,e3,e4,e5],rfl,hs1,hx1⟩
         · have e5:¬c∈fP:=fun e=>e5 ((jA c).2 e)
           refine aB rfl ?_;refine G.aQ ?_;refine G.cq func200 rfl ?_;refine xp rfl (aP (H.gY ) rfl) ?_;refine xp rfl (bG H.kD rfl) ?_;refine RW.b9 rfl rfl rfl (dN (Φ:=fun _ _=>False) rfl (ef rfl (by unfold pU;simp[e1,e2,e3,e4,e5]) hx1)) ?_;rintro _ _ hpn;exact hpn.elim
theorem pJ (hs:St h rb l) (hl:l.length<=1000000):ah Tryz.prog 206 #[zq rb] h (PR rb h (ou l) fun c v _=>v= .int .u8 (c.toNat:Nat)):=by
 refine ah.of func206 rfl rfl ?_;refine aY func206 1 [0,2] rfl ?_;refine bp func206 1 rfl ?_;refine xo rfl (aq (vs:=[_]) func186 rfl H.tS rfl (ah.jv (fX hs hl) ((fun _ _ ⟨hc,hp,hx⟩=>ef hc (by rw[iW hp];rfl) hx)))) ?_;rintro _ h1 ⟨c,r,hp,rfl,hs1,hx1⟩;refine aS 1 [0,2,3] rfl ?_;refine av rfl ?_;refine G.block rfl rfl ?_;refine aY func206 3 [0,2,3,6] rfl ?_;obtain rfl:=fY hp;simp only[List.length_cons] at hl;refine aO rfl rfl (fun e1=>?_) (fun e1=>?_)
 · have e1:c=92:=(dD rfl).1 e1;refine bp func206 1 rfl ?_;refine xo rfl (aq (vs:=[_]) func200 rfl H.Iw rfl (ah.jv (nT hs1 (by omega)) ((fun _ _ ⟨hc,hp,hx⟩=>ef hc (by unfold ou;simp[e1,hp]) (hx1.trans hx))))) ?_;rintro _ h2 ⟨d,r2,hp2,rfl,hs2,hx2⟩;refine aS 1 [0,2,3,6] rfl ?_;refine G.ret func206 rfl rfl ?_;exact⟨d,r2,by unfold ou;simp[e1,hp2],rfl,hs2,hx1.trans hx2⟩
 · have e1:¬c=92:=fun e=>e1 ((dD rfl).2 e)
   refine bp func206 1 rfl ?_;refine xo rfl (aq (vs:=[_,_]) func208 rfl H.FI rfl (ah.br (mg c))) ?_;rintro _ _ ⟨rfl,rfl⟩;refine aS 2 [0,2,3,6,11] rfl ?_;refine aO rfl rfl (fun e5=>?_) (fun e5=>?_)
   · have e5:=(jA c).1 e5;refine G.cq func206 rfl ?_;refine xp rfl (aP (H.gY ) rfl) ?_;refine xp rfl (bG H.kD rfl) ?_;refine RW.b9 rfl rfl rfl (dN (Φ:=fun _ _=>False) rfl (ef rfl (by unfold ou;simp[e1,e5]) hx1)) ?_;rintro _ _ hpn;exact hpn.elim
   · have e5:¬c∈fP:=fun e=>e5 ((jA c).2 e)
     refine aB rfl ?_;refine G.aQ ?_;refine aY func206 2 [0,2,3,6,11] rfl ?_;refine G.ret func206 rfl rfl ?_;exact⟨c,r,by unfold ou;simp[e1,e5],rfl,hs1,hx1⟩
theorem FQ (k s:Nat) (v:Value) (i:Nat) (hi:i<256):(dY k s v).set (1+i / 64*1) (.int .u64 ((Bv s (i / 64) ||| 2 ^ (i%64):Nat):Int))=dY k (s |||(1 <<< i)) v:=by
 have h4:i / 64<4:=by omega
 have hw:=EM s i;have hs:∀q,q≠i / 64->eW (s |||(1 <<< i)) q=eW s q:=fun q hq=>by unfold eW;rw[EN s i q hq]
 have he:eW (s |||(1 <<< i)) (i / 64)= .int .u64 ((Bv s (i / 64) ||| 2 ^ (i%64):Nat):Int):=by unfold eW;rw[hw]
 rw[<-he];generalize i / 64=q at *;unfold dY
 match q,h4 with
 | 0,_=>rw[hs 1 (by decide),hs 2 (by decide),hs 3 (by decide)];rfl
 | 1,_=>rw[hs 0 (by decide),hs 2 (by decide),hs 3 (by decide)];rfl
 | 2,_=>rw[hs 0 (by decide),hs 1 (by decide),hs 3 (by decide)];rfl
 | 3,_=>rw[hs 0 (by decide),hs 1 (by decide),hs 2 (by decide)];rfl
theorem FP (k s:Nat) (v:Value) (q:Nat) (hq:q<4):(dY k s v)[1+q*1]? =some (eW s q):=by
 match q,hq with
 | 0,_=>rfl
 | 1,_=>rfl
 | 2,_=>rfl
 | 3,_=>rfl
theorem Jh {w i:Nat}(hw:w<18446744073709551616):IntKind.u64.wrap ((BitVec.ofInt IntKind.u64.bits (w:Int) |||BitVec.ofInt IntKind.u64.bits (IntKind.u64.wrap (1*2 ^ min (((i:Int)).tmod 64).toNat IntKind.u64.bits))).toNat:Int)=((w ||| 2 ^ (i%64):Nat):Int):=by
 have h1:((i:Int)).tmod 64=((i%64:Nat):Int):=by rw[Int.tmod_eq_emod_of_nonneg (by omega)];omega
 have hb:i%64<64:=Nat.mod_lt _ (by decide);have h2:2 ^ (i%64)<2 ^ 64:=Nat.pow_lt_pow_right (by decide) hb;rw[h1,JU,LH hw h2]
theorem BH (s i n:Nat) (h:0<n):wE s i n=wE (s |||(1 <<< i)) (i+1) (n-1):=by
 cases n with
 |zero=>omega
 |succ n=>rfl
theorem gS {nb k s:Nat}{v:Value}(hk:bh h nb 132 (dY k s v)) (a b:UInt8):ah Tryz.prog 199 #[.pointer (some ⟨nb,1,none⟩),.int .u8 (a.toNat:Nat),.int .u8 (b.toNat:Nat)] h (cT fun _ h' =>
 bh h' nb 132 (dY k (nK s a b) v)/\Ext (only nb) h h'):=by
 have ha:=a.toNat_lt;have hb:=b.toNat_lt;refine ah.of func199 rfl rfl ?_;refine bp func199 1 rfl ?_;refine xp rfl (aj.yV underlying5 underlying3 rfl (wrap_i64 ⟨by omega,by omega⟩)) ?_;refine aS 1 [0,1,2,6] rfl ?_;refine G.block rfl rfl ?_;refine bD (σ:=Nat×Nat) (fun q=>[(0,.pointer (some ⟨nb,1,none⟩)),(2,.int .u8 (b.toNat:Nat)),(6,.int .i64 (q.1:Nat))]) (fun q h'=>bh h' nb 132 (dY k q.2 v)/\Ext (only nb) h h'/\q.1<=256/\wE q.2 q.1 (b.toNat+1-q.1)=nK s a b) (fun q=>b.toNat+1-q.1) ((a.toNat,s)) rfl ⟨rfl,rfl,rfl,trivial⟩ ⟨hk,Ext.refl _ _,by show a.toNat<=256;omega,rfl⟩ ?_;rintro⟨i,s'⟩ h1 ⟨hk1,hx1,hi,hsp⟩ ih
 try dsimp only
 dsimp only at hk1 hi hsp;refine av rfl ?_;refine bp func199 2 rfl ?_;refine xp rfl (aj.yV underlying5 underlying3 rfl (wrap_i64 ⟨by omega,by omega⟩)) ?_;refine aS 1 [0,2,6,12] rfl ?_;refine aO rfl rfl (fun hle=>?_) (fun hle=>?_)
 · have hi255:i<=b.toNat:=by omega
   rw[BH _ _ _ (by omega)] at hsp;have hq:i / 64<4:=by omega
   have hdiv:IntKind.i64.wrap (((i:Int)).tdiv 64)=((i / 64:Nat):Int):=by
    rw[Int.tdiv_eq_ediv_of_nonneg (by omega),wrap_i64 ⟨by omega,by omega⟩];omega
   have hw:=Bu s' (i / 64);have hset:=FQ k s' v i (by omega);have hk1':bh h1 nb 132 [.int .i64 k,eW s' 0,eW s' 1,eW s' 2,eW s' 3,v]:=hk1;refine aB rfl ?_;refine av rfl ?_;refine G.block rfl rfl ?_;refine bU (fun b=>Array.size h1<=b) (fun i=>Nat.blt i 12) (sz:=13) (listed:= #[false,false,false,false,false,false,false,false,false,false,false,false,false]) func199 H.mixed rfl rfl rfl ?_;refine cJ 0 1 (by kernel_rfl) rfl ?_;refine cJ 1 3 (by kernel_rfl) rfl ?_;refine bM 2 7 (by kernel_rfl) rfl (fun h' e=>zj rfl rfl (by decide)) ?_;refine cJ 3 15 (by kernel_rfl) rfl ?_;refine bM 4 31 (by kernel_rfl) rfl (fun h' e=>aj.cK underlying129 H.tq rfl rfl (i / 64) hdiv hq) ?_;refine bM 5 63 (by kernel_rfl) rfl (fun h' e=>ai H.GQ rfl (e.old (hk1.cell (FP k s' v _ hq)))) ?_;refine cJ 6 127 (by kernel_rfl) rfl ?_;refine bM 7 255 (by kernel_rfl) rfl (fun h' e=>sQ rfl rfl (by decide)) ?_;refine bM 8 511 (by kernel_rfl) rfl (fun h' e=>Ds rfl rfl (by rw[Int.tmod_eq_emod_of_nonneg (by omega)];omega)) ?_;refine bM 9 1023 (by kernel_rfl) rfl (fun h' e=>aj.yZ rfl rfl) ?_;refine eP 10 2047 (by kernel_rfl) rfl (aj.br (aM rfl)) ?_;rintro _ hq_ ⟨rfl,hqe_⟩;replace hqe_:=hqe_.symm;subst hqe_;refine⟨fun _=>Ext.refl _ _,?_⟩;refine bM 11 4095 (by kernel_rfl) rfl (fun h' e=>aj.cK underlying129 H.tq rfl rfl (i / 64) hdiv hq) ?_;refine lW 12 8191 (by kernel_rfl) rfl (aA.bz H.tq rfl rfl hk1' (by first|decide|exact of_decide_eq_true rfl|(simp;done)|(simp;omega)) rfl) ?_;rintro _ h2 ⟨rfl,hk2,hx2,hz2⟩;refine⟨fun hk=>(nomatch hk),?_⟩;refine bB (by kernel_rfl) ?_;refine xu [0,2,6,12] rfl ?_;refine G.aQ ?_;refine G.cq func199 rfl ?_;refine ct 1 rfl rfl (aj.bC rfl rfl ⟨by omega,by omega⟩) ?_;refine aS 1 [0,2,6,12] rfl ?_;rw[Jh hw,show [.int .i64 (k:Int),eW s' 0,eW s' 1,eW s' 2,eW s' 3,v]=dY k s' v from rfl,hset] at hk2;exact ih (i+1,s' |||(1 <<< i)) _ _ ⟨rfl,rfl,rfl,trivial⟩ ⟨hk2,hx1.trans hx2,by show i+1<=256;omega,by show wE _ (i+1) (b.toNat+1-(i+1))=_;rw[<-hsp];rfl⟩ (by show b.toNat+1-(i+1)<b.toNat+1-i;omega)
 · have h0:b.toNat+1-i=0:=by omega
   rw[h0] at hsp;refine bw rfl rfl ?_;refine G.uQ func199 rfl ?_;exact⟨_,rfl,by rw[<-hsp];exact hk1,hx1⟩
theorem Ej (s:Nat) (b:UInt8):ah Tryz.prog 103 #[.agg (uS s).toArray,.int .u8 (b.toNat:Nat)] h (cT fun r h'=>r= .bool (s.testBit b.toNat)/\aD h h'):=by
 have hb:=b.toNat_lt;have hq:b.toNat / 64<4:=by omega
 have hdiv:IntKind.u8.wrap (((b.toNat:Int)).tdiv 64)=((b.toNat / 64:Nat):Int):=by
  rw[Int.tdiv_eq_ediv_of_nonneg (by omega),wrap_u8 (by omega)];omega
 have hmod:((b.toNat:Int)).tmod 64=((b.toNat%64:Nat):Int):=by rw[Int.tmod_eq_emod_of_nonneg (by omega)];omega
 have hm64:b.toNat%64<64:=Nat.mod_lt _ (by decide)
 have hword:∀q,q<4->(uS s)[0+q*1]? =some (eW s q):=fun q hq=>by
  match q,hq with
  | 0,_=>rfl
  | 1,_=>rfl
  | 2,_=>rfl
  | 3,_=>rfl
 refine ah.of func103 rfl rfl ?_;refine xr func103 rfl ?_;refine xo rfl (aA.gu rfl) ?_;rintro _ h1 ⟨rfl,hk,he,hz⟩;refine aS 1 [0,1,2,4] rfl ?_;refine bp func103 1 rfl ?_;refine xp rfl (zj rfl rfl (by decide)) ?_;have hk:bh h1 h.size 129 (uS s):=hk;refine xp rfl (aj.cK underlying129 H.tq rfl rfl (b.toNat / 64) hdiv hq) ?_;refine xp rfl (ai H.GQ rfl (hk.cell (hword _ hq))) ?_;refine ct 1 rfl rfl (sQ rfl rfl (by decide)) ?_;refine xp rfl (H8 rfl rfl (by rw[hmod];omega)) ?_;refine xp rfl (aj.GA rfl rfl) ?_;refine aS 2 [0,1,2,4] rfl ?_;refine G.ret func103 rfl rfl ?_;refine⟨_,rfl,?_,he⟩;rw[hmod,JT _ _ hm64,Mi (Nat.lt_of_le_of_lt (Nat.shiftRight_le _ _) (Bu s _)),Hf];cases s.testBit b.toNat<;>rfl
theorem jw.only {h0:az}{g:Nat}(e:Ext M h0 h) (x:Ext (fun b=>b=g) h h') (hg:h0.size<=g):Ext M h0 h' :=
 ⟨Nat.le_trans e.size x.size,fun b hb hm=>by rw[x.block b (Nat.lt_of_lt_of_le hb e.size) (by omega)];exact e.block b hb hm⟩
theorem jw.ay {h0:az}(e:Ext M h0 h) (x:aD h h'):Ext M h0 h':=e.trans (aD.of x)
theorem tG:∀(n m acc:Nat) (s:By),s.length<n->s.length<m->lO n acc s=lO m acc s
 | 0,_,_,_,h,_=>by omega
 |_,0,_,_,_,h=>by omega
 |n+1,m+1,acc,s,hn,hm=>by
  rw[lO,lO];cases hf:fm s with
  |none=>rfl
  |some p =>
   obtain⟨⟨a,b⟩,r⟩:=p;have hlen:=mG hf;simp only;split
   · rfl
   · exact tG n m _ _ (by omega) (by omega)
def nU (first:Bool) (acc:Nat) (l:By):Option (Nat×By):=if first=false/\l.head? =some 93 then some (acc,l.tail) else lO (l.length+1) acc l
theorem oI {first:Bool}{acc:Nat}(h:¬(first=false/\l.head? =some 93)) (hf:fm l=none):nU first acc l=none:=by
 unfold nU;rw[if_neg h,lO,hf]
theorem uW {first:Bool}{acc:Nat}{b:UInt8}(h:¬(first=false/\l.head? =some 93)) (hf:fm l=some ((a,b),r)):nU first acc l=nU false (nK acc a b) r:=by
 have hlen:=mG hf;unfold nU;rw[if_neg h,lO,hf];simp only[true_and];split
 · simp
 · rename_i hne
   rw[if_neg (fun e=>by
    cases r with
    |nil=>cases e
    |cons c t=>simp at e;subst e;exact hne t rfl)]
   exact tG _ _ _ _ (by omega) (by omega)
theorem KR (h:ou l=none):fm l=none:=by unfold fm;rw[h]
theorem KQ (h:ou l=some (a,r)) (hr:r.head? ≠some 45):fm l=some ((a,a),r):=by
 unfold fm;rw[h];simp only;split
 · exact absurd rfl hr
 · rfl
theorem KP (h:ou l=some (a,r)) (hr:r.head? =some 45) (hb:ou r.tail=none):fm l=none:=by
 unfold fm;rw[h];cases r with
 |nil=>cases hr
 |cons c t=>simp at hr;subst hr;simp at hb;simp[hb]
theorem KO {r':By}{b:UInt8}(h:ou l=some (a,r)) (hr:r.head? =some 45) (hb:ou r.tail=some (b,r')):fm l=if b.toNat<a.toNat then none else some ((a,b),r'):=by
 unfold fm;rw[h];cases r with
 |nil=>cases hr
 |cons c t=>simp at hr;subst hr;simp at hb;simp[hb]
theorem vZ (l:By):iy l=(nU true 0 (if l.head? =some 94 then l.tail else l)).map fun p=>(.mk 1 (if l.head? =some 94 then mz p.1 else p.1) [],p.2):=by
 unfold iy nU;split
 · simp
 · rename_i hne
   have h1:l.head? ≠some 94:=fun e=>by
    cases l with
    |nil=>cases e
    |cons c t=>simp at e;subst e;exact hne t rfl
   simp[h1]
theorem He (s q:Nat) (hq:q<4):Bv (mz s) q=18446744073709551615 ^^^ Bv s q:=by
 apply Nat.eq_of_testBit_eq
 intro i;rw[kL,Nat.testBit_xor,kL];unfold mz;rw[Nat.testBit_xor,show GO=2 ^ 256-1 from rfl,Nat.testBit_two_pow_sub_one,show (18446744073709551615:Nat)=2 ^ 64-1 from rfl,Nat.testBit_two_pow_sub_one]
 by_cases hi:i<64
 · have:64*q+i<256:=by omega
   simp[hi,this]
 · simp[hi]
theorem JO {x:Nat}(hx:x<18446744073709551616):IntKind.u64.wrap ((BitVec.ofInt IntKind.u64.bits (if IntKind.u64.signed then -1 else IntKind.u64.max) ^^^ BitVec.ofInt IntKind.u64.bits (x:Int)).toNat:Int)=((18446744073709551615 ^^^ x:Nat):Int):=by
 have e:(BitVec.ofInt IntKind.u64.bits (if IntKind.u64.signed then -1 else IntKind.u64.max) ^^^ BitVec.ofInt IntKind.u64.bits (x:Int)).toNat=18446744073709551615 ^^^ x:=by
  rw[BitVec.toNat_xor]
  have h1:(BitVec.ofInt IntKind.u64.bits (x:Int)).toNat=x:=by
   show (BitVec.ofInt 64 (x:Int)).toNat=x
   simp only[BitVec.toNat_ofInt];omega
  rw[h1];rfl
 rw[e];have:18446744073709551615 ^^^ x<2 ^ 64:=Nat.xor_lt_two_pow (by decide) hx;exact ng ⟨by omega,by omega⟩
def Ax (s q i:Nat):Value:=if i<q then eW (mz s) i else eW s i
def Jo (s q:Nat):List Value:=[.int .i64 1,Ax s q 0,Ax s q 1,Ax s q 2,Ax s q 3,.slice none 0 0]
theorem FO (s q:Nat) (hq:q<4):(Jo s q)[1+q*1]? =some (eW s q):=by
 match q,hq with
 | 0,_=>rfl
 | 1,_=>rfl
 | 2,_=>rfl
 | 3,_=>rfl
theorem Hw (s q:Nat) (hq:q<4):(Jo s q).set (1+q*1) (.int .u64 ((18446744073709551615 ^^^ Bv s q:Nat):Int))=Jo s (q+1):=by
 rw[<-He s q hq]
 match q,hq with
 | 0,_=>rfl
 | 1,_=>rfl
 | 2,_=>rfl
 | 3,_=>rfl
abbrev Dm (n:Nat):Nat->Prop:=fun b=>b<n
def Cz (n:Nat) (x:Nd) (v:Value) (h':az):Prop:=∃w,v= .agg (dY x.kind x.set w).toArray/\b8 h' (Dm n) (dY x.kind x.set w) x
theorem fE (h:az) (O:Nat->Prop) (k s:Nat):b8 h O (dY k s (.slice none 0 0)) (.mk k s []):=.of k s (bS.nil _ _ _)
theorem vY (hs:St h rb l) (hl:l.length<=1000000):ah Tryz.prog 198 #[zq rb] h (PR rb h (iy l) (Cz h.size)):=by
 have hlt:=hs.lt;have hbr:=vZ l;refine ah.of func198 rfl rfl ?_;refine xr func198 rfl ?_;refine xo rfl (aA.aX H.jS) ?_;rintro _ h1 ⟨rfl,hkr,he1,hz1⟩;refine xd [0,2] rfl ?_;refine xr func198 rfl ?_;refine xp rfl (aP (H.Dn _) rfl) ?_;refine xo rfl (aA.aX H.jS) ?_;rintro _ h2 ⟨rfl,hk2,he2,hz2⟩;refine RW.b9 rfl rfl rfl (aA.aC H.cn rfl rfl hk2 (by first|rfl|(simp;done)|(simp;omega)) (by first|decide|exact of_decide_eq_true rfl|(simp;done)|(simp;omega)) (by first|decide|simp[Value.oneCell'])) ?_;rintro _ h3 ⟨rfl,hk3,hx3,hz3⟩;have hk3:bh h3 h1.size 132 (dY 1 0 (.slice none 0 0)):=hk3;have hkr:bh h1 h.size 132 (dY 0 0 (.slice none 0 0)):=hkr;have e3:aD h h3:=aD.only (he1.trans he2) hx3 (by omega);have hkr3:bh h3 h.size 132 (dY 0 0 (.slice none 0 0)):=(hkr.ay he2).ext hx3 (by show ¬_=_;omega);have hs3:St h3 rb l:=bh.ay hs e3;refine xd [0,2,3] rfl ?_;refine bp func198 1 rfl ?_;refine xo rfl (aq (vs:=[_,_]) func138 rfl H.Db rfl (ah.br (kO 94 hs3 hl))) ?_;rintro _ h4 ⟨hor,hx4⟩
 obtain⟨nt,l1,rfl,hnt,hl1,hs4⟩:∃(nt:Bool) (l1:By),_=Value.bool nt/\nt=decide (l.head? =some 94)/\l1=(if l.head? =some 94 then l.tail else l)/\St h4 rb l1:=by
  rcases hor with ⟨a1,a2,a3⟩|⟨a1,a2,a3⟩
  · exact⟨true,_,a2,by simp[a1],by rw[if_pos a1],a3⟩
  · exact⟨false,_,a2,by simp[a1],by rw[if_neg a1],a3⟩
 rw[<-hl1] at hbr;have hl1l:l1.length<=1000000:=by rw[hl1];split;(have:l.tail.length<=l.length:=by simp);omega;exact hl
 have hkr4:=hkr3.ext hx4 (by show ¬_=_;omega);have hk4:=hk3.ext hx4 (by show ¬_=_;omega);have e4:Ext (only rb) h h4:=(aD.of e3).trans hx4;have hz4:=hx4.size;generalize htg:nU true 0 l1=tgt at hbr;refine aS 1 [0,2,3,4] rfl ?_;refine av rfl ?_;refine aY func198 1 [0,2,3,4,5] rfl ?_;refine G.block rfl rfl ?_;refine bD (σ:=Bool×Nat×By) (fun q=>[(0,zq rb),(2,.pointer (some ⟨h.size,0,none⟩)),(3,.pointer (some ⟨h1.size,0,none⟩)),(4,.bool nt),(5,.bool q.1)]) (fun q h'=>St h' rb q.2.2/\bh h' h1.size 132 (dY 1 q.2.1 (.slice none 0 0))/\bh h' h.size 132 (dY 0 0 (.slice none 0 0))/\Ext (only rb) h h'/\q.2.2.length<=1000000/\nU q.1 q.2.1 q.2.2=tgt) (fun q=>q.2.2.length) ((true,0,l1)) rfl ⟨rfl,rfl,rfl,rfl,rfl,trivial⟩ ⟨hs4,hk4,hkr4,e4,hl1l,htg⟩ ?_;rintro⟨first,acc,m⟩ h5 ⟨hs5,hk5,hkr5,e5,hm,hcon⟩ ih
 try dsimp only
 dsimp only at hs5 hk5 hm hcon;refine av rfl ?_;refine av rfl ?_;refine G.bE [(17,.bool (decide (¬(first=false/\m.head? =some 93))))] [(0,_),(2,_),(3,_),(4,_),(5,_)] ⟨rfl,rfl,rfl,rfl,rfl,trivial⟩ func198 rfl ?_ ?_
 · refine bf 2 rfl ?_;refine aN (d:=13) rfl (fun hf=>?_) (fun hf=>?_)
   · refine bf 4 rfl ?_;refine aE rfl ?_;exact⟨rfl,aF rfl (by simp[hf]),rfl,rfl,rfl,rfl,rfl,trivial⟩
   · refine bf 1 rfl ?_;refine xo rfl (aq (vs:=[_]) func185 rfl H.Iy rfl (ah.br (tV hs5))) ?_;rintro _ _ ⟨rfl,rfl⟩;refine bf 2 rfl ?_;refine aE rfl ?_;exact⟨rfl,aF rfl (by cases m with|nil=>simp|cons c t=>simp only[hf,List.head?_cons,Option.getD_some,Option.some.injEq,true_and];exact decide_eq_decide.2 (not_congr (dD rfl))),rfl,rfl,rfl,rfl,rfl,trivial⟩
 · refine aO rfl rfl (fun hgo=>?_) (fun hgo=>?_)
   · refine aB rfl ?_;refine av rfl ?_;refine G.block rfl rfl ?_;refine bp func198 1 rfl ?_;refine xo rfl (aq (vs:=[_]) func206 rfl H.Iu rfl (ah.jv (pJ hs5 hm) ((fun _ _ ⟨hc,hp,hx⟩=>ef hc (by rw[hbr,<-hcon,oI hgo (KR hp)];rfl) (e5.trans hx))))) ?_;rintro _ h6 ⟨a,r,ha,rfl,hs6,hx6⟩;have hrl:=pK ha;have hk6:=hk5.ext hx6 (by show ¬_=_;omega);have hkr6:=hkr5.ext hx6 (by show ¬_=_;omega);have e6:=e5.trans hx6;refine aS 1 [0,2,3,4,5,6,17] rfl ?_;refine aY func198 2 [0,2,3,4,5,6,7,17] rfl ?_;refine av rfl ?_;refine bp func198 1 rfl ?_;refine xo rfl (aq (vs:=[_,_]) func138 rfl H.Db rfl (ah.br (kO 45 hs6 (by omega)))) ?_;rintro _ h7 ⟨hor7,hx7⟩;have hk7:=hk6.ext hx7 (by show ¬_=_;omega);have hkr7:=hkr6.ext hx7 (by show ¬_=_;omega);have e7:=e6.trans hx7
     rcases hor7 with ⟨a1,rfl,hs7⟩|⟨a1,rfl,hs7⟩
     · have htl:r.tail.length<=r.length:=by simp
       refine xd [0,2,3,4,5,6,7,17,22] rfl ?_;refine aG rfl rfl (fun _=>?_) (fun hc=>absurd hc (by decide));refine G.cq func198 rfl ?_;refine bf 1 rfl ?_;refine xo rfl (aq (vs:=[_]) func206 rfl H.Iu rfl (ah.jv (pJ hs7 (by omega)) ((fun _ _ ⟨hc,hp,hx⟩=>ef hc (by rw[hbr,<-hcon,oI hgo (KP ha a1 hp)];rfl) (e7.trans hx))))) ?_;rintro _ h8 ⟨b,r8,hb,rfl,hs8,hx8⟩;have hbl:=pK hb;have hk8:=hk7.ext hx8 (by show ¬_=_;omega);have hkr8:=hkr7.ext hx8 (by show ¬_=_;omega);have e8:=e7.trans hx8;have hf4:=KO ha a1 hb;refine aS 1 [0,2,3,4,5,6,7,17,22] rfl ?_;refine av rfl ?_;refine aY func198 3 [0,2,3,4,5,6,7,17,22,27] rfl ?_;refine aO rfl rfl (fun hlow=>?_) (fun hlow=>?_)
       · rw[if_pos (by omega)] at hf4;refine G.cq func198 rfl ?_;refine xp rfl (aP (H.gY ) rfl) ?_;refine xp rfl (bG H.kD rfl) ?_;refine RW.b9 rfl rfl rfl (dN (Φ:=fun _ _=>False) rfl (ef rfl (by rw[hbr,<-hcon,oI hgo hf4];rfl) e8)) ?_;rintro _ _ hpn;exact hpn.elim
       · rw[if_neg (by omega)] at hf4;refine aB rfl ?_;refine G.cq func198 rfl ?_;refine xp rfl (af (off:=1) underlying132 rfl rfl H.lN rfl) ?_;refine bf 2 rfl ?_;refine xo rfl (aq (vs:=[_,_,_]) func199 rfl H.wP rfl (ah.br (gS hk8 a b))) ?_;rintro _ h9 ⟨hk9,hx9⟩;refine xd [0,2,3,4,5,6,7,17,22,27] rfl ?_;refine G.aQ ?_;refine G.cq func198 rfl ?_;refine aS 1 [0,2,3,4,5,6,7,17,22,27] rfl ?_;have hsp:=uW (acc:=acc) hgo hf4;exact ih (false,nK acc a b,r8) _ _ ⟨rfl,rfl,rfl,rfl,rfl,trivial⟩ ⟨bh.ext hs8 hx9 (by show ¬_=_;omega),hk9,hkr8.ext hx9 (by show ¬_=_;omega),jw.only e8 hx9 (by omega),by show r8.length<=_;omega,by rw[<-hcon,hsp]⟩ (by show r8.length<m.length;omega)
     · have hf2:=KQ ha a1;refine xd [0,2,3,4,5,6,7,17,22] rfl ?_;refine aG rfl rfl (fun hc=>absurd hc (by decide)) (fun _=>?_);refine aB rfl ?_;refine av rfl ?_;refine aY func198 3 [0,2,3,4,5,6,7,17,22,27] rfl ?_;refine aG rfl rfl (fun hc=>absurd hc (by simp)) (fun _=>?_);refine aB rfl ?_;refine G.cq func198 rfl ?_;refine xp rfl (af (off:=1) underlying132 rfl rfl H.lN rfl) ?_;refine bf 2 rfl ?_;refine xo rfl (aq (vs:=[_,_,_]) func199 rfl H.wP rfl (ah.br (gS hk7 a a))) ?_;rintro _ h9 ⟨hk9,hx9⟩;refine xd [0,2,3,4,5,6,7,17,22,27] rfl ?_;refine G.aQ ?_;refine G.cq func198 rfl ?_;refine aS 1 [0,2,3,4,5,6,7,17,22,27] rfl ?_;have hsp:=uW (acc:=acc) hgo hf2;exact ih (false,nK acc a a,r) _ _ ⟨rfl,rfl,rfl,rfl,rfl,trivial⟩ ⟨bh.ext hs7 hx9 (by show ¬_=_;omega),hk9,hkr7.ext hx9 (by show ¬_=_;omega),jw.only e7 hx9 (by omega),by show r.length<=_;omega,by rw[<-hcon,hsp]⟩ (by show r.length<m.length;omega)
   · have hgo:=Classical.not_not.1 hgo;have htgt:tgt=some (acc,m.tail):=by rw[<-hcon];unfold nU;rw[if_pos hgo]
     refine bw rfl rfl ?_;refine bp func198 1 rfl ?_;refine xo rfl (aq (vs:=[_,_]) func197 rfl H.Ix rfl (ah.jv (tW 93 hs5 hm) ((fun _ _ ⟨hc,hp,hx⟩=>absurd hp (by rw[if_pos hgo.2];simp))))) ?_;rintro _ h6 ⟨_,r,hp,_,hs6,hx6⟩;refine xd [0,2,3,4,5,17] rfl ?_;refine av rfl ?_;refine aY func198 1 [0,2,3,4,5,17,36] rfl ?_;refine G.block rfl rfl ?_;rw[if_pos hgo.2] at hp;cases hp;have hk6:=hk5.ext hx6 (by show ¬_=_;omega);have hkr6:=hkr5.ext hx6 (by show ¬_=_;omega);have e6:=e5.trans hx6;have hk6:bh h6 h1.size 132 (Jo acc 0):=hk6;refine bD (σ:=Nat) (fun q=>[(2,.pointer (some ⟨h.size,0,none⟩)),(3,.pointer (some ⟨h1.size,0,none⟩)),(4,.bool nt),(36,.int .i64 (q:Nat))]) (fun q h'=>q<=4/\St h' rb m.tail/\bh h' h1.size 132 (Jo acc (if nt then q else 0))/\bh h' h.size 132 (dY 0 0 (.slice none 0 0))/\Ext (only rb) h h') (fun q=>4-q) (0) rfl ⟨rfl,rfl,rfl,rfl,trivial⟩ ⟨by omega,hs6,by cases nt<;>exact hk6,hkr6,e6⟩ ?_;rintro q h7 ⟨hq,hs7,hk7,hkr7,e7⟩ ih;refine aY func198 1 [2,3,4,36,37] rfl ?_;refine av rfl ?_;refine aO rfl rfl (fun hq4=>?_) (fun hq4=>?_)
     · have hq4':q<4:=by omega
       refine aB rfl ?_;refine av rfl ?_;refine G.block rfl rfl ?_;refine aY func198 2 [2,3,4,8,36,37] rfl ?_;refine aY func198 1 [2,3,4,8,36,37,39] rfl ?_;refine aG rfl rfl (fun hb=>?_) (fun hb=>?_)
       · rw[if_pos hb] at hk7;have hk7':bh h7 h1.size 132 [.int .i64 1,Ax acc q 0,Ax acc q 1,Ax acc q 2,Ax acc q 3,.slice none 0 0]:=hk7;refine G.cq func198 rfl ?_;refine ct 2 rfl rfl (af (off:=1) underlying132 rfl rfl H.lN rfl) ?_;refine xp rfl (aj.cK underlying129 H.tq rfl rfl q rfl hq4') ?_;refine xp rfl (ai H.GQ rfl (hk7.cell (FO acc q hq4'))) ?_;refine xp rfl (aj.KU rfl) ?_;refine xp rfl (af (off:=1) underlying132 rfl rfl H.lN rfl) ?_;refine xp rfl (aj.cK underlying129 H.tq rfl rfl q rfl hq4') ?_;refine RW.b9 rfl rfl rfl (aA.bz H.tq rfl rfl hk7' (by first|decide|exact of_decide_eq_true rfl|(simp;done)|(simp;omega)) rfl) ?_;rintro _ h8 ⟨rfl,hk8,hx8,hz8⟩;refine xd [2,3,4,8,36,37,39] rfl ?_;refine G.aQ ?_;refine G.cq func198 rfl ?_;refine xp rfl (aj.bC rfl rfl ⟨by omega,by omega⟩) ?_;refine aS 1 [2,3,4,8,36,37,39] rfl ?_;have hk8:bh h8 h1.size 132 (Jo acc (q+1)):=by rw[<-Hw acc q hq4',<-JO (Bu acc q)];exact hk8
         exact ih (q+1) _ _ ⟨rfl,rfl,rfl,rfl,trivial⟩ ⟨by omega,bh.ext hs7 hx8 (by show ¬_=_;omega),by rw[if_pos hb];exact hk8,hkr7.ext hx8 (by show ¬_=_;omega),jw.only e7 hx8 (by omega)⟩ (by omega)
       · rw[if_neg (by rw[hb];decide)] at hk7;refine aB rfl ?_;refine G.aQ ?_;refine G.cq func198 rfl ?_;refine xp rfl (aj.bC rfl rfl ⟨by omega,by omega⟩) ?_;refine aS 1 [2,3,4,8,36,37,39] rfl ?_;exact ih (q+1) _ _ ⟨rfl,rfl,rfl,rfl,trivial⟩ ⟨by omega,hs7,by rw[if_neg (by rw[hb];decide)];exact hk7,hkr7,e7⟩ (by omega)
     · obtain rfl:q=4:=by omega
       have hfin:Jo acc (if nt then 4 else 0)=dY 1 (if l.head? =some 94 then mz acc else acc) (.slice none 0 0):=by
        subst hnt
        by_cases hd:l.head? =some 94<;>simp[hd]<;>rfl
       rw[hfin] at hk7;have hbr2:iy l=some (.mk 1 (if l.head? =some 94 then mz acc else acc) [],m.tail):=by rw[hbr,htgt];rfl
       generalize (if l.head? =some 94 then mz acc else acc)=fs at hk7 hbr2;refine bw rfl rfl ?_;refine xr func198 rfl ?_;refine xp rfl (aj.aH H.eX H.cn rfl hk7.row (by first|rfl|(simp;done)|(simp;omega))) ?_;refine RW.b9 rfl rfl rfl (aA.aC H.cn rfl rfl hkr7 (by first|rfl|(simp;done)|(simp;omega)) (by first|decide|exact of_decide_eq_true rfl|(simp;done)|(simp;omega)) (b8.one (fE h7 (only rb) 1 fs))) ?_;rintro _ h8 ⟨rfl,hk8,hx8,hz8⟩;refine xd [2,3,4,36,37] rfl ?_;have hk8:bh h8 h.size 132 (dY 1 fs (.slice none 0 0)):=hk8;refine G.cQ func198 rfl (.cons (bl.cI H.eX H.cn rfl (hk8.row) (by first|rfl|(simp;done)|(simp;omega))) (.nil)) ?_;exact⟨_,m.tail,hbr2,⟨_,rfl,fE _ _ _ _⟩,bh.ext hs7 hx8 (by show ¬_=_;omega),jw.only e7 hx8 (Nat.le_refl _)⟩
theorem gL {cs:List Value}(k:b8 h (Dm m) cs x) (hn:n<=m) (e:Ext M h h') (hM:∀b,b<h.size->M b->b<m):b8 h' (Dm n) cs x :=
 k.mv (Mv.dQ e fun b hb ho=>⟨fun hm=>ho (hM b hb hm),fun k=>ho (Nat.lt_of_lt_of_le k hn)⟩)
theorem Fy {cs ds:List Value}(h:cs.length=ds.length):over cs 0 ds=ds:=by
 unfold over;rw[List.drop_of_length_le (by omega)];simp
theorem pO {O:Nat->Prop}{v:Value}{xs:List Nd}(kind:Nat) (hv:bS rM h O v xs):ah Tryz.prog 139 #[.int .i64 (kind:Nat),v] h (cT fun r h'=>(∃w,r= .agg (dY (cD kind xs).kind (cD kind xs).set w).toArray/\b8 h' O (dY (cD kind xs).kind (cD kind xs).set w) (cD kind xs))/\aD h h'):=by
 obtain⟨oa,n,c,rfl,hsl⟩:=hv.open;have hn:=hsl.len;refine ah.of func139 rfl rfl ?_;refine xr func139 rfl ?_;refine xo rfl (aA.aX H.jS) ?_;rintro _ h1 ⟨rfl,hk,he,hz⟩;refine xd [0,1,4] rfl ?_;refine av rfl ?_;refine bp func139 1 rfl ?_;refine xp rfl (aj.aK underlying130 rfl) ?_;refine xd [0,1,4,6] rfl ?_;refine G.block rfl rfl ?_;refine aY func139 2 [0,1,4,6,7] rfl ?_;have hk:bh h1 h.size 132 (dY 0 0 (.slice none 0 0)):=hk;have hsl1:=hsl.mv (Mv.ay he);have hv1:=hv.ay he;refine aO rfl rfl (fun e0=>?_) (fun e0=>?_)
 · obtain rfl:n=0:=by omega
   have hx:xs=[]:=List.eq_nil_of_length_eq_zero hn;subst hx;refine xr func139 rfl ?_;refine xp rfl (aP (H.Cs ) rfl) ?_;refine RW.b9 rfl rfl rfl (aA.aC H.cn rfl rfl hk (by first|rfl|(simp;done)|(simp;omega)) (by first|decide|exact of_decide_eq_true rfl|(simp;done)|(simp;omega)) (by first|decide|simp[Value.oneCell'])) ?_;rintro _ h2 ⟨rfl,hk2,hx2,hz2⟩;refine xd [0,1,4,6,7] rfl ?_;have hk2:bh h2 h.size 132 (dY 0 0 (.slice none 0 0)):=hk2;refine G.cQ func139 rfl (.cons (bl.cI H.eX H.cn rfl (hk2.row) (by first|rfl|(simp;done)|(simp;omega))) (.nil)) ?_;exact⟨_,rfl,⟨_,rfl,fE _ _ 0 0⟩,aD.only he hx2 (Nat.le_refl _)⟩
 · refine aY func139 2 [0,1,4,6,7,10] rfl ?_;refine aO rfl rfl (fun e1=>?_) (fun e1=>?_)
   · obtain rfl:n=1:=by omega
     obtain⟨x,rfl⟩:=List.length_eq_one_iff.1 hn;obtain⟨b,o,cs,ha,ho,hr,hR⟩:=hsl.get 0 x rfl;have hr:=he.rowAt (fun k=>k) hr;obtain⟨w,rfl,hw⟩:=b8.open hR;refine bp func139 1 rfl ?_;refine xp rfl (aj.ax underlying130 H.cn rfl rfl 0 rfl ha (by decide)) ?_;refine xp rfl (aj.aH H.eX H.cn rfl hr (by first|rfl|(simp;done)|(simp;omega))) ?_;refine RW.b9 rfl rfl rfl (aA.aC H.cn rfl rfl hk (by first|rfl|(simp;done)|(simp;omega)) (by first|decide|exact of_decide_eq_true rfl|(simp;done)|(simp;omega)) (rM.one hR)) ?_;rintro _ h2 ⟨rfl,hk2,hx2,hz2⟩;refine xd [0,1,4,6,7,10] rfl ?_;have hk2:bh h2 h.size 132 (dY x.kind x.set w):=hk2;refine G.cQ func139 rfl (.cons (bl.cI H.eX H.cn rfl (hk2.row) (by first|rfl|(simp;done)|(simp;omega))) (.nil)) ?_;exact⟨_,rfl,⟨w,rfl,b8.ay hR (aD.only he hx2 (Nat.le_refl _))⟩,aD.only he hx2 (Nat.le_refl _)⟩
   · refine aB rfl ?_;refine G.aQ ?_;refine bp func139 2 rfl ?_;refine xp rfl (aP (H.qQ _ _ _ _) rfl) ?_;refine RW.b9 rfl rfl rfl (aA.aC H.cn rfl rfl hk (by first|rfl|(simp;done)|(simp;omega)) (by first|decide|exact of_decide_eq_true rfl|(simp;done)|(simp;omega)) (by first|decide|simp[Value.oneCell'])) ?_;rintro _ h2 ⟨rfl,hk2,hx2,hz2⟩;refine xd [0,1,4,6,7,10] rfl ?_;have hk2:bh h2 h.size 132 (dY kind 0 (.slice oa n c)):=hk2;refine G.cQ func139 rfl (.cons (bl.cI H.eX H.cn rfl (hk2.row) (by first|rfl|(simp;done)|(simp;omega))) (.nil)) ?_
     have hj:cD kind xs= .mk kind 0 xs:=by
      unfold cD;split
      · simp at hn;omega
      · simp at hn;omega
      · rfl
     rw[hj];exact⟨_,rfl,⟨.slice oa n c,rfl,b8.of kind 0 (hv.ay (aD.only he hx2 (Nat.le_refl _)))⟩,aD.only he hx2 (Nat.le_refl _)⟩
def Sg (h:az) (lim:Nat):Prop:=∃m,10<lim/\m<lim/\cellAt h ⟨10,0,none⟩=some (.map (some m)) /\
 ∃l:List (Int×Int),fF (Value.int .u8) (Value.int .i64) h m l/\∀c:UInt8,((kJ (c.toNat:Int) l).map (Value.int .i64)).getD (Value.int .i64 0)=Value.int .i64 (dP c:Nat)
theorem Sg.ext {h h':az}{lim:Nat}(k:Sg h lim){M:Nat->Prop}(e:Ext M h h') (hM:∀b,M b->lim<=b):Sg h' lim:=by
 obtain⟨m,h1,h2,h3,l,h4,h5⟩:=k;exact⟨m,h1,h2,e.cell (fun k=>absurd (hM _ k) (by show ¬lim<=10;omega)) h3,l,h4.ext e (fun k=>by have:=hM _ k;omega),h5⟩
def vE (d lim:Nat):Prop:=∀(h:az) (rb:Nat) (l:By),Sg h lim->lim<=rb->St h rb l->l.length<d->l.length<=1000000 ->
 ah Tryz.prog 94 #[zq rb] h (PR rb h (eu d l) (Cz h.size))
theorem Cu (ih:vE d lim) (hg:Sg h lim) (hrb:lim<=rb) (hs:St h rb l) (hd:l.length<=d) (hl:l.length<=1000000):ah Tryz.prog 184 #[zq rb] h (PR rb h (fD (eu d) l) (Cz h.size)):=by
 have hlt:=hs.lt;refine ah.of func184 rfl rfl ?_;refine xr func184 rfl ?_;refine xo rfl (aA.aX H.jS) ?_;rintro _ h1 ⟨rfl,hkr,he1,hz1⟩;refine xd [0,2] rfl ?_;refine xr func184 rfl ?_;refine xp rfl (aP (H.Dn _) rfl) ?_;refine xo rfl (aA.aX H.jS) ?_;rintro _ h2 ⟨rfl,hk2,he2,hz2⟩;refine RW.b9 rfl rfl rfl (aA.aC H.cn rfl rfl hk2 (by first|rfl|(simp;done)|(simp;omega)) (by first|decide|exact of_decide_eq_true rfl|(simp;done)|(simp;omega)) (by first|decide|simp[Value.oneCell'])) ?_;rintro _ h3 ⟨rfl,hk3,hx3,hz3⟩;have hk3:bh h3 h1.size 132 (dY 1 0 (.slice none 0 0)):=hk3;have hkr:bh h1 h.size 132 (dY 0 0 (.slice none 0 0)):=hkr;have e3:aD h h3:=aD.only (he1.trans he2) hx3 (by omega);have hkr3:bh h3 h.size 132 (dY 0 0 (.slice none 0 0)):=(hkr.ay he2).ext hx3 (by show ¬_=_;omega);have hs3:St h3 rb l:=bh.ay hs e3;refine xd [0,2,3] rfl ?_;refine av rfl ?_;refine bp func184 1 rfl ?_;refine xo rfl (aq (vs:=[_]) func186 rfl H.tS rfl (ah.jv (fX hs3 hl) ((fun _ _ ⟨hc,hp,hx⟩=>ef hc (by rw[iW hp];rfl) ((aD.of e3).trans hx))))) ?_;rintro _ h4 ⟨c,r,hp,rfl,hs4,hx4⟩;obtain rfl:=fY hp;simp only[List.length_cons] at hl hd;have hkr4:=hkr3.ext hx4 (by show ¬_=_;omega);have hk4:=hk3.ext hx4 (by show ¬_=_;omega);have e4:Ext (only rb) h h4:=(aD.of e3).trans hx4;have hz4:=hx4.size;have hg4:Sg h4 lim:=hg.ext e4 (fun b (hb:b=rb)=>by omega);refine aS 1 [0,2,3,4] rfl ?_;refine aY func184 1 [0,2,3,4,8] rfl ?_;refine G.block rfl rfl ?_;refine aY func184 2 [0,2,3,4,8,13] rfl ?_
 have fin:∀(x:Nd) (w:Value) (m:By) (h':az) (ρ':Env),Sub [(0,zq rb),(2,.pointer (some ⟨h.size,0,none⟩)),(3,.pointer (some ⟨h1.size,0,none⟩))] ρ'->bh h' h1.size 132 (dY x.kind x.set w)->bh h' h.size 132 (dY 0 0 (.slice none 0 0))->St h' rb m->b8 h' (Dm (h.size+1)) (dY x.kind x.set w) x->Ext (only rb) h h'->fD (eu d) (c::r)=some (x,m)->G Tryz.prog 184 f184 [.code [1,1,1]] ρ' h' (PR rb h (fD (eu d) (c::r)) (Cz h.size)):=by
  rintro x w m hh ρ' hsub hkx hkrr hst hnd hee hat;refine G.sub (ρ':=[(0,zq rb),(2,.pointer (some ⟨h.size,0,none⟩)),(3,.pointer (some ⟨h1.size,0,none⟩))]) hsub ?_;refine xr func184 rfl ?_;refine xp rfl (aj.aH H.eX H.cn rfl hkx.row (by first|rfl|(simp;done)|(simp;omega))) ?_;refine RW.b9 rfl rfl rfl (aA.aC H.cn rfl rfl hkrr (by first|rfl|(simp;done)|(simp;omega)) (by first|decide|exact of_decide_eq_true rfl|(simp;done)|(simp;omega)) (b8.one hnd)) ?_;rintro _ h9 ⟨rfl,hk9,hx9,hz9⟩;refine xd [0,2,3] rfl ?_;have hk9:bh h9 h.size 132 (dY x.kind x.set w):=hk9;refine G.cQ func184 rfl (.cons (bl.cI H.eX H.cn rfl (hk9.row) (by first|rfl|(simp;done)|(simp;omega))) (.nil)) ?_;exact⟨x,m,hat,⟨w,rfl,gL hnd (Nat.le_succ _) hx9 (fun b _ (hb:b=h.size)=>by omega)⟩,bh.ext hst hx9 (by show ¬_=_;omega),jw.only hee hx9 (Nat.le_refl _)⟩
 refine aO rfl rfl (fun c1=>?_) (fun c1=>?_)
 · have c1:c=40:=(dD rfl).1 c1;subst c1;refine bp func184 1 rfl ?_;refine xo rfl (aq (vs:=[_]) func94 rfl H.J5 rfl (ah.jv (ih h4 rb r hg4 hrb hs4 (by omega) (by omega)) ((fun _ _ ⟨hc,hp,hx⟩=>ef hc (by unfold fD;simp[hp]) (e4.trans hx))))) ?_;rintro _ h5 ⟨x,r5,hp5,⟨w,rfl,hnd5⟩,hs5,hx5⟩;have hk5:=hk4.ext hx5 (by show ¬_=_;omega);have hkr5:=hkr4.ext hx5 (by show ¬_=_;omega);have hr5:=ko d hp5;refine RW.b9 rfl rfl rfl (aA.aC H.cn rfl rfl hk5 (by first|rfl|(simp;done)|(simp;omega)) (by first|decide|exact of_decide_eq_true rfl|(simp;done)|(simp;omega)) (b8.one hnd5)) ?_;rintro _ h6 ⟨rfl,hk6,hx6,hz6⟩;refine xd [0,2,3,4,8,13] rfl ?_;refine G.cq func184 rfl ?_;refine bf 1 rfl ?_;have hk6:bh h6 h1.size 132 (dY x.kind x.set w):=hk6;have hs6:St h6 rb r5:=bh.ext hs5 hx6 (by show ¬_=_;omega);have hnd6:b8 h6 (Dm (h.size+1)) (dY x.kind x.set w) x:=gL hnd5 (by omega) hx6 (fun b _ (hb:b=h1.size)=>by omega);have e6:=jw.only (e4.trans hx5) hx6 (by omega);refine xo rfl (aq (vs:=[_,_]) func197 rfl H.Ix rfl (ah.jv (tW 41 hs6 (by omega)) ((fun _ _ ⟨hc,hp,hx⟩=>ef hc (by unfold fD;simp only[if_true,hp5];split;rename_i t ht;cases ht;simp at hp;rfl) (e6.trans hx))))) ?_;rintro _ h7 ⟨_,r7,hp7,_,hs7,hx7⟩;refine xd [0,2,3,4,8,13] rfl ?_;refine G.aQ ?_
   have hcl:r5=41::r7:=by
    split at hp7
    · rename_i hh;cases hp7;cases r5 with|nil=>cases hh|cons a b=>simp at hh;subst hh;rfl
    · cases hp7
   subst hcl;exact fin x w r7 _ _ ⟨rfl,rfl,rfl,trivial⟩ (hk6.ext hx7 (by show ¬_=_;omega)) ((hkr5.ext hx6 (by show ¬_=_;omega)).ext hx7 (by show ¬_=_;omega)) hs7 (gL hnd6 (Nat.le_refl _) hx7 (fun b _ (hb:b=rb)=>by omega)) (e6.trans hx7) (by unfold fD;simp[hp5])
 · have c1:¬c=40:=fun e=>c1 ((dD rfl).2 e)
   refine aY func184 2 [0,2,3,4,8,13,19] rfl ?_;refine aO rfl rfl (fun c2=>?_) (fun c2=>?_)
   · have c2:c=91:=(dD rfl).1 c2;refine G.cq func184 rfl ?_;refine bf 1 rfl ?_;refine xo rfl (aq (vs:=[_]) func198 rfl H.Kj rfl (ah.jv (vY hs4 (by omega)) ((fun _ _ ⟨hc,hp,hx⟩=>ef hc (by unfold fD;simp[c2,hp]) (e4.trans hx))))) ?_;rintro _ h5 ⟨x,r5,hp5,⟨w,rfl,hnd5⟩,hs5,hx5⟩;have hk5:=hk4.ext hx5 (by show ¬_=_;omega);have hkr5:=hkr4.ext hx5 (by show ¬_=_;omega);refine RW.b9 rfl rfl rfl (aA.aC H.cn rfl rfl hk5 (by first|rfl|(simp;done)|(simp;omega)) (by first|decide|exact of_decide_eq_true rfl|(simp;done)|(simp;omega)) (b8.one hnd5)) ?_;rintro _ h6 ⟨rfl,hk6,hx6,hz6⟩;refine xd [0,2,3,4,8,13,19] rfl ?_;refine G.aQ ?_;have hk6:bh h6 h1.size 132 (dY x.kind x.set w):=hk6;exact fin x w r5 _ _ ⟨rfl,rfl,rfl,trivial⟩ hk6 (hkr5.ext hx6 (by show ¬_=_;omega)) (bh.ext hs5 hx6 (by show ¬_=_;omega)) (gL hnd5 (by omega) hx6 (fun b _ (hb:b=h1.size)=>by omega)) (jw.only (e4.trans hx5) hx6 (by omega)) (by unfold fD;simp[c2,hp5])
   · have c2:¬c=91:=fun e=>c2 ((dD rfl).2 e)
     refine aY func184 2 [0,2,3,4,8,13,19,23] rfl ?_;refine aO rfl rfl (fun c3=>?_) (fun c3=>?_)
     · have c3:c=46:=(dD rfl).1 c3;refine xr func184 rfl ?_;refine xp rfl (af (off:=1) underlying132 rfl rfl H.lN rfl) ?_;refine xo rfl (aq (vs:=[_,_,_]) func199 rfl H.wP rfl (ah.br (gS hk4 0 9))) ?_;rintro _ h5 ⟨hk5,hx5⟩;refine xd [0,2,3,4,8,13,19,23] rfl ?_;refine G.cq func184 rfl ?_;refine xp rfl (af (off:=1) underlying132 rfl rfl H.lN rfl) ?_;refine xo rfl (aq (vs:=[_,_,_]) func199 rfl H.wP rfl (ah.br (gS hk5 11 255))) ?_;rintro _ h6 ⟨hk6,hx6⟩;refine xd [0,2,3,4,8,13,19,23] rfl ?_;refine G.aQ ?_;have hx56:=hx5.trans hx6;exact fin IN (.slice none 0 0) r _ _ ⟨rfl,rfl,rfl,trivial⟩ hk6 (hkr4.ext hx56 (by show ¬_=_;omega)) (bh.ext hs4 hx56 (by show ¬_=_;omega)) (fE _ _ _ _) (jw.only e4 hx56 (by omega)) (by unfold fD;simp[c3])
     · have c3:¬c=46:=fun e=>c3 ((dD rfl).2 e)
       refine aY func184 2 [0,2,3,4,8,13,19,23,29] rfl ?_;refine aO rfl rfl (fun c4=>?_) (fun c4=>?_)
       · have c4:c=92:=(dD rfl).1 c4;refine bp func184 1 rfl ?_;refine xo rfl (aq (vs:=[_]) func200 rfl H.Iw rfl (ah.jv (nT hs4 (by omega)) ((fun _ _ ⟨hc,hp,hx⟩=>ef hc (by unfold fD;simp[c4,hp]) (e4.trans hx))))) ?_;rintro _ h5 ⟨b,r5,hp5,rfl,hs5,hx5⟩;have hk5:=hk4.ext hx5 (by show ¬_=_;omega);have hkr5:=hkr4.ext hx5 (by show ¬_=_;omega);refine aS 1 [0,2,3,4,8,13,19,23,29] rfl ?_;refine G.cq func184 rfl ?_;refine xp rfl (af (off:=1) underlying132 rfl rfl H.lN rfl) ?_;refine bf 2 rfl ?_;refine xo rfl (aq (vs:=[_,_,_]) func199 rfl H.wP rfl (ah.br (gS hk5 b b))) ?_;rintro _ h6 ⟨hk6,hx6⟩;refine xd [0,2,3,4,8,13,19,23,29] rfl ?_;refine G.aQ ?_;exact fin (yX b) (.slice none 0 0) r5 _ _ ⟨rfl,rfl,rfl,trivial⟩ hk6 (hkr5.ext hx6 (by show ¬_=_;omega)) (bh.ext hs5 hx6 (by show ¬_=_;omega)) (fE _ _ _ _) (jw.only (e4.trans hx5) hx6 (by omega)) (by unfold fD;simp[c4,hp5])
       · have c4:¬c=92:=fun e=>c4 ((dD rfl).2 e)
         refine av rfl ?_;refine aY func184 2 [0,2,3,4,8,13,19,23,29,37] rfl ?_;refine aO rfl rfl (fun d41=>?_) (fun d41=>?_)
         · have d41:c=41:=(dD rfl).1 d41;refine aB rfl ?_;refine aG rfl rfl (fun _=>?_) (fun hc=>absurd hc (by rw[d41];decide));refine G.cq func184 rfl ?_;refine xp rfl (aP (H.gY ) rfl) ?_;refine xp rfl (bG H.kD rfl) ?_;refine RW.b9 rfl rfl rfl (dN (Φ:=fun _ _=>False) rfl (ef rfl (by unfold fD;simp[d41]) e4)) ?_;rintro _ _ hpn;exact hpn.elim
         · have d41:¬c=41:=fun e=>d41 ((dD rfl).2 e)
           refine aY func184 2 [0,2,3,4,8,13,19,23,29,37] rfl ?_;refine aO rfl rfl (fun d93=>?_) (fun d93=>?_)
           · have d93:c=93:=(dD rfl).1 d93;refine aB rfl ?_;refine aG rfl rfl (fun _=>?_) (fun hc=>absurd hc (by rw[d93];decide));refine G.cq func184 rfl ?_;refine xp rfl (aP (H.gY ) rfl) ?_;refine xp rfl (bG H.kD rfl) ?_;refine RW.b9 rfl rfl rfl (dN (Φ:=fun _ _=>False) rfl (ef rfl (by unfold fD;simp[d93]) e4)) ?_;rintro _ _ hpn;exact hpn.elim
           · have d93:¬c=93:=fun e=>d93 ((dD rfl).2 e)
             refine aY func184 2 [0,2,3,4,8,13,19,23,29,37] rfl ?_;refine aO rfl rfl (fun d124=>?_) (fun d124=>?_)
             · have d124:c=124:=(dD rfl).1 d124;refine aB rfl ?_;refine aG rfl rfl (fun _=>?_) (fun hc=>absurd hc (by rw[d124];decide));refine G.cq func184 rfl ?_;refine xp rfl (aP (H.gY ) rfl) ?_;refine xp rfl (bG H.kD rfl) ?_;refine RW.b9 rfl rfl rfl (dN (Φ:=fun _ _=>False) rfl (ef rfl (by unfold fD;simp[d124]) e4)) ?_;rintro _ _ hpn;exact hpn.elim
             · have d124:¬c=124:=fun e=>d124 ((dD rfl).2 e)
               refine aY func184 2 [0,2,3,4,8,13,19,23,29,37] rfl ?_;refine aO rfl rfl (fun d42=>?_) (fun d42=>?_)
               · have d42:c=42:=(dD rfl).1 d42;refine aB rfl ?_;refine aG rfl rfl (fun _=>?_) (fun hc=>absurd hc (by rw[d42];decide));refine G.cq func184 rfl ?_;refine xp rfl (aP (H.gY ) rfl) ?_;refine xp rfl (bG H.kD rfl) ?_;refine RW.b9 rfl rfl rfl (dN (Φ:=fun _ _=>False) rfl (ef rfl (by unfold fD;simp[d42]) e4)) ?_;rintro _ _ hpn;exact hpn.elim
               · have d42:¬c=42:=fun e=>d42 ((dD rfl).2 e)
                 refine aY func184 2 [0,2,3,4,8,13,19,23,29,37] rfl ?_;refine aO rfl rfl (fun d43=>?_) (fun d43=>?_)
                 · have d43:c=43:=(dD rfl).1 d43;refine aB rfl ?_;refine aG rfl rfl (fun _=>?_) (fun hc=>absurd hc (by rw[d43];decide));refine G.cq func184 rfl ?_;refine xp rfl (aP (H.gY ) rfl) ?_;refine xp rfl (bG H.kD rfl) ?_;refine RW.b9 rfl rfl rfl (dN (Φ:=fun _ _=>False) rfl (ef rfl (by unfold fD;simp[d43]) e4)) ?_;rintro _ _ hpn;exact hpn.elim
                 · have d43:¬c=43:=fun e=>d43 ((dD rfl).2 e)
                   refine G.cq func184 rfl ?_;refine aS 2 [0,2,3,4,8,13,19,23,29,37] rfl ?_;refine aO rfl rfl (fun d63=>?_) (fun d63=>?_)
                   · have d63:c=63:=(dD rfl).1 d63;refine G.cq func184 rfl ?_;refine xp rfl (aP (H.gY ) rfl) ?_;refine xp rfl (bG H.kD rfl) ?_;refine RW.b9 rfl rfl rfl (dN (Φ:=fun _ _=>False) rfl (ef rfl (by unfold fD;simp[d63]) e4)) ?_;rintro _ _ hpn;exact hpn.elim
                   · have d63:¬c=63:=fun e=>d63 ((dD rfl).2 e)
                     refine G.cq func184 rfl ?_;refine xp rfl (af (off:=1) underlying132 rfl rfl H.lN rfl) ?_;refine bf 2 rfl ?_;refine xo rfl (aq (vs:=[_,_,_]) func199 rfl H.wP rfl (ah.br (gS hk4 c c))) ?_;rintro _ h6 ⟨hk6,hx6⟩;refine xd [0,2,3,4,8,13,19,23,29,37] rfl ?_;refine G.aQ ?_;exact fin (yX c) (.slice none 0 0) r _ _ ⟨rfl,rfl,rfl,trivial⟩ hk6 (hkr4.ext hx6 (by show ¬_=_;omega)) (bh.ext hs4 hx6 (by show ¬_=_;omega)) (fE _ _ _ _) (jw.only e4 hx6 (by omega)) (by unfold fD;simp[c1,c2,c3,c4,d41,d93,d124,d42,d43,d63])
theorem xX {ρ:Env}{dst:Option Nat}{ty:TypeId}{pos:String}{after:Array Edge}{guard:Option (Nat×Bool)}{x y:Operand}{l:List (Int×Int)}
 (hx:bO ρ x=some (.map (some m))) (hy:bO ρ y=some (.int .u8 (c.toNat:Nat))) (hm:fF (Value.int .u8) (Value.int .i64) h m l) (hv:∀c:UInt8,((kJ (c.toNat:Int) l).map (Value.int .i64)).getD (Value.int .i64 0)=Value.int .i64 (dP c:Nat)) :
 aj Tryz.prog ⟨dst,.lookup 283 x y false,ty,pos,after,guard⟩ ρ h (.int .i64 (dP c:Nat)):=by
 have:=aj.lookup (P:=Tryz.prog) (ρ:=ρ) (h:=h) (dst:=dst) (ty:=ty) (pos:=pos) (after:=after) (guard:=guard) (jr.int .u8) underlying283 underlying5 (z:=.int .i64 0) (et:=3) (by kernel_rfl) hx hy rfl hm
 rwa [hv c] at this
theorem zW (h:0<dP c):fc x (c::r)=fc (.mk (dP c) 0 [x]) r:=by
 rw[fc,if_neg (by omega)]
theorem zV {m:By}(h:dP (m.head?.getD 0)=0):fc x m=(x,m):=by
 cases m with
 |nil=>rfl
 |cons c r=>rw[fc,if_pos (by simpa using h)]
theorem Al (ih:vE d lim) (hg:Sg h lim) (hrb:lim<=rb) (hs:St h rb l) (hd:l.length<=d) (hl:l.length<=1000000):ah Tryz.prog 169 #[zq rb] h (PR rb h (gi (eu d) l) (Cz h.size)):=by
 have hlt:=hs.lt;refine ah.of func169 rfl rfl ?_;refine xr func169 rfl ?_;refine xo rfl (aA.aX H.jS) ?_;rintro _ h1 ⟨rfl,hkr,he1,hz1⟩;refine xd [0,2] rfl ?_;refine bp func169 1 rfl ?_;refine xo rfl (aq (vs:=[_]) func184 rfl H.Kn rfl (ah.jv (Cu ih (hg.ext he1 (fun _ k=>k.elim)) hrb (bh.ay hs he1) hd hl) ((fun _ _ ⟨hc,hp,hx⟩=>ef hc (by unfold gi;rw[hp];rfl) ((aD.of he1).trans hx))))) ?_;rintro _ h2 ⟨x0,m0,hp0,⟨w0,rfl,hnd2⟩,hs2,hx2⟩;refine xo rfl (aA.aX H.jS) ?_;rintro _ h3 ⟨rfl,hk3,he3,hz3⟩;refine RW.b9 rfl rfl rfl (aA.aC H.cn rfl rfl hk3 (by first|rfl|(simp;done)|(simp;omega)) (by first|decide|exact of_decide_eq_true rfl|(simp;done)|(simp;omega)) (b8.one hnd2)) ?_;rintro _ h4 ⟨rfl,hk4,hx4,hz4⟩;have hz2:=hx2.size;have hkr:bh h1 h.size 132 (dY 0 0 (.slice none 0 0)):=hkr;have hk4:bh h4 h2.size 132 (dY x0.kind x0.set w0):=hk4;have e2:Ext (only rb) h h2:=(aD.of he1).trans hx2;have hkr2:=hkr.ext hx2 (by show ¬_=_;omega);have e24:aD h2 h4:=aD.only he3 hx4 (Nat.le_refl _);have hnd4:b8 h4 (fun b=>b<h.size+1\/b=h2.size) (dY x0.kind x0.set w0) x0:=hnd2.mv (Mv.dQ e24 fun b hb hn=>⟨fun k=>k,fun k=>by have:¬b<h1.size:=hn;omega⟩);have hm0:=xC (fun h=>ko d h) hp0;have hpc:gi (eu d) l=some (fc x0 m0):=by unfold gi;rw[hp0];rfl
 generalize htg:fc x0 m0=tgt at hpc;generalize hnb:h2.size=nb at hk4 hnd4 hs2;have hnb1:h.size+1<=nb:=by omega
 refine xd [0,2,3] rfl ?_;refine av rfl ?_;refine G.block rfl rfl ?_;refine bD (σ:=Nd×Value×By) (fun q=>[(0,zq rb),(2,.pointer (some ⟨h.size,0,none⟩)),(3,.pointer (some ⟨nb,0,none⟩))]) (fun q h'=>St h' rb q.2.2/\bh h' nb 132 (dY q.1.kind q.1.set q.2.1)/\bh h' h.size 132 (dY 0 0 (.slice none 0 0))/\Ext (only rb) h h'/\b8 h' (fun b=>b<h.size+1\/b=nb) (dY q.1.kind q.1.set q.2.1) q.1/\q.2.2.length<=1000000/\fc q.1 q.2.2=tgt) (fun q=>q.2.2.length) ((x0,w0,m0)) rfl ⟨rfl,rfl,rfl,trivial⟩ ⟨bh.ay hs2 e24,hk4,hkr2.ay e24,jw.ay e2 e24,hnd4,by show m0.length<=_;omega,htg⟩ ?_;rintro⟨x,w,m⟩ h5 ⟨hs5,hk5,hkr5,e5,hnd5,hm,hsg⟩ ih
 try dsimp only
 dsimp only at hs5 hk5 hnd5 hm hsg;have hg5:Sg h5 lim:=hg.ext e5 (fun b (hb:b=rb)=>by omega);obtain⟨mp,hm1,hm2,hcell,lm,hmap,hval⟩:=hg5;refine av rfl ?_;refine av rfl ?_;refine G.ew func169 H.mixed rfl (by kernel_rfl) ?_;refine RQ.au rfl rfl rfl rfl (ai H.IX rfl hcell) ?_;refine RQ.au rfl rfl rfl rfl (aI rfl) ?_;refine RQ.IT (vs:=[_]) rfl rfl rfl rfl rfl func185 rfl H.Iy rfl (tV hs5) ?_;refine RQ.au rfl rfl rfl rfl (xX rfl rfl hmap hval) ?_;refine RQ.au rfl rfl rfl rfl (sS rfl rfl) ?_;refine cB rfl ?_;refine xu [0,2,3,10] rfl ?_;refine aO rfl rfl (fun hgo=>?_) (fun hgo=>?_)
 · have hgo:0<dP (m.head?.getD 0):=by omega
   obtain⟨c,r,rfl⟩:=List.exists_cons_of_ne_nil (fun(e:m=[])=>by rw[e] at hgo;revert hgo;decide);have hgo:0<dP c:=hgo;rw[zW hgo] at hsg;simp only[List.length_cons] at hm;have hlt5:=hk5.lt;have hltr:=hkr5.lt
   have hn1:¬((⟨10,0,none⟩:Addr).block=rb\/Array.size h5<=(⟨10,0,none⟩:Addr).block):=by
    show ¬(10=rb\/Array.size h5<=10);omega
   have hn2:¬(nb=rb\/Array.size h5<=nb):=by omega
   have hn3:¬(mp=rb\/Array.size h5<=mp):=by omega
   have hO5:¬(h5.size<h.size+1\/h5.size=nb):=by have:=hkr5.lt;omega
   refine aB rfl ?_;refine G.block rfl rfl ?_;refine bU (fun b=>b=rb\/Array.size h5<=b) (fun i=>Nat.blt i 7) (sz:=8) (listed:= #[false,false,false,false,false,false,false,false]) func169 H.mixed rfl rfl rfl ?_;refine bM 0 1 (by kernel_rfl) rfl (fun h' e=>ai H.IX rfl (e.cell hn1 hcell)) ?_;refine cJ 1 3 (by kernel_rfl) rfl ?_;refine bM 4 19 (by kernel_rfl) rfl (fun h' e=>aj.aH H.eX H.cn rfl (e.rowAt hn2 hk5.row) (by first|rfl|(simp;done)|(simp;omega))) ?_;refine RD.Lq 2 5 (li:= #[true,true,true,false,true,false,false,false]) (lj:= #[true,true,false,false,true,true,false,false]) rfl rfl (by kernel_rfl) rfl rfl rfl rfl rfl rfl (aq (vs:=[_]) func186 rfl H.tS rfl (ah.jv (fX hs5 (by simp only[List.length_cons];omega)) ((fun _ _ ⟨_,hp,_⟩=>by cases hp)))) (aA.cL (cs:=[_,_,_,_,_,_]) underlying130 H.uT rfl rfl (by decide)) (by kernel_rfl) (by kernel_rfl) ?_ ?_
   · rintro _ h6 ⟨_,_,hp6,rfl,hs6,hx6⟩;refine⟨fun _=>hx6.mono (fun _ _ k=>.inl k),?_⟩;cases hp6;have hmap6:=hmap.ext hx6 (by show ¬_=_;omega);have hz6:=hx6.size;have hk6:=hk5.ext hx6 (by show ¬_=_;omega);have hnd6:b8 h6 (fun b=>b<h.size+1\/b=nb) (dY x.kind x.set w) x:=hnd5.mv (Mv.dQ hx6 fun b hb hn=>⟨fun(k:b=rb)=>hn (.inl (by omega)),hn⟩);refine bM 3 31 (by kernel_rfl) rfl (fun h' e=>xX rfl rfl (hmap6.ext e hn3) hval) ?_;refine eP 5 63 (by kernel_rfl) rfl (aA.cL (cs:=[_,_,_,_,_,_]) underlying130 H.uT rfl rfl (by decide)) ?_;rintro _ _ ⟨rfl,rfl⟩;refine⟨fun _=>by first|exact Ext.push _ _ _|assumption,?_⟩;refine bM 6 127 (by kernel_rfl) rfl (fun h' e=>aP (H.qQ _ _ _ _) rfl) ?_;have hsl:=bS.nN (e:=rM) (t:=132) hnd6 (show ¬(h6.size<h.size+1\/h6.size=nb) by omega);have ep:=Ext.push (fun _=>False) h6 (.cells (dY x.kind x.set w).toArray 132);have hk7:=hk6.ay ep;have hs7:St _ rb r:=bh.ay hs6 ep;have hkr7:=(hkr5.ext hx6 (by show ¬_=_;omega)).ay ep;have e7:=jw.ay (e5.trans hx6) ep;refine lW 7 255 (by kernel_rfl) rfl (aA.aC H.cn rfl rfl hk7 (by first|rfl|(simp;done)|(simp;omega)) (by first|decide|exact of_decide_eq_true rfl|(simp;done)|(simp;omega)) (b8.one (b8.of (dP c) 0 hsl))) ?_;rintro _ h8 ⟨rfl,hk8,hx8,hz8⟩;refine⟨fun hk=>(nomatch hk),?_⟩;refine bB (by kernel_rfl) ?_;refine xu [0,2,3,10] rfl ?_;refine G.aQ ?_;have hk8:bh h8 nb 132 (dY (dP c) 0 (.slice (some ⟨h6.size,0,none⟩) 1 1)):=hk8;exact ih (.mk (dP c) 0 [x],.slice (some ⟨h6.size,0,none⟩) 1 1,r) _ _ ⟨rfl,rfl,rfl,trivial⟩ ⟨bh.ext hs7 hx8 (by show ¬_=_;omega),hk8,hkr7.ext hx8 (by show ¬_=_;omega),jw.only e7 hx8 (by omega),(b8.of (dP c) 0 hsl).mv (Mv.dQ hx8 fun b hb hn=>⟨fun(k:b=nb)=>hn (.inr k),hn⟩),by show r.length<=_;omega,hsg⟩ (by show r.length<(c::r).length;simp)
   · rintro _ _ ⟨rfl,rfl⟩;refine⟨fun _=>by first|exact Ext.push _ _ _|assumption,?_⟩;have hsl:=bS.nN (e:=rM) (t:=132) hnd5 hO5;have ep:=Ext.push (fun _=>False) h5 (.cells (dY x.kind x.set w).toArray 132);refine eP 2 55 (by kernel_rfl) rfl (aq (vs:=[_]) func186 rfl H.tS rfl (ah.jv (fX (bh.ay hs5 ep) (by simp only[List.length_cons];omega)) ((fun _ _ ⟨_,hp,_⟩=>by cases hp)))) ?_;rintro _ h6 ⟨_,_,hp6,rfl,hs6,hx6⟩;refine⟨fun _=>hx6.mono (fun _ _ k=>.inl k),?_⟩;cases hp6;have hmap6:=(hmap.ext ep (fun k=>k)).ext hx6 (by show ¬_=_;omega);have hz6:=hx6.size;have hzp:(h5.push (.cells (dY x.kind x.set w).toArray 132)).size=h5.size+1:=by simp
     have hk6:=(hk5.ay ep).ext hx6 (by show ¬_=_;omega);have hkr6:=(hkr5.ay ep).ext hx6 (by show ¬_=_;omega);have hn4:¬(mp=rb\/Array.size h5<=mp):=hn3;refine bM 3 63 (by kernel_rfl) rfl (fun h' e=>xX rfl rfl (hmap6.ext e hn4) hval) ?_;refine bM 6 127 (by kernel_rfl) rfl (fun h' e=>aP (H.qQ _ _ _ _) rfl) ?_;have hsl6:bS rM h6 (fun b=>b<h.size+1\/b=nb) (.slice (some ⟨h5.size,0,none⟩) 1 1) [x]:=hsl.mv (Mv.dQ hx6 fun b hb hn=>⟨fun(k:b=rb)=>hn (.inl (by omega)),hn⟩);refine lW 7 255 (by kernel_rfl) rfl (aA.aC H.cn rfl rfl hk6 (by first|rfl|(simp;done)|(simp;omega)) (by first|decide|exact of_decide_eq_true rfl|(simp;done)|(simp;omega)) (b8.one (b8.of (dP c) 0 hsl6))) ?_;rintro _ h8 ⟨rfl,hk8,hx8,hz8⟩;refine⟨fun hk=>(nomatch hk),?_⟩;refine bB (by kernel_rfl) ?_;refine xu [0,2,3,10] rfl ?_;refine G.aQ ?_;have hk8:bh h8 nb 132 (dY (dP c) 0 (.slice (some ⟨h5.size,0,none⟩) 1 1)):=hk8;exact ih (.mk (dP c) 0 [x],.slice (some ⟨h5.size,0,none⟩) 1 1,r) _ _ ⟨rfl,rfl,rfl,trivial⟩ ⟨bh.ext hs6 hx8 (by show ¬_=_;omega),hk8,hkr6.ext hx8 (by show ¬_=_;omega),jw.only ((jw.ay e5 ep).trans hx6) hx8 (by omega),(b8.of (dP c) 0 hsl6).mv (Mv.dQ hx8 fun b hb hn=>⟨fun(k:b=nb)=>hn (.inr k),hn⟩),by show r.length<=_;omega,hsg⟩ (by show r.length<(c::r).length;simp)
 · rw[zV (by omega)] at hsg;refine bw rfl rfl ?_;refine xr func169 rfl ?_;refine xp rfl (aj.aH H.eX H.cn rfl hk5.row (by first|rfl|(simp;done)|(simp;omega))) ?_;refine RW.b9 rfl rfl rfl (aA.aC H.cn rfl rfl hkr5 (by first|rfl|(simp;done)|(simp;omega)) (by first|decide|exact of_decide_eq_true rfl|(simp;done)|(simp;omega)) (b8.one hnd5)) ?_;rintro _ h6 ⟨rfl,hk6,hx6,hz6⟩;refine xd [0,2,3,10] rfl ?_;have hk6:bh h6 h.size 132 (dY x.kind x.set w):=hk6;refine G.cQ func169 rfl (.cons (bl.cI H.eX H.cn rfl (hk6.row) (by first|rfl|(simp;done)|(simp;omega))) (.nil)) ?_;exact⟨x,m,by rw[hpc,<-hsg],⟨w,rfl,hnd5.mv (Mv.dQ hx6 fun b hb hn=>⟨fun(k:b=h.size)=>hn (.inl (by omega)),fun(k:b<h.size)=>hn (.inl (by omega))⟩)⟩,bh.ext hs5 hx6 (by show ¬_=_;omega),jw.only e5 hx6 (Nat.le_refl _)⟩
theorem wL (ih:vE d lim) (hg:Sg h lim) (hrb:lim<=rb) (hs:St h rb l) (hd:l.length<=d) (hl:l.length<=1000000):ah Tryz.prog 137 #[zq rb] h (PR rb h (yd (eu d) l) (Cz h.size)):=by
 have hlt:=hs.lt;have hrl:∀{s x r},eu d s=some (x,r)->r.length<=s.length:=fun h=>ko d h
 refine ah.of func137 rfl rfl ?_;refine xr func137 rfl ?_;refine xo rfl (aA.aX H.jS) ?_;rintro _ h1 ⟨rfl,hkr,he1,hz1⟩;refine xd [0,2] rfl ?_;refine aY func137 1 [0,2,3] rfl ?_;refine av rfl ?_;refine G.block rfl rfl ?_;have hkr:bh h1 h.size 132 (dY 0 0 (.slice none 0 0)):=hkr;generalize htg:mo (eu d) (l.length+1) l=tgt;have hrow:yd (eu d) l=tgt.map fun p=>(cD 2 p.1,p.2):=by unfold yd;rw[htg]
 have htg0:tgt.map (fun p=>(([]:List Nd)++p.1,p.2))=tgt:=by cases tgt<;>rfl
 refine bD (σ:=List Nd×Value×By) (fun q=>[(0,zq rb),(2,.pointer (some ⟨h.size,0,none⟩)),(3,q.2.1)]) (fun q h'=>St h' rb q.2.2/\dU rM (Dm h1.size) h' h1.size 132 q.2.1 q.1/\bh h' h.size 132 (dY 0 0 (.slice none 0 0))/\Ext (only rb) h h'/\q.2.2.length+q.1.length<=l.length/\(mo (eu d) (q.2.2.length+1) q.2.2).map (fun p=>(q.1++p.1,p.2))=tgt) (fun q=>q.2.2.length) (([],.slice none 0 0,l)) rfl ⟨rfl,rfl,rfl,trivial⟩ ⟨bh.ay hs he1,dU.nil _ _ _ _ _,hkr,aD.of he1,by show l.length+0<=_;omega,by rw[htg];exact htg0⟩ ?_;rintro⟨acc,v,m⟩ h5 ⟨hs5,hv5,hkr5,e5,hm,hcon⟩ ih'
 try dsimp only
 dsimp only at hs5 hv5 hm hcon;refine av rfl ?_;refine av rfl ?_;refine G.bE [(24,.bool (!jJ m))] [(0,_),(2,_),(3,_)] ⟨rfl,rfl,rfl,trivial⟩ func137 rfl ?_ ?_
 · refine ct 2 rfl rfl (af (off:=0) underlying196 rfl rfl H.fq rfl) ?_;refine xp rfl (ai H.fM rfl hs5.cell) ?_;refine xp rfl (aj.qA rfl rfl) ?_;refine bf 1 rfl ?_;refine aN (d:=9) rfl (fun he=>?_) (fun he=>?_)
   · have hne:¬bs m=⟨#[]⟩:=of_decide_eq_true he;obtain⟨c,r,rfl⟩:=List.exists_cons_of_ne_nil (fun(e:m=[])=>hne (by rw[e];rfl));refine ct 2 rfl rfl (af (off:=0) underlying196 rfl rfl H.fq rfl) ?_;refine xp rfl (ai H.fM rfl hs5.cell) ?_;refine xp rfl (aj.dw underlying9 rfl rfl 0 rfl (gP rfl)) ?_;refine bf 3 rfl ?_;refine aN (d:=17) rfl (fun h124=>?_) (fun h124=>?_)
     · have h124:¬c=124:=fun e=>(of_decide_eq_true h124) ((dD rfl).2 e)
       refine ct 2 rfl rfl (af (off:=0) underlying196 rfl rfl H.fq rfl) ?_;refine xp rfl (ai H.fM rfl hs5.cell) ?_;refine xp rfl (aj.dw underlying9 rfl rfl 0 rfl (gP rfl)) ?_;refine bf 2 rfl ?_;refine aE rfl ?_;exact⟨rfl,aF rfl (by simp only[jJ];rw[show (c ==124)=false by simpa using h124,Bool.false_or,show (c ==41)=decide (c=41) by rw[Bool.eq_iff_iff];simp,<-decide_not];exact decide_eq_decide.2 (not_congr (dD rfl))),rfl,rfl,rfl,trivial⟩
     · have h124:c=124:=(dD rfl).1 (Classical.not_not.1 (of_decide_eq_false h124));refine bf 7 rfl ?_;refine aE rfl ?_;exact⟨rfl,aF rfl (by simp[jJ,h124]),rfl,rfl,rfl,trivial⟩
   · have hne:bs m=⟨#[]⟩:=Classical.not_not.1 (of_decide_eq_false he);obtain rfl:m=[]:=eK hne;refine bf 15 rfl ?_;refine aE rfl ?_;exact⟨rfl,aF rfl (by rfl),rfl,rfl,rfl,trivial⟩
 · obtain⟨css,hc1,hc2,hc3⟩:=id hv5;have hlt5:=hkr5.lt;have hz5:=e5.size;refine aG rfl rfl (fun hgo=>?_) (fun hgo=>?_)
   · have hend:jJ m=false:=by simpa using hgo
     have hcon':tgt=(match gi (eu d) m with|none=>none|some (x,r)=>((mo (eu d) (r.length+1) r).map fun p=>(x::p.1,p.2)).map (fun p=>(acc++p.1,p.2))):=by
      rw[<-hcon,mo,if_neg (by rw[hend];decide)];cases hp:gi (eu d) m with
      |none=>rfl
      |some q =>
       obtain⟨x,r⟩:=q;have:=ga hrl hp;simp only;rw[wM hrl m.length (r.length+1) r (by omega) (by omega)]
     refine aB rfl ?_;refine G.block rfl rfl ?_;refine G.cq func137 rfl ?_;refine bf 2 rfl ?_;refine xo rfl (aq (vs:=[_]) func169 rfl H.Kp rfl (ah.jv (Al ih (hg.ext e5 (fun b (hb:b=rb)=>by omega)) hrb hs5 (by omega) (by omega)) ((fun _ _ ⟨hc,hp,hx⟩=>ef hc (by rw[hrow,hcon',hp];rfl) (e5.trans hx))))) ?_;rintro _ h6 ⟨x,r,hp,⟨w,rfl,hnd6⟩,hs6,hx6⟩;have hr6:=ga hrl hp;have hz6:=hx6.size;have hown:∀b,v.ownBlock=some b->h1.size<=b/\b<h5.size:=fun b hb=>hc2.lt hb
     have hc26:=hc2.ext hx6 (fun b hb (k:b=rb)=>by have:=hown b hb;omega);have hc36:∀(i:Nat) (cs:List Value) (x:Nd),css[i]? =some cs->acc[i]? =some x->rM.R h6 (fun b=>dz v.ownBlock b\/b<h1.size) cs x:=fun i cs x h1' h2'=>rM.mv (hc3 i cs x h1' h2') (Mv.dQ hx6 fun b hb hn=>⟨fun(k:b=rb)=>hn (.inr (by show b<_;omega)),hn⟩)
     have hnd6':rM.R h6 (fun b=>dz v.ownBlock b\/b<h1.size) (dY x.kind x.set w) x:=b8.mv hnd6 ⟨Nat.le_refl _,fun b hb hn=>⟨rfl,fun k=>by
      have hn:¬b<h5.size:=hn
      rcases k with k|k
      · have:=hown b k.symm;omega
      · omega⟩⟩
     refine xo rfl (aA.cL (cs:=[_,_,_,_,_,_]) underlying130 H.uT rfl rfl (by decide)) ?_;rintro _ _ ⟨rfl,rfl⟩;refine xo rfl (aA.bN underlying130 H.uT rfl rfl (hc26) rfl rfl (b8.one hnd6) (by omega) (by decide) (by omega)) ?_;rintro v7 h7 ⟨ho7,hx7,-,hv7⟩;refine aS 1 [0,2,3,24] rfl ?_;refine G.aQ ?_;have hrb7:¬dz v.ownBlock rb:=fun k=>by have:=hown rb k.symm;omega
     have hr7:¬dz v.ownBlock h.size:=fun k=>by have:=hown _ k.symm;omega
     have e7:Ext (only rb) h h7:=⟨by have:=hx7.size;omega,fun b hb hn=>by rw[hx7.block b (by omega) (fun k=>by have:=hown b k.symm;omega)];exact(e5.trans hx6).block b hb hn⟩
     rw[hp] at hcon';exact ih' (acc++[x],v7,r) _ _ ⟨rfl,rfl,rfl,trivial⟩ ⟨bh.ext hs6 hx7 hrb7,dU.iA hc1 hc36 ho7 hx7 hv7 hnd6',(hkr5.ext hx6 (by show ¬_=_;omega)).ext hx7 hr7,e7,by show r.length+(acc++[x]).length<=_;rw[List.length_append,List.length_singleton];omega,by rw[hcon'];simp only[Option.map_map];congr 1;funext p;simp⟩ (by show r.length<m.length;omega)
   · have hend:jJ m=true:=by simpa using hgo
     rw[mo,if_pos hend] at hcon;have hsl:bS rM h5 (Dm h1.size) v acc:=hv5.read (fun b hb (k:b<h1.size)=>by omega) (fun b _ k=>k);refine bw rfl rfl ?_;refine bp func137 1 rfl ?_;refine xo rfl (aq (vs:=[_,_]) func139 rfl H.Iz rfl (ah.br (pO 2 hsl))) ?_;rintro _ h6 ⟨⟨w,rfl,hnd6⟩,he6⟩;refine RW.b9 rfl rfl rfl (aA.aC H.cn rfl rfl (hkr5.ay he6) (by first|rfl|(simp;done)|(simp;omega)) (by first|decide|exact of_decide_eq_true rfl|(simp;done)|(simp;omega)) (b8.one hnd6)) ?_;rintro _ h7 ⟨rfl,hk7,hx7,hz7⟩;refine xd [0,2,3,24] rfl ?_;have hk7:bh h7 h.size 132 (dY (cD 2 acc).kind (cD 2 acc).set w):=hk7;have hz6:=he6.size;refine G.cQ func137 rfl (.cons (bl.cI H.eX H.cn rfl (hk7.row) (by first|rfl|(simp;done)|(simp;omega))) (.nil)) ?_;exact⟨cD 2 acc,m,by rw[hrow,<-hcon];simp,⟨w,rfl,gL hnd6 (by omega) hx7 (fun b _ (hb:b=h.size)=>by omega)⟩,bh.ext (bh.ay hs5 he6) hx7 (by show ¬_=_;omega),jw.only (jw.ay e5 he6) hx7 (Nat.le_refl _)⟩
theorem DO (ih:vE d lim) (hg:Sg h lim) (hrb:lim<=rb) (hs:St h rb l) (hd:l.length<=d) (hl:l.length<=1000000):ah Tryz.prog 94 #[zq rb] h (PR rb h (eu (d+1) l) (Cz h.size)):=by
 have hlt:=hs.lt;have hrl:∀{s x r},eu d s=some (x,r)->r.length<=s.length:=fun h=>ko d h
 have hrows:eu (d+1) l=match yd (eu d) l with|none=>none|some (x,r)=>rT (eu d) [x] r:=tN hrl [] l
 refine ah.of func94 rfl rfl ?_;refine xr func94 rfl ?_;refine xo rfl (aA.aX H.jS) ?_;rintro _ h1 ⟨rfl,hkr,he1,hz1⟩;refine xd [0,2] rfl ?_;refine bp func94 1 rfl ?_;refine xo rfl (aq (vs:=[_]) func137 rfl H.IA rfl (ah.jv (wL ih (hg.ext he1 (fun _ k=>k.elim)) hrb (bh.ay hs he1) hd hl) ((fun _ _ ⟨hc,hp,hx⟩=>ef hc (by rw[hrows,hp]) ((aD.of he1).trans hx))))) ?_;rintro _ h2 ⟨x0,m0,hp0,⟨w0,rfl,hnd2⟩,hs2,hx2⟩;have hkr:bh h1 h.size 132 (dY 0 0 (.slice none 0 0)):=hkr;have hz2:=hx2.size;have hm0:=Af hrl hp0;have ep:=Ext.push (fun _=>False) h2 (.cells (dY x0.kind x0.set w0).toArray 132);have hv0:dU rM (Dm h1.size) (h2.push (.cells (dY x0.kind x0.set w0).toArray 132)) h1.size 132 (.slice (some ⟨h2.size,0,none⟩) 1 1) [x0]:=dU.nN (e:=rM) hnd2 hz2;have hs3:St _ rb m0:=bh.ay hs2 ep;have hkr3:=(hkr.ext hx2 (by show ¬_=_;omega)).ay ep;have e3:=jw.ay ((aD.of he1).trans hx2) ep;rw[hp0] at hrows;simp only at hrows;generalize htg:rT (eu d) [x0] m0=tgt at hrows;refine xo rfl (aA.cL (cs:=[_,_,_,_,_,_]) underlying130 H.uT rfl rfl (by decide)) ?_;rintro _ _ ⟨rfl,rfl⟩;refine aS 1 [0,2,3] rfl ?_;refine av rfl ?_;refine G.block rfl rfl ?_;refine bD (σ:=List Nd×Value×By) (fun q=>[(0,zq rb),(2,.pointer (some ⟨h.size,0,none⟩)),(3,q.2.1)]) (fun q h'=>St h' rb q.2.2/\dU rM (Dm h1.size) h' h1.size 132 q.2.1 q.1/\bh h' h.size 132 (dY 0 0 (.slice none 0 0))/\Ext (only rb) h h'/\(q.2.2.length<=l.length/\q.2.2.length+q.1.length<=l.length+1)/\rT (eu d) q.1 q.2.2=tgt) (fun q=>q.2.2.length) (([x0],.slice (some ⟨h2.size,0,none⟩) 1 1,m0)) rfl ⟨rfl,rfl,rfl,trivial⟩ ⟨hs3,hv0,hkr3,e3,⟨by show m0.length<=_;omega,by show m0.length+1<=_;omega⟩,htg⟩ ?_;rintro⟨acc,v,m⟩ h5 ⟨hs5,hv5,hkr5,e5,⟨hml,hm⟩,hcon⟩ ih'
 try dsimp only
 dsimp only at hs5 hv5 hml hm hcon;refine av rfl ?_;refine bp func94 1 rfl ?_;refine xo rfl (aq (vs:=[_,_]) func138 rfl H.Db rfl (ah.br (kO 124 hs5 (by omega)))) ?_;rintro _ h6 ⟨hor,hx6⟩;refine xd [0,2,3,8] rfl ?_;have hlt5:=hkr5.lt;have hz5:=e5.size;have hz6:=hx6.size;have hkr6:=hkr5.ext hx6 (by show ¬_=_;omega);have e6:=e5.trans hx6;have hv6:dU rM (Dm h1.size) h6 h1.size 132 v acc:=hv5.mv (hx6.mono fun b _ (k:b=rb)=>(by omega:b<h1.size)) (fun b hb (k:b<h1.size)=>by omega) (fun b _ k=>k);obtain⟨css,hc1,hc2,hc3⟩:=id hv6
 rcases hor with ⟨a1,rfl,hs6⟩|⟨a1,rfl,hs6⟩
 · obtain⟨c,t,rfl⟩:=List.exists_cons_of_ne_nil (fun(e:m=[])=>by rw[e] at a1;cases a1);have hs6:St h6 rb t:=hs6;simp only[List.length_cons] at hm hml
   have hcon':tgt=match yd (eu d) t with|none=>none|some (x,r)=>rT (eu d) (acc++[x]) r:=by
    have hG:=tN (rows:=eu d) hrl acc t;rw[<-hcon];refine Eq.trans ?_ hG;unfold rT;rw[if_pos a1];rfl
   refine aG rfl rfl (fun _=>?_) (fun hc=>absurd hc (by decide));refine aB rfl ?_;refine G.block rfl rfl ?_;refine G.cq func94 rfl ?_;refine bf 2 rfl ?_;refine xo rfl (aq (vs:=[_]) func137 rfl H.IA rfl (ah.jv (wL ih (hg.ext e6 (fun b (hb:b=rb)=>by omega)) hrb hs6 (by omega) (by omega)) ((fun _ _ ⟨hc,hp,hx⟩=>ef hc (by rw[hrows,hcon',hp]) (e6.trans hx))))) ?_;rintro _ h7 ⟨x,r,hp,⟨w,rfl,hnd7⟩,hs7,hx7⟩;have hr7:=Af hrl hp;have hz7:=hx7.size;have hown:∀b,v.ownBlock=some b->h1.size<=b/\b<h6.size:=fun b hb=>hc2.lt hb
   have hc27:=hc2.ext hx7 (fun b hb (k:b=rb)=>by have:=hown b hb;omega);have hc37:∀(i:Nat) (cs:List Value) (x:Nd),css[i]? =some cs->acc[i]? =some x->rM.R h7 (fun b=>dz v.ownBlock b\/b<h1.size) cs x:=fun i cs x h1' h2'=>rM.mv (hc3 i cs x h1' h2') (Mv.dQ hx7 fun b hb hn=>⟨fun(k:b=rb)=>hn (.inr (by show b<_;omega)),hn⟩)
   have hnd7':rM.R h7 (fun b=>dz v.ownBlock b\/b<h1.size) (dY x.kind x.set w) x:=b8.mv hnd7 ⟨Nat.le_refl _,fun b hb hn=>⟨rfl,fun k=>by
    have hn:¬b<h6.size:=hn
    rcases k with k|k
    · have:=hown b k.symm;omega
    · omega⟩⟩
   refine xo rfl (aA.cL (cs:=[_,_,_,_,_,_]) underlying130 H.uT rfl rfl (by decide)) ?_;rintro _ _ ⟨rfl,rfl⟩;refine xo rfl (aA.bN underlying130 H.uT rfl rfl (hc27) rfl rfl (b8.one hnd7) (by omega) (by decide) (by omega)) ?_;rintro v8 h8 ⟨ho8,hx8,-,hv8⟩;refine aS 1 [0,2,3,8] rfl ?_;refine G.aQ ?_;have hrb8:¬dz v.ownBlock rb:=fun k=>by have:=hown rb k.symm;omega
   have hr8:¬dz v.ownBlock h.size:=fun k=>by have:=hown _ k.symm;omega
   have e8:Ext (only rb) h h8:=⟨by have:=hx8.size;omega,fun b hb hn=>by rw[hx8.block b (by omega) (fun k=>by have:=hown b k.symm;omega)];exact(e6.trans hx7).block b hb hn⟩
   rw[hp] at hcon';exact ih' (acc++[x],v8,r) _ _ ⟨rfl,rfl,rfl,trivial⟩ ⟨bh.ext hs7 hx8 hrb8,dU.iA hc1 hc37 ho8 hx8 hv8 hnd7',(hkr6.ext hx7 (by show ¬_=_;omega)).ext hx8 hr8,e8,⟨by show r.length<=_;omega,by show r.length+(acc++[x]).length<=_;rw[List.length_append,List.length_singleton];omega⟩,hcon'.symm⟩ (by show r.length<(c::t).length;simp only[List.length_cons];omega)
 · refine aG rfl rfl (fun hc=>absurd hc (by decide)) (fun _=>?_);have hsl:bS rM h6 (Dm h1.size) v acc:=hv6.read (fun b hb (k:b<h1.size)=>by omega) (fun b _ k=>k);have hfin:tgt=some (cD 3 acc,m):=by rw[<-hcon];unfold rT;rw[if_neg a1]
   refine bw rfl rfl ?_;refine bp func94 1 rfl ?_;refine xo rfl (aq (vs:=[_,_]) func139 rfl H.Iz rfl (ah.br (pO 3 hsl))) ?_;rintro _ h7 ⟨⟨w,rfl,hnd7⟩,he7⟩;refine RW.b9 rfl rfl rfl (aA.aC H.cn rfl rfl (hkr6.ay he7) (by first|rfl|(simp;done)|(simp;omega)) (by first|decide|exact of_decide_eq_true rfl|(simp;done)|(simp;omega)) (b8.one hnd7)) ?_;rintro _ h8 ⟨rfl,hk8,hx8,hz8⟩;refine xd [0,2,3,8] rfl ?_;have hk8:bh h8 h.size 132 (dY (cD 3 acc).kind (cD 3 acc).set w):=hk8;have hz7:=he7.size;refine G.cQ func94 rfl (.cons (bl.cI H.eX H.cn rfl (hk8.row) (by first|rfl|(simp;done)|(simp;omega))) (.nil)) ?_;exact⟨cD 3 acc,m,by rw[hrows,hfin],⟨w,rfl,gL hnd7 (by omega) hx8 (fun b _ (hb:b=h.size)=>by omega)⟩,bh.ext (bh.ay hs6 he7) hx8 (by show ¬_=_;omega),jw.only (jw.ay e6 he7) hx8 (Nat.le_refl _)⟩
theorem CV (lim:Nat):∀d,vE d lim
 | 0=>fun _ _ l _ _ _ h _=>absurd h (Nat.not_lt_zero _)
 |d+1=>fun _ _ _ hg hrb hs hd hl=>DO (CV lim d) hg hrb hs (by omega) hl
end
end Go.Proofs.YtmehdcdbeafljaaGreatDoor
namespace Go.Proofs.YtmehdcdbeafljaaGreatDoor
open Go.Proofs.Tryz
open Go Go.Lw Go.RowKit
set_option maxRecDepth 20000
section
variable {h:az}{nb eb:Nat}
abbrev wm:List Value:=dY 0 0 (.slice none 0 0)
theorem Co {cs:List Value}{v0:Value}(hcs:cs.length=6) (hk:bh h nb 132 cs) (he:bh h eb 31 [v0]) (hne:nb≠eb) (B w:World) (ha:At B h w) :
 CallsD Tryz.prog 93 #[.pointer (some ⟨nb,0,none⟩),.pointer (some ⟨eb,0,none⟩)] (.panicking [{ v:=tP,recovered:=false }]) w fun e u' w' =>
  (∃r,e= .returned r)/\u'= .panicking [{ v:=tP,recovered:=true }]/\∃h',At B h' w'/\bh h' nb 132 wm/\bh h' eb 31 [.int .i64 10]/\Ext (fun b=>b=nb\/b=eb) h h':=by
 refine mP (v:=tP) (vs:=[.pointer (some ⟨nb,0,none⟩),.pointer (some ⟨eb,0,none⟩)]) (u':=.panicking [{ v:=tP,recovered:=true }]) func93 rfl rfl rfl rfl rfl rfl rfl rfl rfl rfl (fun c₀ cs hu=>.inl (by simp[recoverD,hu])) (fun a hf=>?_);refine wp_seq (wp_region ?_);refine(show RW Tryz.prog Tryz.f93.ntmps _ 0 _ h (fun ρ' h'=>h'=h/\Sub [(5,.bool true),(2,tP),(0,.pointer (some ⟨nb,0,none⟩)),(1,.pointer (some ⟨eb,0,none⟩))] ρ') (fun _ _=>False) from ?_) B a w hf ha _ ?_ (fun _ _ _ _ _ _ k=>k.elim)
 · refine ct 1 rfl rfl (aj.Av underlying20 rfl (.inr ⟨_,_,rfl⟩)) ?_;exact aE rfl ⟨rfl,rfl,rfl,rfl,rfl,trivial⟩
 rintro ρ' h' a1 w1 hf1 ha1 ⟨rfl,hsub⟩;have hf1:=hf1.sub hsub;refine wp_cond_true (hf1.eval (x:=.tmp 5) rfl) ?_;refine wp_seq (wp_region ?_);refine(show RW Tryz.prog Tryz.f93.ntmps _ 0 _ h' (fun ρ' g=>g=h'/\Sub [(0,.pointer (some ⟨nb,0,none⟩)),(1,.pointer (some ⟨eb,0,none⟩))] ρ') (fun _ _=>False) from ?_) B a1 w1 hf1 ha1 _ ?_ (fun _ _ _ _ _ _ k=>k.elim)
 · refine ct 1 rfl rfl (aj.vQ underlying193 rfl) ?_;exact aE rfl ⟨rfl,rfl,rfl,trivial⟩
 rintro ρ'' h'' a2 w2 hf2 ha2 ⟨rfl,hsub2⟩;have hf2:=hf2.sub hsub2;refine wp_region ?_;refine(show RW Tryz.prog Tryz.f93.ntmps _ 0 _ h'' (fun _ g=>bh g nb 132 wm/\bh g eb 31 [.int .i64 10]/\Ext (fun b=>b=nb\/b=eb) h'' g) (fun _ _=>False) from ?_) B a2 w2 hf2 ha2 _ ?_ (fun _ _ _ _ _ _ k=>k.elim)
 · refine xp rfl (aP (H.Cs ) rfl) ?_;refine RW.b9 rfl rfl rfl (aA.aC H.cn rfl rfl hk rfl (by rw[hcs];decide) (by first|decide|simp[Value.oneCell'])) ?_;rintro _ h3 ⟨rfl,hk3,hx3,hz3⟩
   have hk3:bh h3 nb 132 wm:=by
    rw[Fy (by rw[hcs];rfl)] at hk3;exact hk3
   refine RW.b9 rfl rfl rfl (aA.bz H.I9 rfl rfl (he.ext hx3 (fun e=>hne e.symm)) (by simp) rfl) ?_;rintro _ h4 ⟨rfl,hk4,hx4,hz4⟩;exact aE rfl ⟨hk3.ext hx4 (fun e=>hne e),hk4,(hx3.mono fun _ _ k=>.inl k).trans (hx4.mono fun _ _ k=>.inr k)⟩
 rintro _ h5 a5 w5 hf5 ha5 ⟨hq1,hq2,hq3⟩;exact⟨hf5.nd,_,iu hf5 ha5 .nil,⟨_,rfl⟩,rfl,h5,ha5,hq1,hq2,hq3⟩
theorem Cp (B w:World) (ha:At B h w) :
 CallsD Tryz.prog 93 #[.pointer (some ⟨nb,0,none⟩),.pointer (some ⟨eb,0,none⟩)] .returning w fun e u' w'=>(∃r,e= .returned r)/\u'= .returning/\At B h w':=by
 refine mP (v:=.nilIface) (vs:=[.pointer (some ⟨nb,0,none⟩),.pointer (some ⟨eb,0,none⟩)]) (u':=.returning) func93 rfl rfl rfl rfl rfl rfl rfl rfl rfl rfl (fun c₀ cs hu=>.inr ⟨by simp[recoverD,hu],rfl,rfl⟩) (fun a hf=>?_);refine wp_seq (wp_region ?_);refine(show RW Tryz.prog Tryz.f93.ntmps _ 0 _ h (fun ρ' h'=>h'=h/\Sub [(5,.bool false)] ρ') (fun _ _=>False) from ?_) B a w hf ha _ ?_ (fun _ _ _ _ _ _ k=>k.elim)
 · refine ct 1 rfl rfl (aj.Av underlying20 rfl (.inl rfl)) ?_;exact aE rfl ⟨rfl,rfl,trivial⟩
 rintro ρ' h' a1 w1 hf1 ha1 ⟨rfl,hsub⟩;have hf1:=hf1.sub hsub;refine wp_cond_false (hf1.eval (x:=.tmp 5) rfl) (wp_skip ?_);exact⟨hf1.nd,_,iu hf1 ha1 .nil,⟨_,rfl⟩,rfl,ha1⟩
theorem uq {cs:List Value}{v0:Value}{ρ:Env}{R:Ending->az->Prop}(h2:ρ.at 2=some (.pointer (some ⟨nb,0,none⟩))) (h3:ρ.at 3=some (.pointer (some ⟨eb,0,none⟩))) (hcs:cs.length=6) (hk:bh h nb 132 cs) (he:bh h eb 31 [v0]) (hne:nb≠eb)
 (hR:∀h',Ext (fun b=>b=nb\/b=eb) h h'->R (.returned (.tuple #[.agg wm.toArray,.int .i64 10])) h') :
 nC Tryz.prog f47 [{ target:=.fn (.func 93) #[.pointer (some ⟨nb,0,none⟩),.pointer (some ⟨eb,0,none⟩)],args:= #[] }] (.panicking [{ v:=tP,recovered:=false }]) ρ h R:=by
 intro B a w hf ha;refine leaves_cons (f:=93) (args:= #[.pointer (some ⟨nb,0,none⟩),.pointer (some ⟨eb,0,none⟩)]) (by simp) (nL func93 rfl (by decide +kernel)) ?_;refine(Co hcs hk he hne B w ha).mono ?_;rintro e u' w' ⟨⟨r,rfl⟩,rfl,h',ha',hk',he',hx'⟩;refine⟨_,iu hf.zero ha' (.cons (bl.cI H.eX H.cn h2 hk'.row rfl) (.cons (bl.cell H.JD h3 (he'.cell (i:=0) rfl)) .nil)),h',ha',hR h' hx'⟩
theorem B8 {x:Nd}{w0:Value}{e0:Int}{ρ:Env}{R:Ending->az->Prop}(h2:ρ.at 2=some (.pointer (some ⟨nb,0,none⟩))) (h3:ρ.at 3=some (.pointer (some ⟨eb,0,none⟩))) (hk:bh h nb 132 (dY x.kind x.set w0)) (he:bh h eb 31 [.int .i64 e0])
 (hR:R (.returned (.tuple #[.agg (dY x.kind x.set w0).toArray,.int .i64 e0])) h) :
 nC Tryz.prog f47 [{ target:=.fn (.func 93) #[.pointer (some ⟨nb,0,none⟩),.pointer (some ⟨eb,0,none⟩)],args:= #[] }] .returning ρ h R:=by
 intro B a w hf ha;refine leaves_cons (f:=93) (args:= #[.pointer (some ⟨nb,0,none⟩),.pointer (some ⟨eb,0,none⟩)]) (by simp) (nL func93 rfl (by decide +kernel)) ?_;refine(Cp B w ha).mono ?_;rintro e u' w' ⟨⟨r,rfl⟩,rfl,ha'⟩;refine⟨_,iu hf.zero ha' (.cons (bl.cI H.eX H.cn h2 hk.row rfl) (.cons (bl.cell H.JD h3 (he.cell (i:=0) rfl)) .nil)),h,ha',hR⟩
def JF (h h':az) (s:By) (r:Value):Prop:=∃w,r= .tuple #[.agg (dY (bZ s).1.kind (bZ s).1.set w).toArray,.int .i64 (bZ s).2]/\b8 h' (Dm h.size) (dY (bZ s).1.kind (bZ s).1.set w) (bZ s).1
theorem Am {lim:Nat}(hg:Sg h lim) (hlim:lim<=h.size) (s:By) (hs:s.length<=1000000):ah Tryz.prog 47 #[.string (bs s)] h (cT fun r h'=>JF h h' s r/\aD h h'):=by
 have hsz:=bu s;refine ah.of func47 rfl rfl ?_;refine xr func47 rfl ?_;refine xo rfl (aA.aX H.jS) ?_;rintro _ h1 ⟨rfl,hk1,he1,hz1⟩;refine xo rfl (aA.aX H.Lo) ?_;rintro _ h2 ⟨rfl,hk2,he2,hz2⟩;refine xd [0,2,3] rfl ?_;refine av rfl ?_;refine bp func47 1 rfl ?_;refine xp rfl (aj.bI underlying9 rfl) ?_;refine aS 1 [0,2,3,7] rfl ?_;have hk1:bh h1 h.size 132 wm:=hk1;have hk2:bh h2 h1.size 31 [.int .i64 0]:=hk2;have hk12:=hk1.ay he2;have e2:=he1.trans he2;refine aO rfl rfl (fun hbig=>?_) (fun hbig=>?_)
 · have hE:bZ s=(nu,3):=by unfold bZ;rw[if_pos (by omega)]
   refine xr func47 rfl ?_;refine xp rfl (aP (H.Cs ) rfl) ?_;refine RW.b9 rfl rfl rfl (aA.aC H.cn rfl rfl hk12 (by first|rfl|(simp;done)|(simp;omega)) (by first|decide|exact of_decide_eq_true rfl|(simp;done)|(simp;omega)) (by first|decide|simp[Value.oneCell'])) ?_;rintro _ h3 ⟨rfl,hk3,hx3,hz3⟩;refine RW.b9 rfl rfl rfl (aA.bz H.I9 rfl rfl (hk2.ext hx3 (by show ¬_=_;omega)) (by first|decide|exact of_decide_eq_true rfl|(simp;done)|(simp;omega)) rfl) ?_;rintro _ h4 ⟨rfl,hk4,hx4,hz4⟩;refine xd [0,2,3,7] rfl ?_;have hk3:bh h3 h.size 132 wm:=hk3;have hk4:bh h4 h1.size 31 [.int .i64 3]:=hk4;refine G.cQ func47 rfl (.cons (bl.cI H.eX H.cn rfl ((hk3.ext hx4 (by show ¬_=_;omega)).row) (by first|rfl|(simp;done)|(simp;omega))) (.cons (bl.cell H.JD rfl (hk4.cell (i:=0) rfl)) (.nil))) ?_;refine⟨_,rfl,⟨.slice none 0 0,by rw[hE];rfl,by rw[hE];exact fE _ _ 0 0⟩,aD.only (aD.only e2 hx3 (Nat.le_refl _)) hx4 (by omega)⟩
 · refine aB rfl ?_;refine av rfl ?_;refine G.Jy (caps:=[.pointer (some ⟨h.size,0,none⟩),.pointer (some ⟨h1.size,0,none⟩)]) func47 rfl rfl rfl rfl rfl rfl rfl rfl rfl rfl rfl ?_;have hE:bZ s=match jK s with|some x=>(x,0)|none=>(nu,10):=by unfold bZ;rw[if_neg (by omega)];rfl
   refine oP rfl ?_;refine GD.cq func47 rfl ?_;refine jt.au rfl rfl rfl rfl (aI rfl) ?_;refine jt.au rfl rfl rfl rfl (aP (H.HR _) rfl) ?_;refine jt.EI rfl rfl rfl rfl (aA.gu rfl) ?_;rintro _ h3 ⟨rfl,hk3,he3,hz3⟩;refine jt.au rfl rfl rfl rfl (aj.assign rfl) ?_;refine kH rfl ?_;refine GD.sub (ρ':=[(0,_),(2,_),(3,_),(4,_),(7,_)]) ⟨rfl,rfl,rfl,rfl,rfl,trivial⟩ ?_;refine oP rfl ?_;refine GD.cq func47 rfl ?_;refine jt.au rfl rfl rfl rfl (aI rfl) ?_;have hk3:bh h3 h2.size 196 [.string (bs s)]:=hk3;have hg3:Sg h3 lim:=hg.ext (e2.trans he3) (fun _ k=>k.elim);have hrows:=CV lim (s.length+1) h3 h2.size s hg3 (by omega) hk3 (Nat.lt_succ_self _) hs;have hk13:=hk12.ay he3;have hk23:=hk2.ay he3;have e3:=e2.trans he3;refine jt.EI rfl rfl rfl rfl (aq (vs:=[_]) func94 rfl H.J5 rfl (ah.jv (hrows) ((fun _ h' ⟨hc,hp,hx⟩=>by rw[hc];exact uq rfl rfl rfl (hk13.ext hx (by show ¬_=_;omega)) (hk23.ext hx (by show ¬_=_;omega)) (by omega) (fun h'' hx2=>⟨_,rfl,⟨.slice none 0 0,by rw[hE];unfold jK;rw[hp];rfl,by rw[hE];unfold jK;rw[hp];exact fE _ _ 0 0⟩,⟨by have:=hx.size;have:=hx2.size;have:=e3.size;omega,fun b hb _=>by rw[hx2.block b (by have:=hx.size;omega) (by omega),hx.block b (by omega) (by show ¬_=_;omega)];exact e3.block b hb (fun k=>k)⟩⟩))))) ?_;rintro _ h4 ⟨x,r,hp,⟨w,rfl,hnd⟩,hs4,hx4⟩;have hz4:=hx4.size;have hk14:=hk13.ext hx4 (by show ¬_=_;omega);have hk24:=hk23.ext hx4 (by show ¬_=_;omega);have e4:aD h h4:=aD.only e3 hx4 (by omega);refine jt.b9 rfl rfl rfl (aA.aC H.cn rfl rfl hk14 (by first|rfl|(simp;done)|(simp;omega)) (by first|decide|exact of_decide_eq_true rfl|(simp;done)|(simp;omega)) (b8.one hnd)) ?_;rintro _ h5 ⟨rfl,hk5,hx5,hz5⟩;refine kH rfl ?_;refine GD.sub (ρ':=[(0,_),(2,_),(3,_),(4,_),(7,_)]) ⟨rfl,rfl,rfl,rfl,rfl,trivial⟩ ?_;refine oP rfl ?_;refine oP rfl ?_;refine GD.cq func47 rfl ?_;refine jt.au rfl rfl rfl rfl (aI rfl) ?_;refine jt.au rfl rfl rfl rfl (aM rfl) ?_;refine jt.au rfl rfl rfl rfl (af (off:=0) underlying196 rfl rfl H.fq rfl) ?_;have hk5:bh h5 h.size 132 (dY x.kind x.set w):=hk5;have hk25:=hk24.ext hx5 (by show ¬_=_;omega);have hs5:St h5 h2.size r:=bh.ext hs4 hx5 (by show ¬_=_;omega);have hnd5:b8 h5 (Dm h3.size) (dY x.kind x.set w) x:=gL hnd (Nat.le_refl _) hx5 (fun b _ (hb:b=h.size)=>by omega);have e5:=aD.only e4 hx5 (Nat.le_refl _);refine jt.au rfl rfl rfl rfl (ai H.fM rfl hs5.cell) ?_;refine jt.au rfl rfl rfl rfl (aj.qA rfl rfl) ?_;refine kH rfl ?_;refine GD.sub (ρ':=[(0,_),(2,_),(3,_),(4,_),(7,_),(19,_)]) ⟨rfl,rfl,rfl,rfl,rfl,rfl,trivial⟩ ?_;refine JH rfl rfl (fun hr=>?_) (fun hr=>?_)
   · have hr:r≠[]:=fun e=>hr (by rw[e];rfl)
     have hpn:jK s=none:=by
      unfold jK;rw[hp];cases r with
      |nil=>exact absurd rfl hr
      |cons c t=>rfl
     refine GD.cq func47 rfl ?_;refine jt.au rfl rfl rfl rfl (aP (H.gY ) rfl) ?_;refine jt.au rfl rfl rfl rfl (bG H.kD rfl) ?_;refine jt.b9 rfl rfl rfl (dN (Φ:=fun _ _=>False) rfl (uq rfl rfl rfl hk5 hk25 (by omega) (fun h'' hx2=>⟨_,rfl,⟨.slice none 0 0,by rw[hE,hpn];rfl,by rw[hE,hpn];exact fE _ _ 0 0⟩,⟨by have:=hx2.size;have:=e5.size;omega,fun b hb _=>by rw[hx2.block b (by have:=e5.size;omega) (by omega)];exact e5.block b hb (fun k=>k)⟩⟩))) ?_;rintro _ _ hpn;exact hpn.elim
   · obtain rfl:r=[]:=eK (Classical.not_not.1 hr);have hpn:jK s=some x:=by unfold jK;rw[hp]
     refine Ie rfl ?_;refine oP rfl ?_;refine GD.cq func47 rfl ?_;refine jt.au rfl rfl rfl rfl (aj.aH H.eX H.cn rfl hk5.row (by first|rfl|(simp;done)|(simp;omega))) ?_;refine jt.b9 rfl rfl rfl (aA.aC H.cn rfl rfl hk5 (by first|rfl|(simp;done)|(simp;omega)) (by first|decide|exact of_decide_eq_true rfl|(simp;done)|(simp;omega)) (b8.one hnd5)) ?_;rintro _ h6 ⟨rfl,hk6,hx6,hz6⟩;refine jt.b9 rfl rfl rfl (aA.bz H.I9 rfl rfl (hk25.ext hx6 (by show ¬_=_;omega)) (by first|decide|exact of_decide_eq_true rfl|(simp;done)|(simp;omega)) rfl) ?_;rintro _ h7 ⟨rfl,hk7,hx7,hz7⟩;refine kH rfl ?_;refine GD.sub (ρ':=[(0,_),(2,_),(3,_),(4,_),(7,_),(19,_)]) ⟨rfl,rfl,rfl,rfl,rfl,rfl,trivial⟩ ?_;have hk6:bh h6 h.size 132 (dY x.kind x.set w):=hk6;have hk7:bh h7 h1.size 31 [.int .i64 0]:=hk7;have hk17:=hk6.ext hx7 (by show ¬_=_;omega);have e7:=aD.only (aD.only e5 hx6 (Nat.le_refl _)) hx7 (by omega);have hnd7:b8 h7 (Dm h.size) (dY x.kind x.set w) x:=gL (gL hnd5 (Nat.le_refl _) hx6 (fun b _ (hb:b=h.size)=>by omega)) (by omega) hx7 (fun b _ (hb:b=h1.size)=>by omega);refine GD.ret func47 rfl ?_;exact B8 rfl rfl hk17 hk7 ⟨_,rfl,⟨w,by rw[hE,hpn],by rw[hE,hpn];exact hnd7⟩,e7⟩
end
end Go.Proofs.YtmehdcdbeafljaaGreatDoor
namespace Go.Proofs.YtmehdcdbeafljaaGreatDoor
section
variable {l:List Nd}{s:By}{x:Nd}{i:Nat}
structure bK where
 kind:Nat
 set:Nat
 to:List Nat
 rule:Nat
end
mutual
def lay:Nd->List bK->Nat->List bK×Nat
 |.mk k s kids,ss,to =>
  if k=1 then (ss++[⟨1,s,[to],0⟩],ss.length)
  else if k=2 then bJ kids ss to
  else if k=3 then ((bA kids ss to).1++[⟨0,0,(bA kids ss to).2,0⟩],(bA kids ss to).1.length)
  else if k=6 then ((cC kids ss to).1++[⟨0,0,[(cC kids ss to).2,to],0⟩],(cC kids ss to).1.length)
  else if k=4\/k=5 then
   ((cC kids (ss++[⟨0,0,[],0⟩]) ss.length).1.set ss.length ⟨0,0,[(cC kids (ss++[⟨0,0,[],0⟩]) ss.length).2,to],0⟩,
    if k=5 then (cC kids (ss++[⟨0,0,[],0⟩]) ss.length).2 else ss.length)
  else (ss,to)
def bJ:List Nd->List bK->Nat->List bK×Nat
 | [],ss,to=>(ss,to)
 |x::r,ss,to=>lay x (bJ r ss to).1 (bJ r ss to).2
def bA:List Nd->List bK->Nat->List bK×List Nat
 | [],ss,_=>(ss,[])
 |x::r,ss,to=>((bA r (lay x ss to).1 to).1,(lay x ss to).2::(bA r (lay x ss to).1 to).2)
def cC:List Nd->List bK->Nat->List bK×Nat
 | [],ss,to=>(ss,to)
 |x::_,ss,to=>lay x ss to
end
mutual
def nE:Nd->Nat
 |.mk _ _ kids=>gD kids+1
def gD:List Nd->Nat
 | []=>0
 |x::r=>nE x+gD r
end
mutual
def sY:Nd->Bool
 |.mk k _ kids=>(!(k ==4 ||k ==5 ||k ==6) ||kids.length ==1) && sZ kids
def sZ:List Nd->Bool
 | []=>true
 |x::r=>sY x && sZ r
end
section
variable {l:List Nd}{s:By}{x:Nd}{i:Nat}
theorem CM (x:Nd):0<nE x:=by cases x;simp[nE]
theorem gR:∀(l m:List Nd),gD (l++m)=gD l+gD m
 | [],m=>by simp[gD]
 |x::l,m=>by simp only[List.cons_append,gD];rw[gR l m];omega
theorem kM:∀(l m:List Nd),sZ (l++m)=(sZ l && sZ m)
 | [],m=>by simp[sZ]
 |x::l,m=>by simp only[List.cons_append,sZ];rw[kM l m,Bool.and_assoc]
theorem xP:∀{l:List Nd}{i:Nat}{x:Nd},sZ l=true->l[i]? =some x->sY x=true
 | [],i,x,_,h=>by simp at h
 |y::l,0,x,hw,h=>by simp at h;subst h;simp only[sZ,Bool.and_eq_true] at hw;exact hw.1
 |y::l,i+1,x,hw,h=>by simp only[sZ,Bool.and_eq_true] at hw;exact xP hw.2 (by simpa using h)
end
mutual
theorem fT:∀(x:Nd) (ss:List bK) (to:Nat),ss.length<=(lay x ss to).1.length/\(lay x ss to).1.length<=ss.length+nE x
 |.mk k s kids,ss,to=>by
  rw[lay];simp only[nE];split
  · simp
  · split
    · have:=ji kids ss to;omega
    · split
      · have:=fB kids ss to;simp only[List.length_append,List.length_singleton];omega
      · split
        · have:=gp kids ss to;simp only[List.length_append,List.length_singleton];omega
        · split
          · have:=gp kids (ss++[⟨0,0,[],0⟩]) ss.length;simp only[List.length_append,List.length_singleton] at this;simp only[List.length_set];omega
          · simp
theorem ji:∀(l:List Nd) (ss:List bK) (to:Nat),ss.length<=(bJ l ss to).1.length/\(bJ l ss to).1.length<=ss.length+gD l
 | [],ss,to=>by simp[bJ,gD]
 |x::r,ss,to=>by
  rw[bJ];have h1:=ji r ss to;have h2:=fT x (bJ r ss to).1 (bJ r ss to).2;simp only[gD];omega
theorem fB:∀(l:List Nd) (ss:List bK) (to:Nat),ss.length<=(bA l ss to).1.length/\(bA l ss to).1.length<=ss.length+gD l
 | [],ss,to=>by simp[bA,gD]
 |x::r,ss,to=>by
  rw[bA];have h1:=fT x ss to;have h2:=fB r (lay x ss to).1 to;simp only[gD];omega
theorem gp:∀(l:List Nd) (ss:List bK) (to:Nat),ss.length<=(cC l ss to).1.length/\(cC l ss to).1.length<=ss.length+gD l
 | [],ss,to=>by simp[cC,gD]
 |x::r,ss,to=>by
  rw[cC];have h1:=fT x ss to;simp only[gD];omega
end
section
variable {l:List Nd}{s:By}{x:Nd}{i:Nat}
def Small (s:By) (p:Option (Nd×By)):Prop:=∀x r,p=some (x,r)->nE x+2*r.length<=2*s.length+1/\sY x=true
theorem xS (k:Nat) (l:List Nd):nE (cD k l)<=gD l+1:=by
 unfold cD;split
 · simp[nu,nE,gD]
 · simp[gD]
 · simp[nE]
theorem xO {k:Nat}(hk:k=2\/k=3) (h:sZ l=true):sY (cD k l)=true:=by
 unfold cD;split
 · rfl
 · simp only[sZ,Bool.and_eq_true] at h;exact h.1
 · simp only[sY,h,Bool.and_true];rcases hk with rfl|rfl<;>rfl
theorem rj:∀(s:By) (n:Nd),sY n=true->nE (fc n s).1+2*(fc n s).2.length<=nE n+2*s.length/\sY (fc n s).1=true
 | [],n,hw=>by simp[fc,hw]
 |c::r,n,hw=>by
  rw[fc];split
  · simp[hw]
  · rename_i hs;have hw':sY (.mk (dP c) 0 [n])=true:=by simp[sY,sZ,hw]
    have h:=rj r (.mk (dP c) 0 [n]) hw';refine⟨?_,h.2⟩;have h1:=h.1;simp only[nE,gD,List.length_cons] at h1 ⊢;omega
theorem Ak {rows:By->Option (Nd×By)}(hr:∀s,Small s (rows s)){r:By}(h:gi rows s=some (x,r)):nE x+2*r.length+1<=2*s.length/\sY x=true:=by
 have leaf:∀k st,(k=0\/k=1)->sY (.mk k st [])=true:=fun k st hk=>by rcases hk with rfl|rfl<;>rfl
 have key:∀y t,fD rows s=some (y,t)->nE y+2*t.length+1<=2*s.length/\sY y=true:=by
  intro y t ha;have hlen:∀(k st:Nat),y= .mk k st []->t.length<s.length->nE y+2*t.length+1<=2*s.length:=fun k st hy ht=>by subst hy;simp only[nE,gD];omega
  unfold fD at ha;split at ha
  · cases ha
  · rename_i c u;split at ha
    · split at ha
      · cases ha
      · rename_i n t' ht;split at ha
        · rename_i t'' _;cases ha;have:=hr _ _ _ ht;simp only[List.length_cons] at this ⊢;exact⟨by omega,this.2⟩
        · cases ha
    · split at ha
      · have hb:=qb ha
        have hy:∃st,y= .mk 1 st []:=by
         unfold iy at ha;split at ha<;>(simp only[Option.map_eq_some_iff] at ha;obtain⟨⟨m,r'⟩,_,h2⟩:=ha;cases h2;exact⟨_,rfl⟩)
        obtain⟨st,rfl⟩:=hy;exact⟨hlen _ _ rfl (by simp only[List.length_cons];omega),leaf _ _ (.inr rfl)⟩
      · split at ha
        · cases ha;exact⟨hlen _ _ rfl (by simp),leaf _ _ (.inr rfl)⟩
        · split at ha
          · simp only[Option.map_eq_some_iff] at ha;obtain⟨⟨b,r'⟩,h1,h2⟩:=ha;have:=uR h1;cases h2;exact⟨hlen _ _ rfl (by simp only[List.length_cons];omega),leaf _ _ (.inr rfl)⟩
          · split at ha
            · cases ha
            · cases ha;exact⟨hlen _ _ rfl (by simp),leaf _ _ (.inr rfl)⟩
 unfold gi at h;simp only[Option.map_eq_some_iff] at h;obtain⟨⟨n,t⟩,h1,h2⟩:=h;have h3:=key n t h1;have h4:=rj t n h3.2;rw[h2] at h4;simp only at h4;exact⟨by omega,h4.2⟩
theorem mj {rows:By->Option (Nd×By)}(hr:∀s,Small s (rows s)):∀(n:Nat) (all row:List Nd) (s:By) (x:Nd) (r:By),sZ all=true->sZ row=true->iH rows n all row s=some (x,r) ->
 nE x+2*r.length<=2*s.length+1+gD all+gD row+(if all=[] then 0 else 1)/\sY x=true
 | 0,_,_,_,_,_,_,_,h=>by cases h
 |n+1,all,row,s,x,r,hwa,hwr,h=>by
  rw[iH] at h;split at h
  · split at h
    · rename_i hbar;have hs:s.tail.length+1=s.length:=by cases s with|nil=>cases hbar|cons a b=>simp
      have hw':sZ (all++[cD 2 row])=true:=by rw[kM,hwa];simp[sZ,xO (.inl rfl) hwr]
      have ih:=mj hr n _ _ _ _ _ hw' (by rfl) h;have hj:=xS 2 row;have ha:gD (all++[cD 2 row])=gD all+nE (cD 2 row):=by rw[gR];simp[gD]
      rw[ha] at ih;refine⟨?_,ih.2⟩;have h1:=ih.1;rw[if_neg (by simp)] at h1;simp only[gD] at h1;omega
    · cases h;have hj:=xS 2 row;have hj3:=xS 3 (all++[cD 2 row]);have ha:gD (all++[cD 2 row])=gD all+nE (cD 2 row):=by rw[gR];simp[gD]
      refine⟨?_,xO (.inr rfl) (by rw[kM,hwa];simp[sZ,xO (.inl rfl) hwr])⟩;split
      · rename_i he;subst he;have:cD 3 ([]++[cD 2 row])=cD 2 row:=rfl;rw[this];simp only[gD] at *;omega
      · rw[ha] at hj3;omega
  · split at h
    · cases h
    · rename_i y t ht;have h1:=Ak hr ht;have ih:=mj hr n all (row++[y]) t x r hwa (by rw[kM,hwr];simp[sZ,h1.2]) h;have ha:gD (row++[y])=gD row+nE y:=by rw[gR];simp[gD]
      rw[ha] at ih;exact⟨by have:=ih.1;omega,ih.2⟩
theorem ry:∀(d:Nat) (s:By),Small s (eu d s)
 | 0,s=>fun x r h=>by cases h
 |d+1,s=>fun x r h=>by
  have:=mj (fun s=>ry d s) _ _ _ _ _ _ rfl rfl h;simpa [gD] using this
theorem yj (h:jK s=some x):nE x<=2*s.length+1/\sY x=true:=by
 unfold jK at h;split at h
 · rename_i n hn;cases h;have:=ry _ _ _ _ hn;simpa using this
 · cases h
theorem AQ (hx:l[i]? =some x) (ss:List bK) (to:Nat):bJ (l.drop i) ss to=lay x (bJ (l.drop (i+1)) ss to).1 (bJ (l.drop (i+1)) ss to).2:=by
 obtain⟨hi,rfl⟩:=List.getElem?_eq_some_iff.1 hx;rw[List.drop_eq_getElem_cons hi,bJ]
theorem mE:∀(l:List Nd) (ss:List bK) (to:Nat),(bA l ss to).2.length=l.length
 | [],ss,to=>by simp[bA]
 |x::r,ss,to=>by rw[bA];simp[mE r]
end
mutual
theorem kZ:∀(x:Nd) (ss:List bK) (to i:Nat),i<ss.length->(lay x ss to).1[i]? =ss[i]?
 |.mk k s kids,ss,to,i,hi=>by
  rw[lay];split
  · simp[List.getElem?_append_left hi]
  · split
    · exact ux kids ss to i hi
    · split
      · have:=fB kids ss to;simp only;rw[List.getElem?_append_left (by omega)];exact ox kids ss to i hi
      · split
        · have:=gp kids ss to;simp only;rw[List.getElem?_append_left (by omega)];exact ow kids ss to i hi
        · split
          · simp only;rw[List.getElem?_set_ne (by omega),ow kids (ss++[(⟨0,0,[],0⟩:bK)]) ss.length i (by simp;omega),List.getElem?_append_left hi]
          · rfl
theorem ux:∀(l:List Nd) (ss:List bK) (to i:Nat),i<ss.length->(bJ l ss to).1[i]? =ss[i]?
 | [],ss,to,i,hi=>by simp[bJ]
 |x::r,ss,to,i,hi=>by
  rw[bJ];have h1:=ji r ss to;rw[kZ x _ _ i (by omega),ux r ss to i hi]
theorem ox:∀(l:List Nd) (ss:List bK) (to i:Nat),i<ss.length->(bA l ss to).1[i]? =ss[i]?
 | [],ss,to,i,hi=>by simp[bA]
 |x::r,ss,to,i,hi=>by
  rw[bA];have h1:=fT x ss to;simp only;rw[ox r _ _ i (by omega),kZ x ss to i hi]
theorem ow:∀(l:List Nd) (ss:List bK) (to i:Nat),i<ss.length->(cC l ss to).1[i]? =ss[i]?
 | [],ss,to,i,hi=>by simp[cC]
 |x::r,ss,to,i,hi=>by
  rw[cC];exact kZ x ss to i hi
end
section
variable {l:List Nd}{s:By}{x:Nd}{i:Nat}
theorem E2 (hx:l[i]? =some x):gD (l.take i)+nE x<=gD l:=by
 obtain⟨hi,rfl⟩:=List.getElem?_eq_some_iff.1 hx;have h:gD (l.take i++l.drop i)=gD l:=by rw[List.take_append_drop]
 rw[gR,List.drop_eq_getElem_cons hi,gD] at h;omega
theorem E3 (hx:l[i]? =some x):gD (l.drop (i+1))+nE x<=gD l:=by
 obtain⟨hi,rfl⟩:=List.getElem?_eq_some_iff.1 hx;have h:gD (l.take i++l.drop i)=gD l:=by rw[List.take_append_drop]
 rw[gR,List.drop_eq_getElem_cons hi,gD] at h;omega
theorem CN:∀l:List Nd,l.length<=gD l
 | []=>by simp[gD]
 |x::l=>by have:=CN l;have:=CM x;simp only[List.length_cons,gD];omega
def rz:List bK->List Bool->Nat
 |x::r,b::s=>(if b then 0 else x.to.length+1)+rz r s
 |_,_=>0
def iI (ss:List bK):Nat->List Nat->List Bool->List Bool
 | 0,_,seen=>seen
 |n+1,todo,seen =>
  match todo.getLast? with
  |none=>seen
  |some i =>
   if seen[i]? =some true then iI ss n todo.dropLast seen
   else iI ss n (match ss[i]? with|some x=>if x.kind=0 then todo.dropLast++x.to else todo.dropLast|none=>todo.dropLast) (seen.set i true)
def closed (ss:List bK) (todo:List Nat):List Nat :=
 if todo.length=0 then []
 else ((List.range ss.length).filter fun i=>(iI ss (todo.length+rz ss (List.replicate ss.length false)) todo (List.replicate ss.length false))[i]? ==some true && (ss[i]?.map (·.kind)) !=some 0)
theorem yh:∀(ss:List bK) (seen:List Bool) (i:Nat) (x:bK),ss[i]? =some x->seen[i]? =some false->rz ss (seen.set i true)+(x.to.length+1)=rz ss seen
 | [],_,_,_,h,_=>by simp at h
 |_::_,[],_,_,_,h=>by simp at h
 |y::r,b::s,0,x,h1,h2=>by
  simp at h1 h2;subst h1 h2;simp[rz];omega
 |y::r,b::s,i+1,x,h1,h2=>by
  have:=yh r s i x (by simpa using h1) (by simpa using h2);simp only[List.set_cons_succ,rz];omega
def Good (ss:List bK):Prop:=∀x∈ss,∀j∈x.to,j<ss.length
def cu (ss:List bK) (st:Nat):List Nat:=if ss.length=0 then [] else closed ss [st]
def qf (x:bK) (b:Int):Bool:=decide (x.kind=2/\(b<0\/(x.rule:Int)<b))
def qg (ss:List bK):List Nat->Int->Int
 | [],b=>b
 |j::r,b=>qg ss r (match ss[j]? with|some x=>if qf x b then x.rule else b|none=>b)
def aJ (ss:List bK) (now:List Nat):Int:=if ss.length=0 then -1 else qg ss now (-1)
def iX (x:bK) (c:UInt8):Bool:=decide (x.kind=1) && x.set.testBit c.toNat
def stepG (ss:List bK) (c:UInt8):List Nat->List Nat->List Nat
 | [],a=>a
 |j::r,a=>stepG ss c r (match ss[j]? with|some x=>if iX x c then a++x.to else a|none=>a)
def bg (ss:List bK) (c:UInt8) (now:List Nat):List Nat:=if ss.length=0 then [] else closed ss (stepG ss c now [])
theorem qq (ss:List bK) (c:UInt8):∀(l a:List Nat),a.length<=(stepG ss c l a).length
 | [],a=>Nat.le_refl _
 |j::r,a=>by
  rw[stepG];refine Nat.le_trans ?_ (qq ss c r _);split
  · split<;>simp
  · exact Nat.le_refl _
def ck (ss:List bK):List UInt8->List Nat->Nat->Int×Int->Int×Int
 |l,now,k,b =>
  if now.length=0 then b
  else match l with
   | []=>if 0<=aJ ss now then ((k:Int),aJ ss now) else b
   |c::r=>ck ss r (bg ss c now) (k+1) (if 0<=aJ ss now then ((k:Int),aJ ss now) else b)
def cP (ss:List bK) (st:Nat) (l:List UInt8):Int×Int:=if ss.length=0 then (0,-1) else ck ss l (cu ss st) 0 (0,-1)
def B1 (ss:List bK) (st:Nat) (s:By) (a:Int):Int×Int:=if ss.length=0\/a<0\/(s.length:Int)<a then (0,-1) else cP ss st (s.drop a.toNat)
theorem gj {ss:List bK}{l:List UInt8}{now:List Nat}{k:Nat}{b:Int×Int}(h:now.length=0):ck ss l now k b=b:=by cases l<;>(rw[ck];exact if_pos h)
theorem BG (ss:List bK) (st:Nat):(cu ss st).Sublist (List.range ss.length):=by
 unfold cu closed;split
 · exact List.nil_sublist _
 · split
   · exact List.nil_sublist _
   · exact List.filter_sublist
theorem DD (ss:List bK) (c:UInt8) (now:List Nat):(bg ss c now).Sublist (List.range ss.length):=by
 unfold bg closed;split
 · exact List.nil_sublist _
 · split
   · exact List.nil_sublist _
   · exact List.filter_sublist
def kr:Nat->List By->List bK->List Nat->Int ⊕ (List bK×List Nat)
 |_,[],ss,t=>.inr (ss,t)
 |i,s::r,ss,t=>if (bZ s).2≠0 then .inl (bZ s).2 else kr (i+1) r (lay (bZ s).1 (ss++[⟨2,0,[],i⟩]) ss.length).1 (t++[(lay (bZ s).1 (ss++[⟨2,0,[],i⟩]) ss.length).2])
def vR (l:List By):Nat:=(l.map List.length).sum
def fk (rules:List By):Int ⊕ (List bK×Nat) :=
 if rules.length=0\/64<rules.length then .inl 2
 else match kr 0 rules [] [] with
  |.inl e=>.inl e
  |.inr (ss,t)=>if 2000<vR rules then .inl 70 else .inr (ss++[⟨0,0,t,0⟩],ss.length)
theorem pq (h0:(bZ s).2=0):nE (bZ s).1<=401/\sY (bZ s).1=true/\s.length<=200:=by
 unfold bZ at *;split at h0
 · cases h0
 · rename_i hl;rw[if_neg hl];split at h0
   · rename_i x hx;have:=yj hx;exact⟨by show nE x<=401;omega,this.2,by omega⟩
   · cases h0
theorem wu {l:List By}(hx:l[i]? =some s):vR (l.take (i+1))=vR (l.take i)+s.length:=by
 rw[List.take_add_one,hx,Option.toList_some];simp[vR]
end
end Go.Proofs.YtmehdcdbeafljaaGreatDoor
namespace Go.Proofs.YtmehdcdbeafljaaGreatDoor
open Go.Proofs.Tryz
open Go Go.Lw
set_option maxRecDepth 20000
section
variable {h h':az}{O:Nat->Prop}{v w:Value}{nb st n i:Nat}{todo:List Nat}{seen:List Bool}
def eG (n:Nat):Value:=.int .i64 (n:Nat)
def iC:gQ Nat:=.flat eG fun _=>rfl
def DG (k s:Nat) (v:Value) (r:Nat):List Value:=[.int .i64 (k:Nat),eW s 0,eW s 1,eW s 2,eW s 3,v,.int .i64 (r:Nat)]
def GY (h:az) (O:Nat->Prop) (cs:List Value) (x:bK):Prop:=∃v,cs=DG x.kind x.set v x.rule/\bS iC h O v x.to
theorem bS.IJ {α:Type}{e:gQ α}{xs:List α}(k:bS e h O v xs):v.oneCell'=true:=by
 obtain⟨oa,n,c,rfl,_⟩:=k;rfl
def Em:gQ bK:=⟨7,by decide,GY,fun h=>by obtain⟨v,rfl,_⟩:=h;rfl,fun h=>by
 obtain⟨v,rfl,hv⟩:=h;intro u hu;simp[DG,eW] at hu
 rcases hu with rfl|rfl|rfl|rfl|rfl|rfl|rfl<;>first|rfl|exact bS.IJ hv,fun h m=>by
 obtain⟨v,hc,hv⟩:=h;exact⟨v,hc,hv.mv m⟩⟩
structure cy (h:az) (O:Nat->Prop) (nb:Nat) (v:Value) (ss:List bK) (st:Nat):Prop where
 blk:bh h nb 126 [v,.int .i64 (st:Nat)]
 row:dU Em (fun b=>b=nb\/O b) h (nb+1) 138 v ss
abbrev eS (nb:Nat) (v:Value):Nat->Prop:=fun b=>b=nb\/dz v.ownBlock b
theorem cy.own {ss:List bK}(k:cy h O nb v ss st):∀b,v.ownBlock=some b->nb<b/\b<h.size:=fun b hb=>by
 obtain⟨css,_,h2,_⟩:=k.row;have:=h2.lt hb;omega
theorem cy.ext {M:Nat->Prop}{O O':Nat->Prop}{h h':az}{nb:Nat}{v:Value}{ss:List bK}{st:Nat}(k:cy h O nb v ss st) (e:Ext M h h') (hnb:¬M nb) (hown:∀b,v.ownBlock=some b->¬M b) (hM:∀b,b<h.size->M b->O b) (hO:∀b,b<h.size->O' b->O b):cy h' O' nb v ss st :=
 ⟨k.blk.ext e hnb,k.row.pF e hown (fun b hb hm=>.inr (hM b hb hm)) (fun b hb k=>k.imp id (hO b hb))⟩
theorem cy.ay {O':Nat->Prop}{ss:List bK}(k:cy h O nb v ss st) (e:aD h h') (hO:∀b,b<h.size->O' b->O b):cy h' O' nb v ss st:=k.ext e (fun k=>k) (fun _ _ k=>k) (fun _ _ k=>k.elim) hO
theorem EC {ss:List bK}{x:bK}(hn:cy h O nb v ss st) (_hO:∀b,O b->b<h.size) (hx:GY h (fun b=>eS nb v b\/O b) (DG x.kind x.set w x.rule) x) (hl:ss.length<=1000000) :
 ah Tryz.prog 49 #[.pointer (some ⟨nb,0,none⟩),.agg (DG x.kind x.set w x.rule).toArray] h (cT fun r h'=>∃v',r= .int .i64 (ss.length:Nat)/\cy h' O nb v' (ss++[x]) st/\Ext (eS nb v) h h'/\(∀b,v'.ownBlock=some b->v.ownBlock=some b\/h.size<=b)):=by
 have hw1:∀u∈DG x.kind x.set w x.rule,u.oneCell'=true:=Em.one hx;refine ah.of func49 rfl rfl ?_;refine xr func49 rfl ?_;refine xo rfl (aA.gu rfl) ?_;rintro _ h1 ⟨rfl,hk1,he1,hz1⟩;have hk1:bh h1 h.size 138 (DG x.kind x.set w x.rule):=hk1;have hn1:=hn.ay (O':=O) he1 (fun _ _ k=>k);obtain⟨css,hc1,hc2,hc3⟩:=id hn1.row;have hown:=hn1.own;have hnlt:=hn1.blk.lt;have hnz:=hn.blk.lt;have hnM:¬(dz v.ownBlock nb\/Array.size h1<=nb):=by rintro(k|k);(have:=hown nb k.symm;omega);omega
 have hkM:¬(dz v.ownBlock h.size\/Array.size h1<=h.size):=by rintro(k|k);(have:=hn.own _ k.symm;omega);omega
 refine aS 1 [0,1,3,4] rfl ?_;refine av rfl ?_;refine bU (fun b=>dz v.ownBlock b\/Array.size h1<=b) (fun i=>Nat.blt i 10) (sz:=11) (listed:= #[false,false,false,false,false,false,false,false,false,false,false]) func49 H.mixed rfl rfl rfl ?_;refine cJ 0 1 (by kernel_rfl) rfl ?_;refine cJ 1 3 (by kernel_rfl) rfl ?_;refine cJ 2 7 (by kernel_rfl) rfl ?_;refine bM 3 15 (by kernel_rfl) rfl (fun h' e=>af (off:=0) underlying126 rfl rfl H.gG rfl) ?_;refine bM 4 31 (by kernel_rfl) rfl (fun h' e=>ai H.iz rfl (e.cell hnM (hn1.blk.cell (i:=0) rfl))) ?_;refine bM 5 63 (by kernel_rfl) rfl (fun h' e=>aj.aH H.K7 H.lM rfl (e.rowAt hkM hk1.row) (by first|rfl|(simp;done)|(simp;omega))) ?_;refine eP 6 127 (by kernel_rfl) rfl (aA.cL (cs:=[_,_,_,_,_,_,_]) underlying124 H.IL rfl rfl (by decide)) ?_;rintro _ _ ⟨rfl,rfl⟩;refine⟨fun _=>by first|exact Ext.push _ _ _|assumption,?_⟩;refine eP 7 255 (by kernel_rfl) rfl (aA.bN underlying124 H.IL rfl rfl (hc2) rfl rfl (hw1) (by omega) (by decide) (by omega)) ?_;rintro v2 h2 ⟨ho2,hx2,hx2',hv2⟩;refine⟨fun _=>hx2'.mono (fun _ _ k=>.inl k),?_⟩;obtain⟨oa2,c2,rfl,_⟩:=ho2.open;refine eP 8 511 (by kernel_rfl) rfl (aj.br (aM rfl)) ?_;rintro _ hq_ ⟨rfl,hqe_⟩;replace hqe_:=hqe_.symm;subst hqe_;refine⟨fun _=>Ext.refl _ _,?_⟩;refine bM 9 1023 (by kernel_rfl) rfl (fun h' e=>af (off:=0) underlying126 rfl rfl H.gG rfl) ?_;refine lW 10 2047 (by kernel_rfl) rfl (aA.bz H.gG rfl rfl (hn1.blk.ext hx2 (fun k=>by have:=hown nb k.symm;omega)) (by first|decide|exact of_decide_eq_true rfl|(simp;done)|(simp;omega)) rfl) ?_;rintro _ h3 ⟨rfl,hk3,hx3,hz3⟩;refine⟨fun hk=>(nomatch hk),?_⟩;refine bB (by kernel_rfl) ?_;refine xu [0,1,3,4] rfl ?_;refine bp func49 2 rfl ?_;refine xp rfl (af (off:=0) underlying126 rfl rfl H.gG rfl) ?_;have hxs:Em.R h1 (fun b=>dz v.ownBlock b\/b=nb\/O b) (DG x.kind x.set w x.rule) x:=Em.mv hx ⟨he1.size,fun b hb hn=>⟨he1.block b hb (fun k=>k),fun k=>hn (by rcases k with k|k|k;(exact .inl (.inr k));(exact .inl (.inl k));exact .inr k)⟩⟩;have hrow2:dU Em (fun b=>b=nb\/O b) h2 (nb+1) 138 (.slice oa2 (ss.length+1) c2) (ss++[x]):=dU.iA hc1 hc3 ho2 hx2 hv2 hxs;have hrow3:dU Em (fun b=>b=nb\/O b) h3 (nb+1) 138 (.slice oa2 (ss.length+1) c2) (ss++[x]):=hrow2.pF hx3 (fun b hb (k:b=nb)=>by have:=hv2 b hb;rcases this with k'|k';(have:=hown b k';omega);omega) (fun b _ k=>.inl k) (fun b _ k=>k);have hk3:bh h3 nb 126 [.slice oa2 (ss.length+1) c2,.int .i64 (st:Nat)]:=hk3;refine xp rfl (ai H.iz rfl (hk3.cell (i:=0) rfl)) ?_;refine xp rfl (aj.aK underlying124 rfl) ?_;refine xp rfl (aj.jy rfl rfl ⟨by omega,by omega⟩) ?_;refine aS 1 [0,1,3,4] rfl ?_;refine G.ret func49 rfl rfl ?_;refine⟨_,rfl,_,?_,⟨hk3,hrow3⟩,⟨by have:=he1.size;have:=hx2.size;omega,fun b hb hn=>by rw[hx3.block b (by have:=hx2.size;omega) (fun k=>hn (.inl k)),hx2.block b (by omega) (fun k=>hn (.inr k)),he1.block b hb (fun k=>k)]⟩,fun b hb=>?_⟩
 · show Value.int _ _=_
   congr 1;omega
 · rcases hv2 b hb with k|k
   · exact .inl k
   · exact .inr (by omega)
theorem sw {l cap:Nat}{oa:Option Addr}{c:Nat}{J:Nat->az->Prop}(hn:n<=1000000)
 (hread:∀j h,J j h->cellAt h ⟨cap,0,none⟩=some (.slice oa n c)) (hy:∀j h,J (j+1) h->j<n->∃(b o k s:Nat) (w:Value),oa=some ⟨b,o,none⟩/\Lw.rowAt h b (o+j*6) (dY k s w) /\
  lE Tryz.prog l #[.int .i64 (j:Nat),.agg (dY k s w).toArray] h (cT fun r h'=>r= .bool true/\J j h')) (h0:J n h) :
 ah Tryz.prog 140 #[.func (.yield l) #[] #[],.pointer (some ⟨cap,0,none⟩)] h (cT fun _ h'=>J 0 h'):=by
 refine ah.of func140 rfl rfl ?_;refine xr func140 rfl ?_;refine xp rfl (ai H.vq rfl (hread _ _ h0)) ?_;refine xp rfl (aj.aK underlying130 rfl) ?_;refine xp rfl (aj.jy rfl rfl ⟨by omega,by omega⟩) ?_;refine aS 1 [0,1,3] rfl ?_;refine G.block rfl rfl ?_;refine bD (σ:=Nat) (fun j=>[(0,.func (.yield l) #[] #[]),(1,.pointer (some ⟨cap,0,none⟩)),(3,.int .i64 ((j:Int)-1))]) (fun j h'=>J j h'/\j<=n) (fun j=>j) (n) rfl ⟨rfl,rfl,rfl,trivial⟩ ⟨h0,Nat.le_refl _⟩ ?_;rintro j h1 ⟨hJ,hj⟩ ih;refine av rfl ?_;refine aY func140 2 [0,1,3,8] rfl ?_;refine aO rfl rfl (fun hge=>?_) (fun hge=>?_)
 · obtain⟨i,rfl⟩:∃i,j=i+1:=⟨j-1,by omega⟩
   obtain⟨b,o,k,s,w,ha,hrow,hyy⟩:=hy i h1 hJ (by omega);have hji:((i+1:Nat):Int)-1=((i:Nat):Int):=by omega
   rw[hji];refine aB rfl ?_;refine av rfl ?_;refine G.block rfl rfl ?_;refine av rfl ?_;refine G.JW func140 rfl ?_;refine gM.au rfl rfl rfl rfl rfl (aI rfl) ?_;refine gM.au rfl rfl rfl rfl rfl (aI rfl) ?_;refine gM.au rfl rfl rfl rfl rfl (ai H.vq rfl (hread _ _ hJ)) ?_;refine gM.au rfl rfl rfl rfl rfl (aI rfl) ?_;refine gM.au rfl rfl rfl rfl rfl (aj.ax underlying130 H.cn rfl rfl i rfl ha (by omega)) ?_;refine gM.au rfl rfl rfl rfl rfl (aj.aH H.eX H.cn rfl hrow (by first|rfl|(simp;done)|(simp;omega))) ?_;refine xG (vs:=[_,_]) rfl rfl rfl rfl rfl rfl rfl (hyy) ?_;rintro _ h2 ⟨rfl,hJ2⟩;refine gM.au rfl rfl rfl rfl rfl (aj.Ht rfl) ?_;refine kG rfl ?_;refine xu [0,1,3,8,18] rfl ?_;refine aG rfl rfl (fun hc=>absurd hc (by decide)) (fun _=>?_);refine aB rfl ?_;refine G.aQ ?_;refine G.cq func140 rfl ?_;refine ct 1 rfl rfl (aj.jy rfl rfl ⟨by omega,by omega⟩) ?_;refine aS 1 [0,1,3,8,18] rfl ?_;exact ih i _ _ ⟨rfl,rfl,rfl,trivial⟩ ⟨hJ2,by omega⟩ (by omega)
 · obtain rfl:j=0:=by omega
   refine bw rfl rfl ?_;refine G.uQ func140 rfl ?_;exact⟨_,rfl,hJ⟩
theorem vf (v:Value) (hv:v.oneCell'=true):ah Tryz.prog 95 #[v] h (cT fun r h'=>r= .func (.func 140) #[] #[.pointer (some ⟨h.size,0,none⟩)]/\h'=h.push (.cells #[v] 130)):=by
 have hcells:v.cells= #[v]:=by cases v<;>simp[Value.oneCell'] at hv<;>rfl
 refine ah.of func95 rfl rfl ?_;refine xr func95 rfl ?_;refine xo rfl (aA.box rfl) ?_;rintro _ _ ⟨rfl,rfl⟩;refine aS 1 [0,1,2] rfl ?_;refine xr func95 rfl ?_;refine xp rfl (aj.makeFunc (vs:=[_]) rfl) ?_;refine aS 1 [0,1,2] rfl ?_;refine G.ret func95 rfl rfl ?_;exact⟨_,rfl,rfl,by rw[hcells]⟩
structure Nx (O:Nat->Prop) (nb:Nat) (h:az) (v:Value) (h':az) (v':Value):Prop where
 ext:Ext (fun b=>eS nb v b\/O b) h h'
 own:∀b,v'.ownBlock=some b->v.ownBlock=some b\/h.size<=b
theorem Nx.refl {O:Nat->Prop}{nb:Nat}{h:az}{v:Value}:Nx O nb h v h v:=⟨Ext.refl _ _,fun _ k=>.inl k⟩
theorem Nx.JK (e:aD h h'):Nx O nb h v h' v:=⟨e.mono fun _ _ k=>k.elim,fun _ k=>.inl k⟩
theorem Nx.mono {O O':Nat->Prop}{nb:Nat}{h h':az}{v v':Value}(k:Nx O nb h v h' v') (hO:∀b,b<h.size->O b->O' b):Nx O' nb h v h' v':=⟨k.ext.mono fun b hb k=>k.imp id (hO b hb),k.own⟩
theorem Nx.trans {O':Nat->Prop}{h1 h2:az}{v1 v2:Value}(k:Nx O nb h v h1 v1) (k':Nx O' nb h1 v1 h2 v2) (hO:∀b,b<h.size->O' b->O b):Nx O nb h v h2 v2:=by
 refine⟨⟨Nat.le_trans k.ext.size k'.ext.size,fun b hb hn=>?_⟩,fun b hb=>?_⟩
 · rw[k'.ext.block b (Nat.lt_of_lt_of_le hb k.ext.size) ?_,k.ext.block b hb hn];rintro((k1|k1)|k1)
   · exact hn (.inl (.inl k1))
   · rcases k.own b k1.symm with k2|k2
     · exact hn (.inl (.inr k2.symm))
     · omega
   · exact hn (.inr (hO b hb k1))
 · have:=k.ext.size
   rcases k'.own b hb with k2|k2
   · exact k.own b k2
   · exact .inr (by omega)
theorem Nx.mv {v':Value}(k:Nx O nb h v h' v'):Mv (fun b=>eS nb v b\/O b) (fun b=>eS nb v' b\/O b) h h' :=
 ⟨k.ext.size,fun b hb hn=>⟨k.ext.block b hb hn,by
  rintro((k1|k1)|k1)
  · exact hn (.inl (.inl k1))
  · rcases k.own b k1.symm with k2|k2
    · exact hn (.inl (.inr k2.symm))
    · omega
  · exact hn (.inr k1)⟩⟩
theorem Nx.JL {v':Value}(k:Nx (fun _=>False) nb h v h' v'):Mv (eS nb v) (eS nb v') h h' :=
 ⟨k.ext.size,fun b hb hn=>⟨k.ext.block b hb (fun k=>k.elim hn id),fun k1=>by
  rcases k1 with k1|k1
  · exact hn (.inl k1)
  · rcases k.own b k1.symm with k2|k2
    · exact hn (.inr k2.symm)
    · omega⟩⟩
def Ic (O:Nat->Prop) (nb:Nat) (h:az) (v:Value) (st:Nat) (out:List bK×Nat) (r:Value) (h':az):Prop:=∃v',r= .int .i64 (out.2:Nat)/\cy h' O nb v' out.1 st/\Nx (fun _=>False) nb h v h' v'
def G0 (n:Nat):Prop:=∀{x:Nd}{h:az}{O:Nat->Prop}{nb:Nat}{v w:Value}{ss:List bK}{st to:Nat},nE x<=n->cy h O nb v ss st->(∀b,O b->b<h.size)->b8 h (eS nb v) (dY x.kind x.set w) x->sY x=true->ss.length+nE x<=1000000 ->
 ah Tryz.prog 48 #[.pointer (some ⟨nb,0,none⟩),.agg (dY x.kind x.set w).toArray,.int .i64 (to:Nat)] h (cT (Ic O nb h v st (lay x ss to)))
theorem zh {ss:List bK}{x:bK}(hn:cy h O nb v ss st) (hO:∀b,O b->b<h.size) (hx:GY h (fun b=>eS nb v b\/O b) (DG x.kind x.set w x.rule) x) (hl:ss.length<=1000000) :
 ah Tryz.prog 49 #[.pointer (some ⟨nb,0,none⟩),.agg (DG x.kind x.set w x.rule).toArray] h (cT (Ic O nb h v st (ss++[x],ss.length))) :=
 (EC hn hO hx hl).mono fun e h' r=>by
  obtain⟨u,he,v',hu,hn',hx',ho⟩:=r;exact⟨u,he,v',hu,hn',hx'.mono fun _ _ k=>.inl k,ho⟩
theorem IK (i:Nat):eW 0 i= .int .u64 0:=by simp[eW,Bv]
theorem mT {ss:List bK}{to:List Nat}(hn:cy h O nb v ss st) (hO:∀b,O b->b<h.size) (hx:bS iC h (fun b=>eS nb v b\/O b) w to) (hl:ss.length<=1000000) :
 ah Tryz.prog 49 #[.pointer (some ⟨nb,0,none⟩),.agg #[.int .i64 0,.int .u64 0,.int .u64 0,.int .u64 0,.int .u64 0,w,.int .i64 0]] h (cT (Ic O nb h v st (ss++[⟨0,0,to,0⟩],ss.length))):=by
 have h1:=zh (x:=⟨0,0,to,0⟩) hn hO ⟨w,rfl,hx⟩ hl;simp only[DG,IK] at h1;exact h1
theorem MF (t:TypeId) (a:Nat) (ho:¬O h.size):bS iC (h.push (.cells #[.int .i64 (a:Nat)] t)) O (.slice (some ⟨h.size,0,none⟩) 1 1) [a]:=bS.nN (e:=iC) (cs:=[eG a]) rfl ho
theorem Ly (t:TypeId) (a b:Nat) (ho:¬O h.size):bS iC (h.push (.cells #[.int .i64 (a:Nat),.int .i64 (b:Nat)] t)) O (.slice (some ⟨h.size,0,none⟩) 2 2) [a,b] :=
 ⟨_,2,2,rfl,rfl,Nat.le_refl _,by simp[maxLen],fun i x hx=>by
  refine⟨h.size,0,[eG x],rfl,ho,?_,rfl⟩;have hr:=pe h [.int .i64 (a:Nat),.int .i64 (b:Nat)] t;intro j u hj;have h0:j=0:=by have:=(List.getElem?_eq_some_iff.1 hj).1;simp at this;omega
  subst h0;simp only[List.getElem?_cons_zero,Option.some.injEq] at hj;subst hj
  match i with
  | 0=>simp at hx;subst hx;exact hr 0 _ rfl
  | 1=>simp at hx;subst hx;exact hr 1 _ rfl
  |i+2=>simp at hx⟩
theorem rG:∀(l:List Nd) (x:Nd) (ss:List bK) (to:Nat),bA (l++[x]) ss to=((lay x (bA l ss to).1 to).1,(bA l ss to).2++[(lay x (bA l ss to).1 to).2])
 | [],x,ss,to=>by simp[bA]
 |y::l,x,ss,to=>by
  rw[List.cons_append,bA,rG l x,bA];simp
theorem rF {l:List Nd}{x:Nd}(hx:l[i]? =some x) (ss:List bK) (to:Nat):bA (l.take (i+1)) ss to=((lay x (bA (l.take i) ss to).1 to).1,(bA (l.take i) ss to).2++[(lay x (bA (l.take i) ss to).1 to).2]):=by
 rw[List.take_add_one,hx,Option.toList_some,rG]
def Il (nb b5 cap d:Nat) (r0:Loop) (hL:az) (v sl:Value) (O:Nat->Prop) (kids:List Nd) (ss:List bK) (st to j:Nat) (g:az):Prop :=
 ∃v',eo g (d+1) r0/\g[d]? =some (.deferred (some []))/\bh g cap 130 [sl]/\cy g (fun b=>O b\/(b5<=b/\b<hL.size)) nb v' (bJ (kids.drop j) ss to).1 st /\
  bh g b5 3 [.int .i64 ((bJ (kids.drop j) ss to).2:Nat)]/\Nx (fun b=>b5<=b/\b<hL.size) nb hL v g v'
theorem kk {k j:Nat}(h:¬((k:Nat):Int)=(j:Nat)):¬k=j:=fun e=>h (by rw[e])
theorem F1 (ih:G0 n):G0 (n+1):=by
 intro x h O nb v w ss st to hsz hn hO hx hw hl;obtain⟨k,s,kids⟩:=x;simp only[nE] at hsz hl;have hown:=hn.own;have hnb:=hn.blk.lt;obtain⟨w',hw',hkids⟩:=hx.open;have hww:w=w':=by simpa [dY] using hw'
 subst hww
 show ah _ _ #[_,.agg (dY k s w).toArray,_] h _
 replace hkids:bS rM h (eS nb v) w kids:=hkids;obtain⟨oa,kn,kc,rfl,hsl⟩:=hkids.open;refine ah.of func48 rfl rfl ?_;refine xr func48 rfl ?_;refine xo rfl (aA.gu rfl) ?_;rintro _ h1 ⟨rfl,q3,e1,z1⟩;refine xo rfl (aA.gu rfl) ?_;rintro _ h2 ⟨rfl,q4,e2,z2⟩;refine xo rfl (aA.gu rfl) ?_;rintro _ h3 ⟨rfl,q5,e3,z3⟩;have q3:bh h1 h.size 84 [.pointer (some ⟨nb,0,none⟩)]:=q3;have q4:bh h2 h1.size 132 (dY k s (.slice oa kn kc)):=q4;have q5:bh h3 h2.size 3 [.int .i64 (to:Nat)]:=q5;have q3:=(q3.ay e2).ay e3;have q4:=q4.ay e3;have e03:aD h h3:=(e1.trans e2).trans e3;have hn3:cy h3 O nb v ss st:=hn.ay e03 (fun _ _ k=>k);have hO3:∀b,O b->b<h3.size:=fun b hb=>by have:=hO b hb;have:=e03.size;omega
 have nx3:Nx (fun _=>False) nb h v h3 v:=Nx.JK e03;have hsl3:bS rM h3 (eS nb v) (.slice oa kn kc) kids:=hkids.mv nx3.JL
 have hnew3:∀b,h3.size<=b->¬(eS nb v b\/O b):=by
  have hz:=e03.size;rintro b hb ((k1|k1)|k1)
  · omega
  · have:=hown b k1.symm;omega
  · have:=hO b k1;omega
 have hnM:∀b,h.size<=b->¬(eS nb v b\/False):=by
  rintro b hb ((k1|k1)|k1)
  · omega
  · have:=hown b k1.symm;omega
  · exact k1
 have hkn:kids.length=kn:=hsl.len;have hwl:sZ kids=true:=by simp only[sY,Bool.and_eq_true] at hw;exact hw.2
 have hklen:=CN kids;refine aS 1 [0,1,2,3,4,5,6] rfl ?_;refine av rfl ?_;refine xr func48 rfl ?_;refine xp rfl (af (off:=0) underlying132 rfl rfl H.bW rfl) ?_;refine xp rfl (ai H.cM rfl (q4.cell (i:=0) rfl)) ?_;refine xd [0,1,2,3,4,5,6,15] rfl ?_;refine G.block rfl rfl ?_;refine aY func48 2 [0,1,2,3,4,5,6,15,16] rfl ?_;refine aO rfl rfl (fun h1k=>?_) (fun h1k=>?_)
 · obtain rfl:k=1:=by omega
   have hlay:lay (.mk 1 s kids) ss to=(ss++[⟨1,s,[to],0⟩],ss.length):=by rw[lay];simp
   rw[hlay];refine xr func48 rfl ?_;refine xp rfl (ai H.sx rfl (q3.cell (i:=0) rfl)) ?_;refine xp rfl (af (off:=1) underlying132 rfl rfl H.lN rfl) ?_;refine xp rfl (aj.aH H.IZ H.lN rfl (q4.part 1 (ds:=[eW s 0,eW s 1,eW s 2,eW s 3]) (by intro j v hv;match j with| 0=>exact hv| 1=>exact hv| 2=>exact hv| 3=>exact hv|j+4=>simp at hv)) (by first|rfl|(simp;done)|(simp;omega))) ?_;refine xp rfl (ai H.cM rfl (q5.cell (i:=0) rfl)) ?_;refine xo rfl (aA.aW (us:=[_]) underlying127 H.pV rfl rfl (by decide) (by simp[Value.oneCell'])) ?_;rintro _ _ ⟨rfl,rfl⟩;refine xp rfl (aP (H.Ba _ _ _ _ _ _ _ _) rfl) ?_;refine xo rfl (aq (vs:=[_,_]) func49 rfl H.BW rfl (ah.br (zh (O:=O) (x:=⟨1,s,[to],0⟩) (hn3.ay (Ext.push _ _ _) (fun _ _ k=>k)) (fun b hb=>by have:=hO3 b hb;simp;omega) ⟨_,rfl,MF _ to (hnew3 _ (Nat.le_refl _))⟩ (by omega)))) ?_;rintro _ h5 ⟨v',rfl,hn5,nx5⟩;refine aS 1 [0,1,2,3,4,5,6,15,16] rfl ?_;refine G.ret func48 rfl rfl ?_;exact⟨_,rfl,v',rfl,hn5,(nx3.trans (Nx.JK (Ext.push _ _ _)) (fun _ _ k=>k)).trans nx5 (fun _ _ k=>k)⟩
 · have h1k':¬k=1:=kk h1k;refine aY func48 2 [0,1,2,3,4,5,6,15,16,25] rfl ?_;refine aO rfl rfl (fun h2k=>?_) (fun h2k=>?_)
   · obtain rfl:k=2:=by omega
     have hlay:lay (.mk 2 s kids) ss to=bJ kids ss to:=by rw[lay];simp
     rw[hlay];have hz0:=e03.size;refine av rfl ?_;refine xr func48 rfl ?_;refine xp rfl (af (off:=5) underlying132 rfl rfl H.zQ rfl) ?_;refine xp rfl (ai H.vq rfl (q4.cell (i:=5) rfl)) ?_;refine xo rfl (aq (vs:=[_]) func95 rfl H.LK rfl (ah.br (vf (.slice oa kn kc) rfl))) ?_;rintro _ h4 ⟨rfl,hh4⟩;have e4:aD h3 h4:=by rw[hh4];exact Ext.push _ _ _
     have q6:bh h4 h3.size 130 [.slice oa kn kc]:=by rw[hh4];exact Du _ _ _
     have z4:h4.size=h3.size+1:=by rw[hh4];simp
     clear hh4;refine xd [0,1,2,3,4,5,6,15,16,25,29] rfl ?_;refine G.block rfl rfl ?_;refine G.rangeFunc rfl rfl func140 rfl (by decide +kernel) ?_;intro fid tmps hfits;obtain⟨r0,hr0⟩:∃r0,r0=kW fid tmps #[30,31] (Ms (Lw.sub (aL f48) [0,1,0,0,1,1,1,0,1,0,1])) (Mr (Lw.sub (aL f48) [0,1,0,0,1,1,1,0,1,0,1])) h4.size:=⟨_,rfl⟩
     obtain⟨hL,hhL⟩:∃hL,hL=(h4.push (.deferred (some []))).push (.loop r0):=⟨_,rfl⟩
     suffices hmain:ah Tryz.prog 140 #[.func (.yield (h4.size+1)) #[] #[],.pointer (some ⟨h3.size,0,none⟩)] hL _ by rw[hhL,hr0] at hmain;exact hmain
     have hst:r0.state= .ready:=by rw[hr0];rfl
     have hpn:r0.pending=none:=by rw[hr0];rfl
     have hps:r0.params= #[30,31]:=by rw[hr0];rfl
     have htm:r0.tmps=tmps:=by rw[hr0];rfl
     have eL:aD h4 hL:=by rw[hhL];exact(Ext.push _ _ _).trans (Ext.push _ _ _)
     have hLz:hL.size=h4.size+2:=by rw[hhL];simp
     have hloop0:eo hL (h4.size+1) r0:=by
      have hz:h4.size+1=(h4.push (.deferred (some []))).size:=by simp
      rw[eo,hhL,hz];exact Array.getElem?_push_size
     have hdef0:hL[h4.size]? =some (.deferred (some [])):=by
      rw[hhL,(Ext.push (fun _=>False) (h4.push (.deferred (some []))) _).block h4.size (by simp) (fun k=>k)];exact Array.getElem?_push_size
     clear hhL;have e0L:aD h hL:=(e03.trans e4).trans eL;have q3L:=(q3.ay e4).ay eL;have q5L:=(q5.ay e4).ay eL;have q6L:=q6.ay eL;have hnL:cy hL (fun b=>O b\/(h2.size<=b/\b<hL.size)) nb v ss st:=hn.ay e0L (fun b hb k=>k.elim id (fun k=>by omega));have hkL:bS rM hL (fun b=>eS nb v b\/(h2.size<=b/\b<hL.size)) (.slice oa kn kc) kids:=hkids.mv ⟨e0L.size,fun b hb hn=>⟨e0L.block b hb (fun k=>k),fun k=>k.elim hn (fun k=>by omega)⟩⟩;have hdropn:kids.drop kn=[]:=List.drop_of_length_le (by omega);have hJ0:Il nb h2.size h3.size h4.size r0 hL v (.slice oa kn kc) O kids ss st to kn hL:=⟨v,hloop0,hdef0,q6L,by rw[hdropn,bJ];exact hnL,by rw[hdropn,bJ];exact q5L,Nx.refl⟩
     have hvM:∀{v':Value}{g:az},Nx (fun b=>h2.size<=b/\b<hL.size) nb hL v g v'->∀b,h.size<=b->b<hL.size->¬eS nb v' b:=by
      rintro v' g nx b hb hb' (k1|k1)
      · omega
      · rcases nx.own b k1.symm with k2|k2
        · have:=hown b k2;omega
        · omega
     refine suff (p:=∀j g,Il nb h2.size h3.size h4.size r0 hL v (.slice oa kn kc) O kids ss st to (j+1) g->j<kn->∃(b o k s:Nat) (w:Value),oa=some ⟨b,o,none⟩/\Lw.rowAt g b (o+j*6) (dY k s w)/\lE Tryz.prog (h4.size+1) #[.int .i64 (j:Nat),.agg (dY k s w).toArray] g (cT fun r h'=>r= .bool true/\Il nb h2.size h3.size h4.size r0 hL v (.slice oa kn kc) O kids ss st to j h')) ?_ fun hy=>?_
     · intro j g ⟨v',hlp,hdf,hcap,hng,hb5,nxg⟩ hj;obtain⟨x,hx⟩:∃x,kids[j]? =some x:=⟨_,List.getElem?_eq_getElem (by omega)⟩
       have hkg:=hkL.mv nxg.mv;obtain⟨oa',n',c',hv',_,_,_,hget⟩:=id hkg;cases hv';obtain⟨b,o,cs,ha,hob,hrow,hnd⟩:=hget j x hx;obtain⟨w2,rfl,-⟩:=hnd.open;refine⟨b,o,x.kind,x.set,w2,ha,hrow,?_⟩;have hcatd:=AQ hx ss to;have hszx:=E3 hx;have hbl:=ji (kids.drop (j+1)) ss to;have hfit:=AV (p1:=30) (p2:=31) (v1:=.int .i64 (j:Nat)) (v2:=.agg (dY x.kind x.set w2).toArray) hfits rfl rfl;rw[<-hps,<-htm] at hfit;have hvg:=hvM nxg;have hzg:=nxg.ext.size;have q3g:=q3L.ext nxg.ext (fun k=>k.elim (hvM Nx.refl (v':=v) (g:=hL) _ (Nat.le_refl _) (by omega)) (fun k=>by omega));refine lE.of hlp hst (by rw[hps];rfl) hfit ((congrArg Loop.assign hr0).trans rfl) ((congrArg Loop.body hr0).trans rfl) ?_;refine gM.EI rfl rfl rfl rfl rfl (aA.aX H.jS) ?_;rintro _ g1 ⟨rfl,k8,e1',zz1⟩;refine gM.b9 rfl rfl rfl rfl (aA.aC H.cn rfl rfl k8 (by first|rfl|(simp;done)|(simp;omega)) (by first|decide|exact of_decide_eq_true rfl|(simp;done)|(simp;omega)) (b8.one hnd)) ?_;rintro _ g2 ⟨rfl,k8',e2',zz2⟩;refine kG rfl ?_;have e12:aD g g2:=e1'.only e2' (Nat.le_refl _);have k8':bh g2 g.size 132 (dY x.kind x.set w2):=k8';refine⟨(e12.block _ hlp.lt (fun k=>k)).trans hlp,?_⟩;obtain⟨g3,hg3⟩:∃g3,g3=Lw.eR g2 (h4.size+1) (.loop { r0 with state:=.busy }):=⟨_,rfl⟩
       rw[<-hg3];have hlz:=hlp.lt;have hz2:=e12.size;have e23:Ext (fun b=>b=h4.size+1) g2 g3:=by rw[hg3];exact Ext.eR _ _ _ rfl
       have hlp3:eo g3 (h4.size+1) { r0 with state:=.busy }:=by rw[eo,hg3];exact nq (by omega)
       have hz3:=e23.size;have e13:Ext (fun b=>b=h4.size+1) g g3:=(e12.mono fun _ _ k=>k.elim).trans e23;have l3:¬h.size=h4.size+1:=by omega
       have l5:¬h2.size=h4.size+1:=by omega
       have l6:¬h3.size=h4.size+1:=by omega
       have l8:¬g.size=h4.size+1:=by omega
       have ld:¬h4.size=h4.size+1:=by omega
       have q33:=q3g.ext e13 l3;have b53:=hb5.ext e13 l5;have cap3:=hcap.ext e13 l6;have k83:=k8'.ext e23 l8;have hown':∀b,v'.ownBlock=some b->¬b=h4.size+1:=fun b hb k=>hvg b (by omega) (by omega) (.inr hb.symm)
       have hn3g:cy g3 (fun b=>O b\/(h2.size<=b/\b<hL.size)) nb v' (bJ (kids.drop (j+1)) ss to).1 st:=hng.ext e13 (by omega) hown' (fun b _ k=>.inr (by omega)) (fun b _ k=>k);have hnd3:b8 g3 (eS nb v') (dY x.kind x.set w2) x:=hnd.mv ⟨e13.size,fun b hb hn=>⟨e13.block b hb (fun k=>hn (.inr (by omega))),fun k=>hn (.inl k)⟩⟩;refine gM.au rfl rfl rfl rfl rfl (ai H.sx rfl (q33.cell (i:=0) rfl)) ?_;refine gM.au rfl rfl rfl rfl rfl (aj.aH H.eX H.cn rfl k83.row (by first|rfl|(simp;done)|(simp;omega))) ?_;refine gM.au rfl rfl rfl rfl rfl (ai H.cM rfl (b53.cell (i:=0) rfl)) ?_;refine gM.EI rfl rfl rfl rfl rfl (aq (vs:=[_,_,_]) func48 rfl H.DZ rfl (ah.br (ih (x:=x) (O:=fun b=>O b\/(h2.size<=b/\b<hL.size)) (to:=(bJ (kids.drop (j+1)) ss to).2) (by omega) hn3g (fun b hb=>by rcases hb with k|k;(have:=hO b k;omega);omega) hnd3 (xP hwl hx) (by omega)))) ?_;rintro _ g4 ⟨v4,rfl,hn4,nx4⟩;have hM4:∀b,h.size<=b->b<hL.size->¬(eS nb v' b\/False):=fun b h1 h2 k=>k.elim (hvg b h1 h2) id
       have b54:=b53.ext nx4.ext (hM4 _ (by omega) (by omega));refine gM.b9 rfl rfl rfl rfl (aA.bz H.bW rfl rfl b54 (by first|decide|exact of_decide_eq_true rfl|(simp;done)|(simp;omega)) rfl) ?_;rintro _ g5 ⟨rfl,b55,e5',zz5⟩;refine kG rfl ?_;have b55:bh g5 h2.size 3 [.int .i64 ((lay x (bJ (kids.drop (j+1)) ss to).1 (bJ (kids.drop (j+1)) ss to).2).2:Nat)]:=b55;have hz4:=nx4.ext.size;have nx45:Nx (fun b=>h2.size<=b/\b<hL.size) nb g3 v' g5 v4:=⟨⟨by omega,fun b hb hn=>by rw[e5'.block b (by omega) (fun k=>hn (.inr (by omega))),nx4.ext.block b hb (fun k=>hn (k.elim .inl (fun k=>k.elim)))]⟩,nx4.own⟩
       have hlp5:eo g5 (h4.size+1) { r0 with state:=.busy }:=(hlp3.ext nx4.ext (hM4 _ (by omega) (by omega))).ext e5' (fun k=>by omega);have hr2:({ ({ r0 with state:=.busy }:Loop) with state:=.ready,pending:=none }:Loop)=r0:=by cases r0;simp at hst hpn;simp[hst,hpn]
       refine⟨_,hlp5,rfl,?_⟩;rw[hr2];have e56:Ext (fun b=>b=h4.size+1) g5 (Lw.eR g5 (h4.size+1) (.loop r0)):=Ext.eR _ _ _ rfl
       have hown4:∀b,v4.ownBlock=some b->¬b=h4.size+1/\¬b=h2.size:=fun b hb=>by
        rcases nx4.own b hb with k|k
        · exact⟨hown' b k,fun k'=>hvg b (by omega) (by omega) (.inr k.symm)⟩
        · omega
       have hdf5:g5[h4.size]? =some (.deferred (some [])):=by
        rw[e5'.block h4.size (by omega) (by omega),nx4.ext.block h4.size (by omega) (hM4 _ (by omega) (by omega)),e13.block h4.size (by omega) (by omega)];exact hdf
       have cap5:=(cap3.ext nx4.ext (hM4 _ (by omega) (by omega))).ext e5' (by omega);refine⟨v4,nq (by omega),by rw[e56.block h4.size (by omega) (by omega)];exact hdf5,cap5.ext e56 l6,?_,?_,?_⟩
       · rw[hcatd];have hn5:cy g5 (fun b=>O b\/(h2.size<=b/\b<hL.size)) nb v4 (lay x (bJ (kids.drop (j+1)) ss to).1 (bJ (kids.drop (j+1)) ss to).2).1 st:=hn4.ext e5' (by omega) (fun b hb=>(hown4 b hb).2) (fun b _ k=>.inr (by omega)) (fun _ _ k=>k);exact hn5.ext e56 (by omega) (fun b hb=>(hown4 b hb).1) (fun b _ k=>.inr (by omega)) (fun _ _ k=>k)
       · rw[hcatd];exact b55.ext e56 l5
       · exact((nxg.trans ⟨e13.mono (fun b _ k=>.inr (by omega)),fun b k=>.inl k⟩ (fun b _ k=>k)).trans nx45 (fun b _ k=>k)).trans ⟨e56.mono (fun b _ k=>.inr (by omega)),fun b k=>.inl k⟩ (fun b _ k=>k)
     · refine(sw (l:=h4.size+1) (cap:=h3.size) (n:=kn) (c:=kc) (J:=Il nb h2.size h3.size h4.size r0 hL v (.slice oa kn kc) O kids ss st to) (by omega) (fun j g hJ=>by obtain⟨_,_,_,k,_⟩:=hJ;exact k.cell (i:=0) rfl) hy hJ0).mono fun e g hJ=>?_
       obtain⟨u,rfl,v',hlp,hdf,hcap,hng,hb5,nxg⟩:=hJ;rw[List.drop_zero] at hng hb5;refine⟨_,rfl,r0,hlp,by rw[hst];decide,hpn,?_⟩;have hzg:=nxg.ext.size;have hlz:=hlp.lt;have e1:Ext (fun b=>b=h4.size+1) g (Lw.eR g (h4.size+1) (.loop { r0 with state:=.exhausted })):=Ext.eR _ _ _ rfl;have b5e:=hb5.ext e1 (by omega);have hdfe:=(e1.block h4.size (by omega) (by omega)).trans hdf;have hvg:=hvM nxg;refine GD.aQ ?_;refine oP rfl ?_;refine GD.cq func48 rfl ?_;refine jt.au rfl rfl rfl rfl (ai H.cM rfl (b5e.cell (i:=0) rfl)) ?_;refine jt.au rfl rfl rfl rfl (aj.assign rfl) ?_;refine kH rfl ?_;refine GD.sub (ρ':=[(0,_),(1,_),(2,_),(3,_),(4,_),(5,_),(6,_),(15,_),(16,_),(25,_),(29,_)]) ⟨rfl,rfl,rfl,rfl,rfl,rfl,rfl,rfl,rfl,rfl,rfl,trivial⟩ ?_;refine GD.CY func48 rfl hdfe rfl ?_;have e2:Ext (fun b=>b=h4.size) (Lw.eR g (h4.size+1) (.loop { r0 with state:=.exhausted })) (Lw.eR (Lw.eR g (h4.size+1) (.loop { r0 with state:=.exhausted })) h4.size (.deferred none)):=Ext.eR _ _ _ rfl;have e12:Ext (fun b=>b=h4.size+1\/b=h4.size) g _:=(e1.mono fun _ _ k=>.inl k).trans (e2.mono fun _ _ k=>.inr k);have hownv:∀b,v'.ownBlock=some b->¬(b=h4.size+1\/b=h4.size):=fun b hb k=>hvg b (by omega) (by omega) (.inr hb.symm)
       refine⟨_,rfl,v',rfl,hng.ext e12 (by omega) hownv (fun b _ k=>.inr (by omega)) (fun b _ k=>.inl k),?_⟩;have nxe:Nx (fun b=>h2.size<=b) nb h v _ v':=((Nx.JK e0L).trans nxg (fun b _ k=>k.1)).trans ⟨e12.mono (fun b _ k=>.inr k),fun b k=>.inl k⟩ (fun b hb k=>by omega);exact nxe.mono (fun b hb k=>by omega)
   · have h2k':¬k=2:=kk h2k;refine aY func48 2 [0,1,2,3,4,5,6,15,16,25,37] rfl ?_;refine aO rfl rfl (fun h3k=>?_) (fun h3k=>?_)
     · obtain rfl:k=3:=by omega
       have hlay:lay (.mk 3 s kids) ss to=((bA kids ss to).1++[⟨0,0,(bA kids ss to).2,0⟩],(bA kids ss to).1.length):=by rw[lay];simp
       rw[hlay];refine aY func48 1 [0,1,2,3,4,5,6,9,15,16,25,37] rfl ?_;refine av rfl ?_;refine xr func48 rfl ?_;refine xp rfl (af (off:=5) underlying132 rfl rfl H.zQ rfl) ?_;refine xp rfl (ai H.vq rfl (q4.cell (i:=5) rfl)) ?_;refine xp rfl (aj.aK underlying130 rfl) ?_;refine aS 1 [0,1,2,3,4,5,6,9,15,16,25,37,40,41,42] rfl ?_;refine G.block rfl rfl ?_;refine bD (σ:=Nat×Value) (fun p=>[(3,.pointer (some ⟨h.size,0,none⟩)),(5,.pointer (some ⟨h2.size,0,none⟩)),(9,p.2),(40,.slice oa kn kc),(41,.int .i64 (kn:Nat)),(42,.int .i64 (p.1:Nat))]) (fun p h'=>p.1<=kn/\∃v',cy h' (fun b=>O b\/dz p.2.ownBlock b) nb v' (bA (kids.take p.1) ss to).1 st/\dU iC (fun _=>True) h' h3.size 3 p.2 (bA (kids.take p.1) ss to).2/\Nx (fun _=>False) nb h3 v h' v'/\(∀b,p.2.ownBlock=some b->v'.ownBlock≠some b)) (fun p=>kn-p.1) ((0,.slice none 0 0)) rfl ⟨rfl,rfl,rfl,rfl,rfl,rfl,trivial⟩ ⟨Nat.zero_le _,v,by simpa [bA] using hn3.ay (Ext.refl _ _) (fun b _ k=>k.elim id (fun k=>by cases k)),by simpa [bA] using dU.nil iC (fun _=>True) h3 h3.size 3,Nx.refl,fun b hb=>by cases hb⟩ ?_;rintro⟨i,t9⟩ gh ⟨hi,v',hnH,htH,nxH,hdist⟩ ih2
       try dsimp only
       dsimp only at hi hnH htH nxH hdist;have hzH:=nxH.ext.size;have hz0:=e03.size;have q3H:=q3.ext nxH.ext (hnM _ (Nat.le_refl _));have q5H:=q5.ext nxH.ext (hnM _ (by omega));have hslH:bS rM gh (eS nb v') (.slice oa kn kc) kids:=hsl3.mv nxH.JL;have ht9:∀b,t9.ownBlock=some b->h3.size<=b/\b<gh.size:=fun b hb=>by obtain⟨_,_,k,_⟩:=id htH;exact k.lt hb
       have hlenT:(bA (kids.take i) ss to).2.length=i:=by rw[mE,List.length_take];omega
       refine aY func48 1 [3,5,9,40,41,42,43] rfl ?_;refine av rfl ?_;refine aO rfl rfl (fun hlt=>?_) (fun hlt=>?_)
       · have hik:i<kids.length:=by omega
         obtain⟨x,hx⟩:∃x,kids[i]? =some x:=⟨_,List.getElem?_eq_getElem hik⟩
         obtain⟨oa',n',c',hv',_,_,_,hget⟩:=id hslH;cases hv';obtain⟨b,o,cs,ha,hob,hrow,hnd⟩:=hget i x hx;obtain⟨w2,rfl,-⟩:=hnd.open;have hszx:=E2 hx;have hbl:=fB (kids.take i) ss to;refine aB rfl ?_;refine av rfl ?_;refine G.block rfl rfl ?_;refine xr func48 rfl ?_;refine xp rfl (aj.ax underlying130 H.cn rfl rfl i rfl ha (by omega)) ?_;refine xp rfl (aj.aH H.eX H.cn rfl hrow (by first|rfl|(simp;done)|(simp;omega))) ?_;refine xo rfl (aA.aX H.jS) ?_;rintro _ h5 ⟨rfl,q11,e5,z5⟩;refine RW.b9 rfl rfl rfl (aA.aC H.cn rfl rfl q11 (by first|rfl|(simp;done)|(simp;omega)) (by first|decide|exact of_decide_eq_true rfl|(simp;done)|(simp;omega)) (b8.one hnd)) ?_;rintro _ h6 ⟨rfl,q11',e6,z6⟩;have e56:aD gh h6:=e5.only e6 (Nat.le_refl _);have q11':bh h6 gh.size 132 (dY x.kind x.set w2):=q11';have hn6:cy h6 (fun b=>O b\/dz t9.ownBlock b) nb v' (bA (kids.take i) ss to).1 st:=hnH.ay e56 (fun _ _ k=>k);have nx6:Nx (fun _=>False) nb gh v' h6 v':=Nx.JK e56;have hz6:=e56.size;have hnd6:=hnd.mv nx6.JL;refine xd [3,5,9,11,40,41,42,43] rfl ?_;refine G.cq func48 rfl ?_;refine ct 1 rfl rfl (ai H.sx rfl ((q3H.ay e56).cell (i:=0) rfl)) ?_;refine xp rfl (aj.aH H.eX H.cn rfl q11'.row (by first|rfl|(simp;done)|(simp;omega))) ?_;refine xp rfl (ai H.cM rfl ((q5H.ay e56).cell (i:=0) rfl)) ?_;refine xo rfl (aq (vs:=[_,_,_]) func48 rfl H.DZ rfl (ah.br (ih (x:=x) (O:=fun b=>O b\/dz t9.ownBlock b) (to:=to) (by omega) hn6 (fun b hb=>by rcases hb with k|k;(have:=hO3 b k;omega);(have:=ht9 b k.symm;omega)) hnd6 (xP hwl hx) (by omega)))) ?_;rintro _ h7 ⟨v7,rfl,hn7,nx7⟩
         have ht7:dU iC (fun _=>True) h7 h3.size 3 t9 (bA (kids.take i) ss to).2:=(htH.ay e56).pF nx7.ext (fun b hb=>by
          rintro((k1|k1)|k1)
          · have:=ht9 b hb;omega
          · exact hdist b hb k1.symm
          · exact k1) (fun _ _ _=>trivial) (fun _ _ _=>trivial)
         obtain⟨css,hc1,hc2,hc3⟩:=id ht7;have hz7:=nx7.ext.size;refine xo rfl (aA.aW (us:=[_]) underlying127 H.pV rfl rfl (by decide) (by simp[Value.oneCell'])) ?_;rintro _ _ ⟨rfl,rfl⟩;refine xo rfl (aA.bN underlying127 H.pV rfl rfl (hc2) rfl rfl (by first|decide|simp[Value.oneCell']) (by omega) (by decide) (by omega)) ?_;rintro t9' h8 ⟨ho8,hx8,-,hv8⟩;refine aS 1 [3,5,9,11,40,41,42,43] rfl ?_;refine G.aQ ?_;refine G.cq func48 rfl ?_;refine xp rfl (aj.bC rfl rfl ⟨by omega,by omega⟩) ?_;refine aS 1 [3,5,9,11,40,41,42,43] rfl ?_;have ht8:dU iC (fun _=>True) h8 h3.size 3 t9' ((bA (kids.take i) ss to).2++[(lay x (bA (kids.take i) ss to).1 to).2]):=dU.iA hc1 hc3 ho8 hx8 hv8 rfl
         have hn8:cy h8 (fun b=>O b\/dz t9'.ownBlock b) nb v7 (lay x (bA (kids.take i) ss to).1 to).1 st:=hn7.ext hx8 (fun k=>by have:=ht9 nb k.symm;omega) (fun b hb k=>by
          rcases nx7.own b hb with k'|k'
          · exact hdist b k.symm k'
          · have:=ht9 b k.symm;omega) (fun b _ k=>.inr k) (fun b hb k=>k.imp id (fun k=>by
            rcases hv8 b k.symm with k'|k'
            · exact k'.symm
            · omega))
         have hd8:∀b,t9'.ownBlock=some b->v7.ownBlock≠some b:=fun b hb k=>by
          rcases hv8 b hb with k'|k'
          · rcases nx7.own b k with k2|k2
            · exact hdist b k' k2
            · have:=ht9 b k';omega
          · have:=(hn7.own b k).2;omega
         exact ih2 (i+1,t9') _ _ ⟨rfl,rfl,rfl,rfl,rfl,rfl,trivial⟩ ⟨by show i+1<=kn;omega,v7,by rw[rF hx];exact hn8,by rw[rF hx];exact ht8,⟨⟨by have:=hx8.size;omega,fun b hb hn=>by rw[hx8.block b (by omega) (fun k=>by have:=ht9 b k.symm;omega)];exact((nxH.trans nx6 (fun _ _ k=>k)).trans nx7 (fun _ _ k=>k)).ext.block b hb hn⟩,((nxH.trans nx6 (fun _ _ k=>k)).trans nx7 (fun _ _ k=>k)).own⟩,hd8⟩ (by show kn-(i+1)<kn-i;omega)
       · obtain rfl:i=kn:=by omega
         have hall:kids.take i=kids:=List.take_of_length_le (by omega);rw[hall] at hnH htH hlenT;have hbl:=fB kids ss to
         have hrd:bS iC gh (fun b=>eS nb v' b\/O b) t9 (bA kids ss to).2:=htH.C0 (fun b hb=>by
          rintro((k1|k1)|k1)
          · have:=ht9 b hb;omega
          · exact hdist b hb k1.symm
          · have:=ht9 b hb;have:=hO3 b k1;omega) (fun _ _ _=>trivial)
         obtain⟨oa9,n9,c9,rfl,_⟩:=id hrd;refine bw rfl rfl ?_;refine xr func48 rfl ?_;refine xp rfl (ai H.sx rfl (q3H.cell (i:=0) rfl)) ?_;refine ct 1 rfl rfl (aP (H.zc _ _ _) rfl) ?_;refine xo rfl (aq (vs:=[_,_]) func49 rfl H.BW rfl (ah.br (mT (O:=O) (hnH.ay (Ext.refl _ _) (fun b _ k=>.inl k)) (fun b hb=>by have:=hO3 b hb;omega) hrd (by omega)))) ?_;rintro _ h5 ⟨v5,rfl,hn5,nx5⟩;refine aS 1 [3,5,6,9,40,41,42,43] rfl ?_;refine G.ret func48 rfl rfl ?_;exact⟨_,rfl,v5,rfl,hn5,(nx3.trans nxH (fun _ _ k=>k)).trans nx5 (fun _ _ k=>k)⟩
     · have h3k':¬k=3:=kk h3k;refine aY func48 2 [0,1,2,3,4,5,6,15,16,25,37,58] rfl ?_;refine aO rfl rfl (fun h6k=>?_) (fun h6k=>?_)
       · obtain rfl:k=6:=by omega
         have hone:kids.length=1:=by simp[sY] at hw;exact hw.1
         obtain⟨x,rfl⟩:∃x,kids=[x]:=by match kids,hone with| [x],_=>exact⟨x,rfl⟩
         have hkn1:kn=1:=by simpa using hkn.symm
         have hszx:nE x<=gD [x]:=by simp[gD]
         have hwx:sY x=true:=by simpa [sZ] using hwl
         have hlay:lay (.mk 6 s [x]) ss to=((lay x ss to).1++[⟨0,0,[(lay x ss to).2,to],0⟩],(lay x ss to).1.length):=by rw[lay];simp[cC]
         rw[hlay];have hz0:=e03.size;obtain⟨oa',n',c',hv',_,_,_,hget⟩:=id hsl3;cases hv';obtain⟨b,o,cs,ha,hob,hrow,hnd⟩:=hget 0 x rfl;obtain⟨w2,rfl,-⟩:=hnd.open
         have hnM3:∀b,h.size<=b->b<h3.size->¬(eS nb v b\/h3.size<=b):=by
          rintro b hb hb' ((k1|k1)|k1)
          · omega
          · have:=hown b k1.symm;omega
          · omega
         have hbM:¬(eS nb v b\/h3.size<=b):=by
          rintro(k1|k1)
          · exact hob k1
          · have:=gx hrow (by simp[dY]);omega
         have m3:=hnM3 h.size (Nat.le_refl _) (by omega);have m4:=hnM3 h1.size (by omega) (by omega);have m5:=hnM3 h2.size (by omega) (by omega);have hlenx:=fT x ss to;refine av rfl ?_;refine bU (fun b=>eS nb v b\/Array.size h3<=b) (fun i=>Nat.blt i 13) (sz:=13) (listed:= #[false,false,false,false,false,false,false,false,false,false,false,false,false]) func48 H.mixed rfl rfl rfl ?_;refine bM 0 1 (by kernel_rfl) rfl (fun h' e=>ai H.sx rfl (e.cell m3 (q3.cell (i:=0) rfl))) ?_;refine bM 1 3 (by kernel_rfl) rfl (fun h' e=>ai H.sx rfl (e.cell m3 (q3.cell (i:=0) rfl))) ?_;refine bM 2 7 (by kernel_rfl) rfl (fun h' e=>af (off:=5) underlying132 rfl rfl H.zQ rfl) ?_;refine bM 3 15 (by kernel_rfl) rfl (fun h' e=>ai H.vq rfl (e.cell m4 (q4.cell (i:=5) rfl))) ?_;refine bM 4 31 (by kernel_rfl) rfl (fun h' e=>aj.ax underlying130 H.cn rfl rfl 0 rfl ha (by omega)) ?_;refine bM 5 63 (by kernel_rfl) rfl (fun h' e=>aj.aH H.eX H.cn rfl (e.rowAt hbM hrow) (by first|rfl|(simp;done)|(simp;omega))) ?_;refine bM 6 127 (by kernel_rfl) rfl (fun h' e=>ai H.cM rfl (e.cell m5 (q5.cell (i:=0) rfl))) ?_;refine bM 8 383 (by kernel_rfl) rfl (fun h' e=>ai H.cM rfl (e.cell m5 (q5.cell (i:=0) rfl))) ?_;refine eP 7 511 (by kernel_rfl) rfl (aq (vs:=[_,_,_]) func48 rfl H.DZ rfl (ah.br (ih (x:=x) (O:=O) (to:=to) (by omega) hn3 hO3 hnd hwx (by omega)))) ?_;rintro _ h5 ⟨v5,rfl,hn5,nx5⟩;refine⟨fun _=>nx5.ext.mono (fun b _ k=>k.elim .inl (fun k=>k.elim)),?_⟩;have hz5:=nx5.ext.size;have hown5:=hn5.own
         have hnew5:∀t,bS iC (h5.push (.cells #[.int .i64 ((lay x ss to).2:Nat),.int .i64 (to:Nat)] t)) (fun b=>eS nb v5 b\/O b) (.slice (some ⟨h5.size,0,none⟩) 2 2) [(lay x ss to).2,to]:=fun t=>Ly t _ _ (by
          rintro((k1|k1)|k1)
          · omega
          · have:=hown5 _ k1.symm;omega
          · have:=hO3 _ k1;omega)
         refine eP 9 1023 (by kernel_rfl) rfl (aA.aW (us:=[_,_]) underlying127 H.pV rfl rfl (by decide) (by simp[Value.oneCell'])) ?_;rintro _ _ ⟨rfl,rfl⟩;refine⟨fun _=>by first|exact Ext.push _ _ _|assumption,?_⟩;refine bM 10 2047 (by kernel_rfl) rfl (fun h' e=>aP (H.zc _ _ _) rfl) ?_;refine eP 11 4095 (by kernel_rfl) rfl (aq (vs:=[_,_]) func49 rfl H.BW rfl (ah.br (mT (O:=O) (hn5.ay (Ext.push _ _ _) (fun _ _ k=>k)) (fun b hb=>by have:=hO3 b hb;simp;omega) (hnew5 _) (by omega)))) ?_;rintro _ h6 ⟨v6,rfl,hn6,nx6⟩;refine⟨fun _=>nx6.ext.mono (fun b _ k=>by rcases k with (k1|k1)|k1;(exact .inl (.inl k1));(rcases nx5.own b k1.symm with k2|k2;(exact .inl (.inr k2.symm));exact .inr k2);exact k1.elim),?_⟩;refine cJ 12 8191 (by kernel_rfl) rfl ?_;refine bB (by kernel_rfl) ?_;refine xu [0,1,2,3,4,5,6,15,16,25,37,58] rfl ?_;refine G.ret func48 rfl rfl ?_;exact⟨_,rfl,v6,rfl,hn6,((nx3.trans nx5 (fun _ _ k=>k)).trans (Nx.JK (Ext.push _ _ _)) (fun _ _ k=>k)).trans nx6 (fun _ _ k=>k)⟩
       · have h6k':¬k=6:=kk h6k;refine av rfl ?_;refine aY func48 2 [0,1,2,3,4,5,6,15,16,25,37,58,72] rfl ?_;refine aO rfl rfl (fun h4k=>?_) (fun h4k=>?_)
         · obtain rfl:k=4:=by omega
           have hone:kids.length=1:=by simp[sY] at hw;exact hw.1
           obtain⟨x,rfl⟩:∃x,kids=[x]:=by match kids,hone with| [x],_=>exact⟨x,rfl⟩
           have hkn1:kn=1:=by simpa using hkn.symm
           have hszx:nE x<=gD [x]:=by simp[gD]
           have hwx:sY x=true:=by simpa [sZ] using hwl
           have hlay:lay (.mk 4 s [x]) ss to=((lay x (ss++[⟨0,0,[],0⟩]) ss.length).1.set ss.length ⟨0,0,[(lay x (ss++[⟨0,0,[],0⟩]) ss.length).2,to],0⟩,ss.length):=by rw[lay];simp[cC]
           rw[hlay];refine aB rfl ?_;refine aG rfl rfl (fun _=>?_) (fun hc=>absurd hc (by simp));refine xr func48 rfl ?_;refine xp rfl (ai H.sx rfl (q3.cell (i:=0) rfl)) ?_;refine xp rfl (aP (H.GJ ) rfl) ?_;refine xo rfl (aq (vs:=[_,_]) func49 rfl H.BW rfl (ah.br (mT (O:=O) (to:=[]) hn3 hO3 (bS.nil _ _ _) (by omega)))) ?_;rintro _ h5 ⟨v5,rfl,hn5,nx5⟩;have hz5:=nx5.ext.size;have hz0:=e03.size;have q3':=q3.ext nx5.ext (hnM _ (Nat.le_refl _));have q4':=q4.ext nx5.ext (hnM _ (by omega));have q5':=q5.ext nx5.ext (hnM _ (by omega));have hsl5:bS rM h5 (eS nb v5) (.slice oa kn kc) [x]:=hsl3.mv nx5.JL;obtain⟨oa',n',c',hv',_,_,_,hget⟩:=id hsl5;cases hv';obtain⟨b,o,cs,ha,hob,hrow,hnd⟩:=hget 0 x rfl;obtain⟨w2,rfl,-⟩:=hnd.open;have hown5:=hn5.own
           have hnM5:∀b,h.size<=b->b<h3.size->¬(eS nb v5 b\/h5.size<=b):=by
            rintro b hb hb' ((k1|k1)|k1)
            · omega
            · rcases nx5.own b k1.symm with k2|k2
              · have:=hown b k2;omega
              · omega
            · omega
           have hbM:¬(eS nb v5 b\/h5.size<=b):=by
            rintro(k1|k1)
            · exact hob k1
            · have:=gx hrow (by simp[dY]);omega
           have m3:=hnM5 h.size (Nat.le_refl _) (by omega);have m4:=hnM5 h1.size (by omega) (by omega);refine aS 1 [0,1,2,3,4,5,6,12,15,16,25,37,58,72] rfl ?_;refine av rfl ?_;refine bU (fun b=>eS nb v5 b\/Array.size h5<=b) (fun i=>Nat.blt i 8) (sz:=8) (listed:= #[false,false,false,false,false,false,false,false]) func48 H.mixed rfl rfl rfl ?_;refine bM 0 1 (by kernel_rfl) rfl (fun h' e=>ai H.sx rfl (e.cell m3 (q3'.cell (i:=0) rfl))) ?_;refine bM 1 3 (by kernel_rfl) rfl (fun h' e=>af (off:=5) underlying132 rfl rfl H.zQ rfl) ?_;refine bM 2 7 (by kernel_rfl) rfl (fun h' e=>ai H.vq rfl (e.cell m4 (q4'.cell (i:=5) rfl))) ?_;refine bM 3 15 (by kernel_rfl) rfl (fun h' e=>aj.ax underlying130 H.cn rfl rfl 0 rfl ha (by omega)) ?_;refine bM 4 31 (by kernel_rfl) rfl (fun h' e=>aj.aH H.eX H.cn rfl (e.rowAt hbM hrow) (by first|rfl|(simp;done)|(simp;omega))) ?_;refine cJ 5 63 (by kernel_rfl) rfl ?_;refine eP 6 127 (by kernel_rfl) rfl (aq (vs:=[_,_,_]) func48 rfl H.DZ rfl (ah.br (ih (x:=x) (O:=O) (to:=ss.length) (by omega) hn5 (fun b hb=>by have:=hO3 b hb;omega) hnd hwx (by simp;omega)))) ?_;rintro _ h6 ⟨v6,rfl,hn6,nx6⟩;refine⟨fun _=>nx6.ext.mono (fun b _ k=>k.elim .inl (fun k=>k.elim)),?_⟩;have hz6:=nx6.ext.size;have nx36:=nx5.trans nx6 (fun _ _ k=>k);have q3':=q3.ext nx36.ext (hnM _ (Nat.le_refl _));have q4':=q4.ext nx36.ext (hnM _ (by omega));have q5':=q5.ext nx36.ext (hnM _ (by omega));have hown6:=hn6.own;have hlen6:=fT x (ss++[⟨0,0,[],0⟩]) ss.length;rw[List.length_append,List.length_singleton] at hlen6;have hpre:(lay x (ss++[⟨0,0,[],0⟩]) ss.length).1[ss.length]? =some ⟨0,0,[],0⟩:=by rw[kZ x _ _ _ (by simp)];simp
           have hn6c:=hn6.blk.cell (i:=0) rfl
           have hnM6:∀b,h.size<=b->b<h3.size->¬(eS nb v6 b\/h6.size<=b):=by
            rintro b hb hb' ((k1|k1)|k1)
            · omega
            · rcases nx36.own b k1.symm with k2|k2
              · have:=hown b k2;omega
              · omega
            · omega
           have hnew6:∀t,bS iC (h6.push (.cells #[.int .i64 ((lay x (ss++[⟨0,0,[],0⟩]) ss.length).2:Nat),.int .i64 (to:Nat)] t)) (fun b=>dz v6.ownBlock b\/b=nb\/O b) (.slice (some ⟨h6.size,0,none⟩) 2 2) [(lay x (ss++[⟨0,0,[],0⟩]) ss.length).2,to]:=fun t=>Ly t _ _ (by
            rintro(k1|k1|k1)
            · have:=hown6 _ k1.symm;omega
            · omega
            · have:=hO3 _ k1;omega)
           generalize hout:lay x (ss++[⟨0,0,[],0⟩]) ss.length=out at *;have hn7:cy (h6.push (.cells #[.int .i64 (out.2:Nat),.int .i64 (to:Nat)] 3)) O nb v6 out.1 st:=hn6.ay (Ext.push _ _ _) (fun _ _ k=>k);obtain⟨g,c6,cs6,hv6,hg1,hg2,hg3,hg4,hg5,hg6⟩:=hn7.row.put hpre;obtain⟨w6,rfl,_⟩:=hg5;subst hv6;have hput:=hg6 5 (.slice (some ⟨h6.size,0,none⟩) 2 2) ⟨0,0,[out.2,to],0⟩ (by decide) ⟨_,rfl,hnew6 _⟩;have hgb:h6.size=g\/g<h6.size:=by have:=hown6 g rfl;omega
           have hg6':g<h6.size:=(hown6 g rfl).2;have hcell7:cellAt (h6.push (.cells #[.int .i64 (out.2:Nat),.int .i64 (to:Nat)] 3)) ⟨g,0+ss.length*7+5,none⟩=some w6:=hg3 5 _ rfl;have m6:=hnM6 h1.size (by omega) (by omega);have j4:¬h1.size=g:=fun k=>m6 (.inl (.inr (by rw[k];rfl)))
           have j3:¬h6.size<=h.size:=by omega
           have j0:¬h6.size<=nb:=by omega
           have j5:¬h6.size<=h2.size:=by omega
           refine cJ 7 255 (by kernel_rfl) rfl ?_;refine bB (by kernel_rfl) ?_;refine xu [0,1,2,3,4,5,6,12,13,15,16,25,37,58,72] rfl ?_;refine av rfl ?_;refine bU (fun b=>Array.size h6<=b) (fun i=>Nat.blt i 10) (sz:=11) (listed:= #[false,false,false,false,false,false,false,false,false,false,false]) func48 H.mixed rfl rfl rfl ?_;refine bM 0 1 (by kernel_rfl) rfl (fun h' e=>ai H.sx rfl (e.cell j3 (q3'.cell (i:=0) rfl))) ?_;refine cJ 1 3 (by kernel_rfl) rfl ?_;refine bM 2 7 (by kernel_rfl) rfl (fun h' e=>af (off:=0) underlying126 rfl rfl H.gG rfl) ?_;refine bM 3 15 (by kernel_rfl) rfl (fun h' e=>ai H.iz rfl (e.cell j0 hn6c)) ?_;refine cJ 4 31 (by kernel_rfl) rfl ?_;refine cJ 5 63 (by kernel_rfl) rfl ?_;refine bM 6 127 (by kernel_rfl) rfl (fun h' e=>ai H.cM rfl (e.cell j5 (q5'.cell (i:=0) rfl))) ?_;refine eP 7 255 (by kernel_rfl) rfl (aA.aW (us:=[_,_]) underlying127 H.pV rfl rfl (by decide) (by simp[Value.oneCell'])) ?_;rintro _ _ ⟨rfl,rfl⟩;refine⟨fun _=>by first|exact Ext.push _ _ _|assumption,?_⟩;refine eP 8 511 (by kernel_rfl) rfl (aj.br (aj.ax underlying124 H.lM rfl rfl ss.length rfl rfl (by omega))) ?_;rintro _ hq_ ⟨rfl,hqe_⟩;replace hqe_:=hqe_.symm;subst hqe_;refine⟨fun _=>Ext.refl _ _,?_⟩;refine bM 9 1023 (by kernel_rfl) rfl (fun h' e=>af (off:=5) underlying138 rfl rfl H.gN rfl) ?_;refine lW 10 2047 (by kernel_rfl) rfl (cF H.gN rfl rfl rfl hcell7 (hg4 _)) ?_;rintro _ _ ⟨rfl,rfl⟩;refine⟨fun hk=>(nomatch hk),?_⟩;refine bB (by kernel_rfl) ?_;refine xu [0,1,2,3,4,5,6,12,13,15,16,25,37,58,72] rfl ?_;refine av rfl ?_;refine xr func48 rfl ?_;refine xp rfl (af (off:=0) underlying132 rfl rfl H.bW rfl) ?_;have hz7:∀u,(eB (h6.push (.cells #[.int .i64 (out.2:Nat),.int .i64 (to:Nat)] 3)) ⟨g,0+ss.length*7+5,none⟩ u).size=h6.size+1:=fun u=>by rw[iS];simp
           have ex7:∀u,Ext (fun b=>b=g) h6 (eB (h6.push (.cells #[.int .i64 (out.2:Nat),.int .i64 (to:Nat)] 3)) ⟨g,0+ss.length*7+5,none⟩ u):=fun u=>⟨by rw[hz7];omega,fun b hb hn=>by rw[(Ext.eB (M:=fun b=>b=g) _ _ u rfl).block b (by simp;omega) hn,(Ext.push (fun _=>False) h6 _).block b hb (fun k=>k)]⟩
           refine xp rfl (ai H.cM rfl ((q4'.ext (ex7 _) j4).cell (i:=0) rfl)) ?_;refine aS 1 [0,1,2,3,4,5,6,12,13,15,16,25,37,58,72,97] rfl ?_;refine aG rfl rfl (fun hc=>absurd hc (by decide)) (fun _=>?_);refine aB rfl ?_;refine aY func48 2 [0,1,2,3,4,5,6,12,13,15,16,25,37,58,72,97] rfl ?_;refine G.ret func48 rfl rfl ?_;exact⟨_,rfl,_,rfl,⟨hn6.blk.ext (ex7 _) (by have:=hown6 g rfl;omega),hput⟩,((nx3.trans nx36 (fun _ _ k=>k)).trans ⟨(ex7 _).mono (fun b _ k=>.inl (.inr (by rw[k];rfl))),fun b k=>.inl k⟩ (fun _ _ k=>k))⟩
         · have h4k':¬k=4:=kk h4k;refine G.cq func48 rfl ?_;refine aS 2 [0,1,2,3,4,5,6,15,16,25,37,58,72] rfl ?_;refine aO rfl rfl (fun h5k=>?_) (fun h5k=>?_)
           · obtain rfl:k=5:=by omega
             have hone:kids.length=1:=by simp[sY] at hw;exact hw.1
             obtain⟨x,rfl⟩:∃x,kids=[x]:=by match kids,hone with| [x],_=>exact⟨x,rfl⟩
             have hkn1:kn=1:=by simpa using hkn.symm
             have hszx:nE x<=gD [x]:=by simp[gD]
             have hwx:sY x=true:=by simpa [sZ] using hwl
             have hlay:lay (.mk 5 s [x]) ss to=((lay x (ss++[⟨0,0,[],0⟩]) ss.length).1.set ss.length ⟨0,0,[(lay x (ss++[⟨0,0,[],0⟩]) ss.length).2,to],0⟩,(lay x (ss++[⟨0,0,[],0⟩]) ss.length).2):=by rw[lay];simp[cC]
             rw[hlay];refine xr func48 rfl ?_;refine xp rfl (ai H.sx rfl (q3.cell (i:=0) rfl)) ?_;refine xp rfl (aP (H.GJ ) rfl) ?_;refine xo rfl (aq (vs:=[_,_]) func49 rfl H.BW rfl (ah.br (mT (O:=O) (to:=[]) hn3 hO3 (bS.nil _ _ _) (by omega)))) ?_;rintro _ h5 ⟨v5,rfl,hn5,nx5⟩;have hz5:=nx5.ext.size;have hz0:=e03.size;have q3':=q3.ext nx5.ext (hnM _ (Nat.le_refl _));have q4':=q4.ext nx5.ext (hnM _ (by omega));have q5':=q5.ext nx5.ext (hnM _ (by omega));have hsl5:bS rM h5 (eS nb v5) (.slice oa kn kc) [x]:=hsl3.mv nx5.JL;obtain⟨oa',n',c',hv',_,_,_,hget⟩:=id hsl5;cases hv';obtain⟨b,o,cs,ha,hob,hrow,hnd⟩:=hget 0 x rfl;obtain⟨w2,rfl,-⟩:=hnd.open;have hown5:=hn5.own
             have hnM5:∀b,h.size<=b->b<h3.size->¬(eS nb v5 b\/h5.size<=b):=by
              rintro b hb hb' ((k1|k1)|k1)
              · omega
              · rcases nx5.own b k1.symm with k2|k2
                · have:=hown b k2;omega
                · omega
              · omega
             have hbM:¬(eS nb v5 b\/h5.size<=b):=by
              rintro(k1|k1)
              · exact hob k1
              · have:=gx hrow (by simp[dY]);omega
             have m3:=hnM5 h.size (Nat.le_refl _) (by omega);have m4:=hnM5 h1.size (by omega) (by omega);refine aS 1 [0,1,2,3,4,5,6,12,15,16,25,37,58,72] rfl ?_;refine av rfl ?_;refine bU (fun b=>eS nb v5 b\/Array.size h5<=b) (fun i=>Nat.blt i 8) (sz:=8) (listed:= #[false,false,false,false,false,false,false,false]) func48 H.mixed rfl rfl rfl ?_;refine bM 0 1 (by kernel_rfl) rfl (fun h' e=>ai H.sx rfl (e.cell m3 (q3'.cell (i:=0) rfl))) ?_;refine bM 1 3 (by kernel_rfl) rfl (fun h' e=>af (off:=5) underlying132 rfl rfl H.zQ rfl) ?_;refine bM 2 7 (by kernel_rfl) rfl (fun h' e=>ai H.vq rfl (e.cell m4 (q4'.cell (i:=5) rfl))) ?_;refine bM 3 15 (by kernel_rfl) rfl (fun h' e=>aj.ax underlying130 H.cn rfl rfl 0 rfl ha (by omega)) ?_;refine bM 4 31 (by kernel_rfl) rfl (fun h' e=>aj.aH H.eX H.cn rfl (e.rowAt hbM hrow) (by first|rfl|(simp;done)|(simp;omega))) ?_;refine cJ 5 63 (by kernel_rfl) rfl ?_;refine eP 6 127 (by kernel_rfl) rfl (aq (vs:=[_,_,_]) func48 rfl H.DZ rfl (ah.br (ih (x:=x) (O:=O) (to:=ss.length) (by omega) hn5 (fun b hb=>by have:=hO3 b hb;omega) hnd hwx (by simp;omega)))) ?_;rintro _ h6 ⟨v6,rfl,hn6,nx6⟩;refine⟨fun _=>nx6.ext.mono (fun b _ k=>k.elim .inl (fun k=>k.elim)),?_⟩;have hz6:=nx6.ext.size;have nx36:=nx5.trans nx6 (fun _ _ k=>k);have q3':=q3.ext nx36.ext (hnM _ (Nat.le_refl _));have q4':=q4.ext nx36.ext (hnM _ (by omega));have q5':=q5.ext nx36.ext (hnM _ (by omega));have hown6:=hn6.own;have hlen6:=fT x (ss++[⟨0,0,[],0⟩]) ss.length;rw[List.length_append,List.length_singleton] at hlen6;have hpre:(lay x (ss++[⟨0,0,[],0⟩]) ss.length).1[ss.length]? =some ⟨0,0,[],0⟩:=by rw[kZ x _ _ _ (by simp)];simp
             have hn6c:=hn6.blk.cell (i:=0) rfl
             have hnM6:∀b,h.size<=b->b<h3.size->¬(eS nb v6 b\/h6.size<=b):=by
              rintro b hb hb' ((k1|k1)|k1)
              · omega
              · rcases nx36.own b k1.symm with k2|k2
                · have:=hown b k2;omega
                · omega
              · omega
             have hnew6:∀t,bS iC (h6.push (.cells #[.int .i64 ((lay x (ss++[⟨0,0,[],0⟩]) ss.length).2:Nat),.int .i64 (to:Nat)] t)) (fun b=>dz v6.ownBlock b\/b=nb\/O b) (.slice (some ⟨h6.size,0,none⟩) 2 2) [(lay x (ss++[⟨0,0,[],0⟩]) ss.length).2,to]:=fun t=>Ly t _ _ (by
              rintro(k1|k1|k1)
              · have:=hown6 _ k1.symm;omega
              · omega
              · have:=hO3 _ k1;omega)
             generalize hout:lay x (ss++[⟨0,0,[],0⟩]) ss.length=out at *;have hn7:cy (h6.push (.cells #[.int .i64 (out.2:Nat),.int .i64 (to:Nat)] 3)) O nb v6 out.1 st:=hn6.ay (Ext.push _ _ _) (fun _ _ k=>k);obtain⟨g,c6,cs6,hv6,hg1,hg2,hg3,hg4,hg5,hg6⟩:=hn7.row.put hpre;obtain⟨w6,rfl,_⟩:=hg5;subst hv6;have hput:=hg6 5 (.slice (some ⟨h6.size,0,none⟩) 2 2) ⟨0,0,[out.2,to],0⟩ (by decide) ⟨_,rfl,hnew6 _⟩;have hgb:h6.size=g\/g<h6.size:=by have:=hown6 g rfl;omega
             have hg6':g<h6.size:=(hown6 g rfl).2;have hcell7:cellAt (h6.push (.cells #[.int .i64 (out.2:Nat),.int .i64 (to:Nat)] 3)) ⟨g,0+ss.length*7+5,none⟩=some w6:=hg3 5 _ rfl;have m6:=hnM6 h1.size (by omega) (by omega);have j4:¬h1.size=g:=fun k=>m6 (.inl (.inr (by rw[k];rfl)))
             have j3:¬h6.size<=h.size:=by omega
             have j0:¬h6.size<=nb:=by omega
             have j5:¬h6.size<=h2.size:=by omega
             refine cJ 7 255 (by kernel_rfl) rfl ?_;refine bB (by kernel_rfl) ?_;refine xu [0,1,2,3,4,5,6,12,13,15,16,25,37,58,72] rfl ?_;refine av rfl ?_;refine bU (fun b=>Array.size h6<=b) (fun i=>Nat.blt i 10) (sz:=11) (listed:= #[false,false,false,false,false,false,false,false,false,false,false]) func48 H.mixed rfl rfl rfl ?_;refine bM 0 1 (by kernel_rfl) rfl (fun h' e=>ai H.sx rfl (e.cell j3 (q3'.cell (i:=0) rfl))) ?_;refine cJ 1 3 (by kernel_rfl) rfl ?_;refine bM 2 7 (by kernel_rfl) rfl (fun h' e=>af (off:=0) underlying126 rfl rfl H.gG rfl) ?_;refine bM 3 15 (by kernel_rfl) rfl (fun h' e=>ai H.iz rfl (e.cell j0 hn6c)) ?_;refine cJ 4 31 (by kernel_rfl) rfl ?_;refine cJ 5 63 (by kernel_rfl) rfl ?_;refine bM 6 127 (by kernel_rfl) rfl (fun h' e=>ai H.cM rfl (e.cell j5 (q5'.cell (i:=0) rfl))) ?_;refine eP 7 255 (by kernel_rfl) rfl (aA.aW (us:=[_,_]) underlying127 H.pV rfl rfl (by decide) (by simp[Value.oneCell'])) ?_;rintro _ _ ⟨rfl,rfl⟩;refine⟨fun _=>by first|exact Ext.push _ _ _|assumption,?_⟩;refine eP 8 511 (by kernel_rfl) rfl (aj.br (aj.ax underlying124 H.lM rfl rfl ss.length rfl rfl (by omega))) ?_;rintro _ hq_ ⟨rfl,hqe_⟩;replace hqe_:=hqe_.symm;subst hqe_;refine⟨fun _=>Ext.refl _ _,?_⟩;refine bM 9 1023 (by kernel_rfl) rfl (fun h' e=>af (off:=5) underlying138 rfl rfl H.gN rfl) ?_;refine lW 10 2047 (by kernel_rfl) rfl (cF H.gN rfl rfl rfl hcell7 (hg4 _)) ?_;rintro _ _ ⟨rfl,rfl⟩;refine⟨fun hk=>(nomatch hk),?_⟩;refine bB (by kernel_rfl) ?_;refine xu [0,1,2,3,4,5,6,12,13,15,16,25,37,58,72] rfl ?_;refine av rfl ?_;refine xr func48 rfl ?_;refine xp rfl (af (off:=0) underlying132 rfl rfl H.bW rfl) ?_;have hz7:∀u,(eB (h6.push (.cells #[.int .i64 (out.2:Nat),.int .i64 (to:Nat)] 3)) ⟨g,0+ss.length*7+5,none⟩ u).size=h6.size+1:=fun u=>by rw[iS];simp
             have ex7:∀u,Ext (fun b=>b=g) h6 (eB (h6.push (.cells #[.int .i64 (out.2:Nat),.int .i64 (to:Nat)] 3)) ⟨g,0+ss.length*7+5,none⟩ u):=fun u=>⟨by rw[hz7];omega,fun b hb hn=>by rw[(Ext.eB (M:=fun b=>b=g) _ _ u rfl).block b (by simp;omega) hn,(Ext.push (fun _=>False) h6 _).block b hb (fun k=>k)]⟩
             refine xp rfl (ai H.cM rfl ((q4'.ext (ex7 _) j4).cell (i:=0) rfl)) ?_;refine aS 1 [0,1,2,3,4,5,6,12,13,15,16,25,37,58,72,97] rfl ?_;refine aG rfl rfl (fun _=>?_) (fun hc=>absurd hc (by decide));refine aY func48 2 [0,1,2,3,4,5,6,12,13,15,16,25,37,58,72,97] rfl ?_;refine G.ret func48 rfl rfl ?_;exact⟨_,rfl,_,rfl,⟨hn6.blk.ext (ex7 _) (by have:=hown6 g rfl;omega),hput⟩,((nx3.trans nx36 (fun _ _ k=>k)).trans ⟨(ex7 _).mono (fun b _ k=>.inl (.inr (by rw[k];rfl))),fun b k=>.inl k⟩ (fun _ _ k=>k))⟩
           · have h5k':¬k=5:=kk h5k;have hlay:lay (.mk k s kids) ss to=(ss,to):=by rw[lay];simp[h1k',h2k',h3k',h4k',h5k',h6k']
             rw[hlay];refine aB rfl ?_;refine G.aQ ?_;refine xr func48 rfl ?_;refine xp rfl (ai H.cM rfl (q5.cell (i:=0) rfl)) ?_;refine aS 1 [0,1,2,3,4,5,6,15,16,25,37,58,72] rfl ?_;refine G.ret func48 rfl rfl ?_;exact⟨_,rfl,v,rfl,hn3,nx3⟩
theorem F0:∀n,G0 n
 | 0=>by
  intro hs;have:=CM ‹Nd›;omega
 |n+1=>F1 (F0 n)
def mK:gQ By:=.flat (fun s=>.string (bs s)) fun _=>rfl
def xH (h h':az) (rules:List By) (r:Value):Prop :=
 match fk rules with
 |.inl e=>r= .tuple #[.pointer none,.int .i64 e]
 |.inr (ss,st)=>∃nb v,r= .tuple #[.pointer (some ⟨nb,0,none⟩),.int .i64 0]/\h.size<=nb/\cy h' (fun b=>b<h.size) nb v ss st
theorem GU {ss:List bK}(i:Nat) (hn:cy h O nb v ss st) (hO:∀b,O b->b<h.size) (hl:ss.length<=1000000) :
 ah Tryz.prog 49 #[.pointer (some ⟨nb,0,none⟩),.agg #[.int .i64 2,.int .u64 0,.int .u64 0,.int .u64 0,.int .u64 0,.slice none 0 0,.int .i64 (i:Nat)]] h (cT (Ic O nb h v st (ss++[⟨2,0,[],i⟩],ss.length))):=by
 have h1:=zh (x:=⟨2,0,[],i⟩) hn hO ⟨.slice none 0 0,rfl,bS.nil _ _ _⟩ hl;simp only[DG,IK] at h1;exact h1
theorem B2 {lim:Nat}(hg:Sg h lim) (hlim:lim<=h.size){rv:Value}{rules:List By}(hr:bS mK h (fun _=>False) rv rules) (hrl:∀s∈rules,s.length<=1000000) :
 ah Tryz.prog 27 #[rv] h (cT fun r h'=>xH h h' rules r/\aD h h'):=by
 obtain⟨oa,kn,kc,rfl,hsl⟩:=id hr.open;have hkn:=hsl.len;have hkc:=hsl.le;have hcap:=hsl.cap;generalize htgt:kr 0 rules [] []=tgt;refine ah.of func27 rfl rfl ?_;refine aY func27 2 [0,2,3] rfl ?_;refine av rfl ?_;refine av rfl ?_;refine G.bE [(18,.bool (decide (kn=0\/64<kn)))] [(0,_),(2,_),(3,_)] ⟨rfl,rfl,rfl,trivial⟩ func27 rfl ?_ ?_
 · refine ct 1 rfl rfl (aj.aK underlying87 rfl) ?_;refine bf 2 rfl ?_;refine aN (d:=14) rfl (fun hg=>?_) (fun hg=>?_)
   · refine bf 4 rfl ?_;refine aE rfl ?_;exact⟨rfl,aF rfl (by have:=of_decide_eq_true hg;simp;omega),rfl,rfl,rfl,trivial⟩
   · refine ct 1 rfl rfl (aj.aK underlying87 rfl) ?_;refine bf 2 rfl ?_;refine aE rfl ?_;exact⟨rfl,aF rfl (by have:=of_decide_eq_false hg;simp only[decide_eq_decide];omega),rfl,rfl,rfl,trivial⟩
 · refine aO rfl rfl (fun hbig=>?_) (fun hbig=>?_)
   · refine aY func27 2 [0,2,3,18] rfl ?_;refine G.ret func27 rfl rfl ?_;refine⟨_,rfl,?_,Ext.refl _ _⟩;have:fk rules= .inl 2:=by unfold fk;rw[if_pos (show rules.length=0\/64<rules.length by omega)]
     rw[xH,this];rfl
   · have hmk:fk rules=match kr 0 rules [] [] with|.inl e=>.inl e|.inr (ss,t)=>if 2000<vR rules then .inl 70 else .inr (ss++[⟨0,0,t,0⟩],ss.length):=by unfold fk;rw[if_neg (show ¬(rules.length=0\/64<rules.length) by omega)]<;>rfl
     rw[htgt] at hmk;refine aB rfl ?_;refine xr func27 rfl ?_;refine xp rfl (aP (H.JC ) rfl) ?_;refine xo rfl (aA.gu rfl) ?_;rintro _ h1 ⟨rfl,q4,e1,z1⟩;have q4:bh h1 h.size 126 [.slice none 0 0,.int .i64 (0:Nat)]:=q4;have hn1:cy h1 (fun b=>b<h.size) h.size (.slice none 0 0) [] 0:=⟨q4,dU.nil _ _ _ _ _⟩
     refine aS 1 [0,2,3,4,18] rfl ?_;refine aY func27 1 [0,2,3,4,5,18] rfl ?_;refine aY func27 1 [0,2,3,4,5,6,18] rfl ?_;refine av rfl ?_;refine bp func27 1 rfl ?_;refine xp rfl (aj.aK underlying87 rfl) ?_;refine aS 1 [0,2,3,4,5,6,18,21,22,23] rfl ?_;refine G.block rfl rfl ?_;refine bD (σ:=Nat×Value) (fun p=>[(4,.pointer (some ⟨h.size,0,none⟩)),(5,p.2),(6,.int .i64 (vR (rules.take p.1):Nat)),(21,.slice oa kn kc),(22,.int .i64 (kn:Nat)),(23,.int .i64 (p.1:Nat))]) (fun p h'=>p.1<=kn/\∃v ss t,cy h' (fun b=>b<h.size\/dz p.2.ownBlock b) h.size v ss 0/\dU iC (fun _=>True) h' h1.size 3 p.2 t/\Nx (fun _=>False) h.size h1 (.slice none 0 0) h' v/\(∀b,p.2.ownBlock=some b->v.ownBlock≠some b)/\(ss.length<=402*p.1/\vR (rules.take p.1)<=200*p.1/\t.length=p.1)/\kr p.1 (rules.drop p.1) ss t=tgt) (fun p=>kn-p.1) ((0,.slice none 0 0)) rfl ⟨rfl,rfl,rfl,rfl,rfl,rfl,trivial⟩ ⟨Nat.zero_le _,_,[],[],hn1.ay (Ext.refl _ _) (fun b _ k=>k.elim id (fun k=>by cases k)),dU.nil _ _ _ _ _,Nx.refl,fun b hb=>(by cases hb),⟨Nat.zero_le _,by simp[vR],rfl⟩,htgt⟩ ?_;rintro⟨i,tv⟩ g0 ⟨hi,v,ss,t,hng,htg,nxg,hdist,⟨hss,htot,htl⟩,hcon⟩ ih
     try dsimp only
     dsimp only at hi hng htg nxg hdist hss htot htl hcon;have hz0:=nxg.ext.size;have htv:∀b,tv.ownBlock=some b->h1.size<=b/\b<g0.size:=fun b hb=>by obtain⟨_,_,k,_⟩:=id htg;exact k.lt hb
     have e0g:aD h g0:=⟨by omega,fun b hb _=>(nxg.ext.block b (by omega) (by
      rintro((k|k)|k)
      · omega
      · cases k
      · exact k)).trans (e1.block b hb (fun k=>k))⟩
     have hown:=hng.own;have hnlt:=hng.blk.lt;refine aY func27 1 [4,5,6,21,22,23,24] rfl ?_;refine av rfl ?_;refine aO rfl rfl (fun hlt=>?_) (fun hlt=>?_)
     · obtain⟨s,hs⟩:∃s,rules[i]? =some s:=⟨_,List.getElem?_eq_getElem (by omega)⟩
       have hdr:rules.drop i=s::rules.drop (i+1):=by
        obtain⟨hi',rfl⟩:=List.getElem?_eq_some_iff.1 hs;exact List.drop_eq_getElem_cons hi'
       rw[hdr,kr] at hcon;obtain⟨oa',n',c',hv',_,_,_,hget⟩:=id (hr.ay e0g);cases hv';obtain⟨b,o,cs,ha,hob,hrow,rfl⟩:=hget i s hs;refine aB rfl ?_;refine av rfl ?_;refine G.block rfl rfl ?_;refine bp func27 1 rfl ?_;refine xp rfl (aj.ax underlying87 H.fq rfl rfl i rfl ha (by omega)) ?_;refine xp rfl (ai H.fM rfl (hrow 0 _ rfl)) ?_;refine aS 2 [4,5,6,7,8,21,22,23,24] rfl ?_;refine bp func27 1 rfl ?_;refine xo rfl (aq (vs:=[_]) func47 rfl H.L1 rfl (ah.br (Am (hg.ext e0g (fun _ k=>k.elim)) (by omega) s (hrl s (List.mem_of_getElem? hs))))) ?_;rintro _ g1 ⟨⟨w,rfl,hnd⟩,e01⟩;refine bf 3 rfl ?_;refine xo rfl (aA.aX H.jS) ?_;rintro _ g2 ⟨rfl,k9,e12,z12⟩;refine RW.b9 rfl rfl rfl (aA.aC H.cn rfl rfl k9 (by first|rfl|(simp;done)|(simp;omega)) (by first|decide|exact of_decide_eq_true rfl|(simp;done)|(simp;omega)) (b8.one hnd)) ?_;rintro _ g3 ⟨rfl,k9',e23,z23⟩;refine aS 1 [4,5,6,7,8,9,10,21,22,23,24] rfl ?_;refine av rfl ?_;refine aY func27 2 [4,5,6,7,8,9,10,21,22,23,24,34] rfl ?_;have k9':bh g3 g1.size 132 (dY (bZ s).1.kind (bZ s).1.set w):=k9';refine aO rfl rfl (fun herr=>?_) (fun herr=>?_)
       · rw[if_pos (by exact herr)] at hcon;refine aY func27 3 [2,3,4,5,6,7,8,9,10,21,22,23,24,34] rfl ?_;refine G.ret func27 rfl rfl ?_;have e3:aD h g3:=(e0g.trans e01).trans (e12.only e23 (Nat.le_refl _));refine⟨_,rfl,?_,e3⟩;rw[<-hcon] at hmk;rw[xH,hmk];rfl
       · have h0:(bZ s).2=0:=by simpa using herr
         rw[if_neg (by simpa using h0)] at hcon;have hsmall:=pq h0;have hbs:=bu s;have ecc:aD g1 g3:=e12.only e23 (Nat.le_refl _);have e03:aD g0 g3:=e01.trans ecc;have hz1:=e01.size;have hz3:=ecc.size;have hz13:g1.size<g3.size:=by omega
         refine aB rfl ?_;refine av rfl ?_;refine G.bE [(6,.int .i64 (vR (rules.take (i+1)):Nat))] [(4,_),(5,_),(7,_),(8,_),(9,_),(10,_),(21,_),(22,_),(23,_),(24,_),(34,_)] ⟨rfl,rfl,rfl,rfl,rfl,rfl,rfl,rfl,rfl,rfl,rfl,trivial⟩ func27 rfl ?_ ?_
         · refine ct 2 rfl rfl (aj.bI underlying9 rfl) ?_;refine xp rfl (aj.bC rfl rfl ⟨by omega,by omega⟩) ?_;refine bf 1 rfl ?_;refine aE rfl ?_;exact⟨rfl,(by show some (Value.int _ _)=some (Value.int _ _);rw[wu hs];congr 2),rfl,rfl,rfl,rfl,rfl,rfl,rfl,rfl,rfl,rfl,rfl,trivial⟩
         · have hn3:cy g3 (fun b=>b<h.size\/dz tv.ownBlock b) h.size v ss 0:=hng.ay e03 (fun _ _ k=>k);have hO3:∀b,(b<h.size\/dz tv.ownBlock b)->b<g3.size:=fun b hb=>by rcases hb with k|k;omega;(have:=htv b k.symm;omega)
           have hnd3:b8 g3 (eS h.size v) (dY (bZ s).1.kind (bZ s).1.set w) (bZ s).1:=hnd.mv ⟨ecc.size,fun b hb hn=>⟨ecc.block b hb (fun k=>k),by
            rintro(k|k)
            · exact hn (by show b<g0.size;omega)
            · exact hn (by show b<g0.size;exact(hown b k.symm).2)⟩⟩
           have hK1:¬(eS h.size v g1.size\/False):=by
            rintro((k|k)|k)
            · omega
            · have:=hown _ k.symm;omega
            · exact k
           refine bU (fun b=>¬b=Array.size g1) (fun i=>Nat.blt i 11) (sz:=11) (listed:= #[false,false,false,false,false,false,false,false,false,false,false]) func27 H.mixed rfl rfl rfl ?_;refine cJ 0 1 (by kernel_rfl) rfl ?_;refine cJ 1 3 (by kernel_rfl) rfl ?_;refine bM 2 7 (by kernel_rfl) rfl (fun h' e=>aj.aH H.eX H.cn rfl (e.rowAt (fun k=>k rfl) k9'.row) (by first|rfl|(simp;done)|(simp;omega))) ?_;refine cJ 3 15 (by kernel_rfl) rfl ?_;refine cJ 4 31 (by kernel_rfl) rfl ?_;refine bM 5 63 (by kernel_rfl) rfl (fun h' e=>aP (H.Ev _ _) rfl) ?_;refine eP 6 127 (by kernel_rfl) rfl (aq (vs:=[_,_]) func49 rfl H.BW rfl (ah.br (GU i hn3 hO3 (by omega)))) ?_;rintro _ g4 ⟨v4,rfl,hn4,nx4⟩;refine⟨fun _=>nx4.ext.mono (fun b _ k e=>hK1 (e▸k)),?_⟩;have hz4:=nx4.ext.size
           have hK2:¬(eS h.size v4 g1.size\/False):=by
            rintro((k|k)|k)
            · omega
            · rcases nx4.own _ k.symm with k2|k2
              · exact hK1 (.inl (.inr k2.symm))
              · omega
            · exact k
           refine eP 7 255 (by kernel_rfl) rfl (aq (vs:=[_,_,_]) func48 rfl H.DZ rfl (ah.br (F0 401 (x:=(bZ s).1) (to:=ss.length) hsmall.1 hn4 (fun b hb=>by have:=hO3 b hb;omega) (hnd3.mv nx4.JL) hsmall.2.1 (by have:=hsmall.1;simp only[List.length_append,List.length_singleton];omega)))) ?_;rintro _ g5 ⟨v5,rfl,hn5,nx5⟩;refine⟨fun _=>nx5.ext.mono (fun b _ k e=>hK2 (e▸k)),?_⟩;have hz5:=nx5.ext.size;have nx45:Nx (fun _=>False) h.size g3 v g5 v5:=nx4.trans nx5 (fun _ _ k=>k)
           have ht5:dU iC (fun _=>True) g5 h1.size 3 tv t:=(htg.ay e03).pF nx45.ext (fun b hb=>by
            rintro((k1|k1)|k1)
            · have:=htv b hb;omega
            · exact hdist b hb k1.symm
            · exact k1) (fun _ _ _=>trivial) (fun _ _ _=>trivial)
           obtain⟨css,hc1,hc2,hc3⟩:=id ht5;have hKt:¬dz tv.ownBlock g1.size:=fun k=>by have:=htv _ k.symm;omega
           refine eP 8 511 (by kernel_rfl) rfl (aA.aW (us:=[_]) underlying127 H.pV rfl rfl (by decide) (by simp[Value.oneCell'])) ?_;rintro _ _ ⟨rfl,rfl⟩;refine⟨fun _=>by first|exact Ext.push _ _ _|assumption,?_⟩;refine eP 9 1023 (by kernel_rfl) rfl (aA.bN underlying127 H.pV rfl rfl (hc2) rfl rfl (by first|decide|simp[Value.oneCell']) (by omega) (by decide) (by omega)) ?_;rintro t6 g6 ⟨ho6,hx6,hx6',hv6⟩;refine⟨fun _=>hx6'.mono (fun b _ k e=>hKt (e▸k)),?_⟩;refine cJ 10 2047 (by kernel_rfl) rfl ?_;refine bB (by kernel_rfl) ?_;refine xu [4,5,6,7,8,9,10,21,22,23,24,34] rfl ?_;refine G.aQ ?_;refine G.cq func27 rfl ?_;refine xp rfl (aj.bC rfl rfl ⟨by omega,by omega⟩) ?_;refine aS 1 [4,5,6,7,8,9,10,21,22,23,24,34] rfl ?_;have ht6:=dU.iA hc1 hc3 ho6 hx6 hv6 (y:=(lay (bZ s).1 (ss++[(⟨2,0,[],i⟩:bK)]) ss.length).2) rfl
           have hn6:cy g6 (fun b=>b<h.size\/dz t6.ownBlock b) h.size v5 (lay (bZ s).1 (ss++[⟨2,0,[],i⟩]) ss.length).1 0:=hn5.ext hx6 (fun k=>by have:=htv _ k.symm;omega) (fun b hb k=>by
            rcases nx45.own b hb with k'|k'
            · exact hdist b k.symm k'
            · have:=htv b k.symm;omega) (fun b _ k=>.inr k) (fun b hb k=>k.imp id (fun k=>by
              rcases hv6 b k.symm with k'|k'
              · exact k'.symm
              · omega))
           have hd6:∀b,t6.ownBlock=some b->v5.ownBlock≠some b:=fun b hb k=>by
            rcases hv6 b hb with k'|k'
            · rcases nx45.own b k with k2|k2
              · exact hdist b k' k2
              · have:=htv b k';omega
            · have:=(hn5.own b k).2;omega
           have nx05:Nx (fun _=>False) h.size h1 (.slice none 0 0) g5 v5:=(nxg.trans (Nx.JK e03) (fun _ _ k=>k)).trans nx45 (fun _ _ k=>k);have nx06:Nx (fun _=>False) h.size h1 (.slice none 0 0) g6 v5:=⟨⟨by have:=hx6.size;omega,fun b hb hn=>by rw[hx6.block b (by omega) (fun k=>by have:=htv b k.symm;omega)];exact nx05.ext.block b hb hn⟩,nx05.own⟩
           have hlenl:=(fT (bZ s).1 (ss++[⟨2,0,[],i⟩]) ss.length).2;rw[List.length_append,List.length_singleton] at hlenl;have htt:=wu hs;exact ih (i+1,t6) _ _ ⟨rfl,rfl,rfl,rfl,rfl,rfl,trivial⟩ ⟨by show i+1<=kn;omega,v5,_,_,hn6,ht6,nx06,hd6,⟨by have:=hsmall.1;show _<=402*(i+1);omega,by have:=hsmall.2.2;show vR (rules.take (i+1))<=200*(i+1);omega,by simp[htl]⟩,hcon⟩ (by show kn-(i+1)<kn-i;omega)
     · obtain rfl:i=kn:=by omega
       have hall:rules.take i=rules:=List.take_of_length_le (by omega);have hnil:rules.drop i=[]:=List.drop_of_length_le (by omega);rw[hnil,kr] at hcon;rw[<-hcon] at hmk;rw[hall] at htot;simp only[hall];refine bw rfl rfl ?_;refine av rfl ?_;refine aY func27 2 [4,5,6,21,22,23,24,52] rfl ?_;refine aO rfl rfl (fun hbig2=>?_) (fun hbig2=>?_)
       · refine aY func27 2 [2,3,4,5,6,21,22,23,24,52] rfl ?_;refine G.ret func27 rfl rfl ?_;refine⟨_,rfl,?_,e0g⟩;have:fk rules= .inl 70:=by rw[hmk];exact if_pos (by omega)
         rw[xH,this];rfl
       · have hmk2:fk rules= .inr (ss++[⟨0,0,t,0⟩],ss.length):=by rw[hmk];exact if_neg (by omega)
         have hrd:bS iC g0 (fun b=>eS h.size v b\/b<h.size) tv t:=htg.C0 (fun b hb=>by
          rintro((k1|k1)|k1)
          · have:=htv b hb;omega
          · exact hdist b hb k1.symm
          · have:=htv b hb;omega) (fun _ _ _=>trivial)
         obtain⟨oa9,n9,c9,rfl,_⟩:=id hrd;refine aB rfl ?_;refine bp func27 3 rfl ?_;refine xp rfl (aP (H.zc _ _ _) rfl) ?_;refine xo rfl (aq (vs:=[_,_]) func49 rfl H.BW rfl (ah.br (mT (O:=fun b=>b<h.size) (to:=t) (hng.ay (Ext.refl _ _) (fun b _ k=>.inl k)) (fun b hb=>by omega) hrd (by omega)))) ?_;rintro _ g4 ⟨v4,rfl,hn4,nx4⟩;refine ct 1 rfl rfl (af (off:=1) underlying126 rfl rfl H.bW rfl) ?_;refine RW.b9 rfl rfl rfl (aA.bz H.bW rfl rfl hn4.blk (by first|decide|exact of_decide_eq_true rfl|(simp;done)|(simp;omega)) rfl) ?_;rintro _ g5 ⟨rfl,hk5,hx5,hz5⟩;refine xd [4,5,6,21,22,23,24,52] rfl ?_;refine aY func27 3 [2,3,4,5,6,21,22,23,24,52] rfl ?_;refine G.ret func27 rfl rfl ?_;have hn5:cy g5 (fun b=>b<h.size) h.size v4 (ss++[⟨0,0,t,0⟩]) ss.length:=⟨hk5,hn4.row.pF hx5 (fun b hb k=>by have:=(hn4.own b hb).1;omega) (fun b _ k=>.inl k) (fun b _ k=>k)⟩
         have e4:aD h g5:=⟨by have:=hx5.size;have:=nx4.ext.size;omega,fun b hb _=>by
          rw[hx5.block b (by have:=nx4.ext.size;omega) (by omega),nx4.ext.block b (by omega) ?_]
          · exact e0g.block b hb (fun k=>k)
          · rintro((k|k)|k)
            · omega
            · rcases nxg.own b k.symm with k2|k2
              · cases k2
              · omega
            · exact k⟩
         refine⟨_,rfl,?_,e4⟩;rw[xH,hmk2];exact⟨h.size,v4,rfl,Nat.le_refl _,hn5⟩
theorem oh {ss:List bK}(hn:cy h O nb v ss st):ah Tryz.prog 97 #[.pointer (some ⟨nb,0,none⟩)] h (cT fun r h'=>r= .bool (decide (ss.length=0))/\h'=h):=by
 obtain⟨css,hc1,hc2,hc3⟩:=id hn.row;obtain⟨oa,c,rfl,_⟩:=hc2.open;refine ah.of func97 rfl rfl ?_;refine aY func97 1 [0,2] rfl ?_;refine av rfl ?_;refine G.bE [(2,.bool (decide (ss.length=0)))] [(0,_)] ⟨rfl,trivial⟩ func97 rfl ?_ ?_
 · refine ct 1 rfl rfl (aj.qJ underlying84 rfl rfl) ?_;refine bf 1 rfl ?_;refine RW.dn (d:=5) (b':=false) rfl (rfl) ?_;refine ct 2 rfl rfl (af (off:=0) underlying126 rfl rfl H.gG rfl) ?_;refine xp rfl (ai H.iz rfl (hn.blk.cell (i:=0) rfl)) ?_;refine xp rfl (aj.aK underlying124 rfl) ?_;refine bf 3 rfl ?_;refine aE rfl ?_;exact⟨rfl,aF rfl (by simp only[decide_eq_decide];omega),rfl,trivial⟩
 · refine G.ret func97 rfl rfl ?_;exact⟨_,rfl,rfl,rfl⟩
theorem Fx {base:Nat}{t:TypeId}{m:Nat}(k:cO eG h base t v todo) (hm:todo.length=m+1) :
 ∃g c x,v= .slice (some ⟨g,0,none⟩) (m+1) c/\m+1<=c/\g<h.size/\base<=g/\cellAt h ⟨g,0+m*1,none⟩=some (.int .i64 (x:Nat))/\todo=todo.dropLast++[x] /\
  cO eG h base t (.slice (dm (some ⟨g,0,none⟩) 0 1 c) m c) todo.dropLast/\(Value.slice (dm (some ⟨g,0,none⟩) 0 1 c) m c).ownBlock=some g:=by
 have k':aR h base t 1 v todo.length (todo.map eG):=k;obtain⟨oa,c,rfl,ho⟩:=k'.open;have hne:todo≠[]:=by intro e;rw[e] at hm;cases hm
 have hlast:todo=todo.dropLast++[todo.getLast hne]:=(List.dropLast_concat_getLast hne).symm
 have hx:(todo.map eG)[m]? =some (eG (todo.getLast hne)):=by
  rw[List.getElem?_map,List.getLast_eq_getElem,List.getElem?_eq_getElem (by omega)];simp[hm]
 obtain⟨g,rfl,hb,hlt,hc,_⟩:=ho.at hx;have ht:=ho.take (m:=m) (by omega) 1
 have hd:(todo.map eG).take (m*1)=todo.dropLast.map eG:=by
  rw[Nat.mul_one,List.dropLast_eq_take,hm,Nat.add_sub_cancel,List.map_take]
 rw[hd] at ht;refine⟨g,c,todo.getLast hne,by rw[hm],by have:=ho.le;omega,hlt,hb,hc,hlast,?_,?_⟩
 · have hl:todo.dropLast.length=m:=by simp[hm]
   unfold cO;rw[hl];exact ht
 · unfold dm;split<;>simp[Value.ownBlock,Addr.add]
theorem cy.get {ss:List bK}{x:bK}(k:cy h O nb v ss st) (hx:ss[i]? =some x) :
 ∃g c w,v= .slice (some ⟨g,0,none⟩) ss.length c/\g<h.size/\Lw.rowAt h g (0+i*7) (DG x.kind x.set w x.rule)/\bS iC h (fun b=>dz v.ownBlock b\/b=nb\/O b) w x.to:=by
 obtain⟨g,c,cs,rfl,_,hg,hrow,_,⟨w,rfl,hw⟩,_⟩:=k.row.put hx;exact⟨g,c,w,rfl,hg,hrow,hw⟩
theorem Be {oa:Option Addr}{c:Nat}{xs:List Nat}(k:bS iC h O (.slice oa n c) xs):xs.length=n/\(n=0\/∃b o,oa=some ⟨b,o,none⟩/\Lw.rowAt h b o (xs.map eG))/\n<=maxLen:=by
 obtain⟨oa',n',c',hv,hl,hc,hm,hg⟩:=k;cases hv;have hs:Sl iC h O oa n c xs:=⟨hl,hc,hm,hg⟩
 exact⟨hl,Sl.row hs,by omega⟩
theorem Cm {ss:List bK}(ht:todo.getLast? =some i) (hs:seen[i]? =some true):iI ss (n+1) todo seen=iI ss n todo.dropLast seen:=by
 rw[iI,ht];simp[hs]
theorem Es {ss:List bK}{x:bK}(ht:todo.getLast? =some i) (hs:seen[i]? =some false) (hx:ss[i]? =some x):iI ss (n+1) todo seen=iI ss n (if x.kind=0 then todo.dropLast++x.to else todo.dropLast) (seen.set i true):=by
 rw[iI,ht];simp[hs,hx]
theorem Er {ss:List bK}:iI ss n [] seen=seen:=by cases n<;>simp[iI]
def EH (ss:List bK) (seen:List Bool) (i:Nat):Bool:=seen[i]? ==some true && (ss[i]?.map (·.kind)) !=some 0
theorem pZ {tv:Value}{ss:List bK}{base:Nat}{tb:Option Nat}(hn:cy h O nb v ss st) (hgood:Good ss) (hss:ss.length<=1000000) (htd:cO eG h base 3 tv todo) (htb:tv.ownBlock=tb)
 (hbase:base<=h.size) (hOt:∀b,tb=some b->O b/\b≠nb/\v.ownBlock≠some b) (hlt:∀j∈todo,j<ss.length) (hpot:todo.length+rz ss (List.replicate ss.length false)<=1000000) :
 ah Tryz.prog 98 #[.pointer (some ⟨nb,0,none⟩),tv] h (cT fun r h'=>cO eG h' h.size 3 r (closed ss todo)/\Ext (dz tb) h h'):=by
 obtain⟨css,hc1,hc2,hc3⟩:=id hn.row;obtain⟨va,vc,rfl,_⟩:=hc2.open
 have htl:tb=none\/∃b,tb=some b/\b<h.size:=by
  cases tb with
  |none=>exact .inl rfl
  |some b=>exact .inr ⟨b,rfl,(aR.lt htd htb).2⟩
 obtain⟨oa,c,rfl,_⟩:=(show aR h base 3 1 tv todo.length (todo.map eG) from htd).open;generalize htgt:iI ss (todo.length+rz ss (List.replicate ss.length false)) todo (List.replicate ss.length false)=tgt;refine ah.of func98 rfl rfl ?_;refine aY func98 1 [0,1,4] rfl ?_;refine av rfl ?_;refine bp func98 1 rfl ?_;refine xp rfl (aj.aK underlying127 rfl) ?_;refine aS 1 [0,1,4,12] rfl ?_;refine aO rfl rfl (fun hz=>?_) (fun hz=>?_)
 · refine aY func98 1 [0,1,4,12] rfl ?_;refine G.ret func98 rfl rfl ?_;have:closed ss todo=[]:=by unfold closed;rw[if_pos (by omega)]
   rw[this];exact⟨_,rfl,cO.nil _ _ _ _,Ext.refl _ _⟩
 · refine aB rfl ?_;refine bp func98 2 rfl ?_;refine xp rfl (af (off:=0) underlying126 rfl rfl H.gG rfl) ?_;refine xp rfl (ai H.iz rfl (hn.blk.cell (i:=0) rfl)) ?_;refine xp rfl (aj.aK underlying124 rfl) ?_;refine xo rfl (aA.pG underlying157 H.My H.Mq rfl rfl rfl (by omega) (by decide)) ?_;rintro _ h1 ⟨rfl,hk1,e1⟩;refine aS 1 [0,1,4,5,12] rfl ?_;refine av rfl ?_;refine G.block rfl rfl ?_;refine bD (σ:=Nat×Value×List Nat×List Bool) (fun q=>[(0,.pointer (some ⟨nb,0,none⟩)),(1,q.2.1),(5,.slice (some ⟨h.size,0,none⟩) ss.length ss.length)]) (fun q h'=>Ext (dz tb) h h'/\cO eG h' base 3 q.2.1 q.2.2.1/\(∀b,q.2.1.ownBlock=some b->tb=some b\/h1.size<=b)/\aR h' h.size 4 1 (.slice (some ⟨h.size,0,none⟩) ss.length ss.length) ss.length (q.2.2.2.map .bool)/\q.2.2.2.length=ss.length/\(∀j∈q.2.2.1,j<ss.length)/\(q.2.2.1.length+rz ss q.2.2.2<=q.1/\q.1<=1000000/\h1.size<=h'.size)/\iI ss q.1 q.2.2.1 q.2.2.2=tgt) (fun q=>q.1) ((todo.length+rz ss (List.replicate ss.length false),.slice oa todo.length c,todo,List.replicate ss.length false)) rfl ⟨rfl,rfl,rfl,trivial⟩ ⟨e1.mono fun _ _ k=>k.elim,aR.AX htd e1,fun b hb=>.inl (htb.symm.trans hb),by simpa using hk1,by simp,hlt,⟨Nat.le_refl _,hpot,Nat.le_refl _⟩,htgt⟩ ?_;rintro⟨n,dv,td,seen⟩ g ⟨eg,hd,hdo,hs,hsl,hlt',⟨hp,hn1,hgz⟩,hcon⟩ ih
   try dsimp only
   dsimp only at hd hdo hs hsl hlt' hp hn1 hcon;have hz1:h.size<h1.size:=by have:=(aR.lt hk1 rfl).2;exact this
   have hsow:=hs.open;obtain⟨sa,sc,hsv,hsow⟩:=hsow;cases hsv
   rcases Nat.eq_zero_or_pos td.length with hpos|hpos
   · obtain rfl:td=[]:=List.eq_nil_of_length_eq_zero hpos;obtain⟨oad,cd,rfl,_⟩:=(show aR g base 3 1 dv ([]:List Nat).length (([]:List Nat).map eG) from hd).open;rw[Er] at hcon;refine av rfl ?_;refine bp func98 1 rfl ?_;refine xp rfl (aj.aK underlying127 rfl) ?_;refine aS 1 [0,1,5,21] rfl ?_;refine aG rfl rfl (fun hc=>absurd hc (by simp)) (fun _=>?_);have hnc:∀{h':az},Ext (dz tb) h h'->cy h' O nb (.slice va ss.length vc) ss st:=fun e=>hn.ext e (fun k=>(hOt nb k.symm).2.1 rfl) (fun b hb k=>(hOt b k.symm).2.2 hb) (fun b _ k=>(hOt b k.symm).1) (fun _ _ k=>k)
     have hcl:closed ss todo=(List.range ss.length).filter (EH ss seen):=by
      unfold closed;rw[if_neg (by omega),htgt,<-hcon];rfl
     refine bw rfl rfl ?_;refine aY func98 1 [0,1,5,7,21] rfl ?_;refine av rfl ?_;refine bp func98 1 rfl ?_;refine xp rfl (aj.aK underlying157 rfl) ?_;refine aS 1 [0,1,5,7,21,59,60,61] rfl ?_;refine G.block rfl rfl ?_;refine bD (σ:=Nat×Value) (fun q=>[(0,.pointer (some ⟨nb,0,none⟩)),(7,q.2),(59,.slice (some ⟨h.size,0,none⟩) ss.length ss.length),(60,.int .i64 (ss.length:Nat)),(61,.int .i64 (q.1:Nat))]) (fun q h'=>q.1<=ss.length/\aD g h'/\cO eG h' g.size 3 q.2 ((List.range q.1).filter (EH ss seen))) (fun q=>ss.length-q.1) ((0,.slice none 0 0)) rfl ⟨rfl,rfl,rfl,rfl,rfl,trivial⟩ ⟨Nat.zero_le _,Ext.refl _ _,cO.nil _ _ _ _⟩ ?_;rintro⟨i,ov⟩ g2 ⟨hi,e2,ho2⟩ ih2
     try dsimp only
     dsimp only at hi ho2;have eg2:Ext (dz tb) h g2:=eg.trans (e2.mono fun _ _ k=>k.elim);have hn2:=hnc eg2;have hz2:=e2.size;refine aY func98 1 [0,7,59,60,61,62] rfl ?_;refine av rfl ?_;refine aO rfl rfl (fun hlti=>?_) (fun hlti=>?_)
     · have hil:i<ss.length:=by omega
       obtain⟨bx,hbx⟩:∃bx,seen[i]? =some bx:=⟨_,List.getElem?_eq_getElem (by omega)⟩
       obtain⟨y,hy⟩:∃y,ss[i]? =some y:=⟨_,List.getElem?_eq_getElem hil⟩
       obtain⟨sa2,sc2,hsv2,hsow2⟩:=(aR.AX hs e2).open;cases hsv2;obtain⟨g',hg',_,hsg,hscell,hsnf⟩:=hsow2.at (i:=i) (x:=.bool bx) (by rw[List.getElem?_map,hbx];rfl);cases hg';obtain⟨gs,cs,ws,hvs,hgs,hrow,hws⟩:=hn2.get hy;cases hvs;have hlen2:((List.range i).filter (EH ss seen)).length<=i:=by have:=List.length_filter_le (EH ss seen) (List.range i);simpa using this
       have hnext:(List.range (i+1)).filter (EH ss seen)=(List.range i).filter (EH ss seen)++(if EH ss seen i then [i] else []):=by
        rw[List.range_succ,List.filter_append];cases hpr:EH ss seen i<;>simp[hpr]
       refine aB rfl ?_;refine av rfl ?_;refine G.block rfl rfl ?_;refine bp func98 1 rfl ?_;refine xp rfl (aj.ax underlying157 H.lT rfl rfl i rfl rfl (by omega)) ?_;refine xp rfl (ai H.vk rfl hscell) ?_;refine aS 2 [0,7,8,9,59,60,61,62] rfl ?_;refine av rfl ?_;refine G.bE [(77,.bool (EH ss seen i))] [(0,_),(7,_),(8,_),(9,_),(59,_),(60,_),(61,_),(62,_)] ⟨rfl,rfl,rfl,rfl,rfl,rfl,rfl,rfl,trivial⟩ func98 rfl ?_ ?_
       · refine bf 2 rfl ?_;refine aN (d:=67) rfl (fun hg=>?_) (fun hg=>?_)
         · refine ct 2 rfl rfl (af (off:=0) underlying126 rfl rfl H.gG rfl) ?_;refine xp rfl (ai H.iz rfl (hn2.blk.cell (i:=0) rfl)) ?_;refine ct 1 rfl rfl (aj.ax underlying124 H.lM rfl rfl i rfl rfl hil) ?_;refine xp rfl (af (off:=0) underlying138 rfl rfl H.bW rfl) ?_;refine xp rfl (ai H.cM rfl (hrow 0 _ rfl)) ?_;refine bf 2 rfl ?_;refine aE rfl ?_;exact⟨rfl,aF rfl (by subst hg;simp[EH,hbx,hy];by_cases hk0:y.kind=0<;>simp[hk0]),rfl,rfl,rfl,rfl,rfl,rfl,rfl,rfl,trivial⟩
         · refine bf 10 rfl ?_;refine aE rfl ?_;exact⟨rfl,aF rfl (by subst hg;simp[EH,hbx]),rfl,rfl,rfl,rfl,rfl,rfl,rfl,rfl,trivial⟩
       · refine aG rfl rfl (fun hb=>?_) (fun hb=>?_)
         · rw[if_pos hb] at hnext;refine G.cq func98 rfl ?_;refine bf 2 rfl ?_;refine xo rfl (aA.aW (us:=[_]) underlying127 H.pV rfl rfl (by decide) (by simp[Value.oneCell'])) ?_;rintro _ _ ⟨rfl,rfl⟩;refine xo rfl (aA.bN underlying127 H.pV rfl rfl (ho2) rfl rfl (by first|decide|simp[Value.oneCell']) (by omega) (by decide) (by omega)) ?_;rintro ov3 g3 ⟨ho3,hx3,-,hv3⟩;refine aS 1 [0,7,8,9,59,60,61,62,77] rfl ?_;refine G.aQ ?_;refine G.cq func98 rfl ?_;refine xp rfl (aj.bC rfl rfl ⟨by omega,by omega⟩) ?_;refine aS 1 [0,7,8,9,59,60,61,62,77] rfl ?_;have ho3':cO eG g3 g.size 3 ov3 ((List.range (i+1)).filter (EH ss seen)):=by rw[hnext];exact cO.of (ys:=[i]) ho3 rfl rfl rfl
           have e3:aD g g3:=cO.grown e2 ho2 (Nat.le_refl _) hx3;exact ih2 (i+1,ov3) _ _ ⟨rfl,rfl,rfl,rfl,rfl,trivial⟩ ⟨by show i+1<=_;omega,e3,ho3'⟩ (by show ss.length-(i+1)<ss.length-i;omega)
         · rw[if_neg (by rw[hb];decide)] at hnext;rw[List.append_nil] at hnext;rw[<-hnext] at ho2;refine aB rfl ?_;refine G.aQ ?_;refine G.cq func98 rfl ?_;refine xp rfl (aj.bC rfl rfl ⟨by omega,by omega⟩) ?_;refine aS 1 [0,7,8,9,59,60,61,62,77] rfl ?_;exact ih2 (i+1,ov) _ _ ⟨rfl,rfl,rfl,rfl,rfl,trivial⟩ ⟨by show i+1<=_;omega,e2,ho2⟩ (by show ss.length-(i+1)<ss.length-i;omega)
     · obtain rfl:i=ss.length:=by omega
       refine bw rfl rfl ?_;refine aY func98 2 [0,4,7,59,60,61,62] rfl ?_;refine G.ret func98 rfl rfl ?_;rw[hcl];exact⟨_,rfl,aR.lower ho2 (by omega),eg2⟩
   · obtain⟨m,hm⟩:∃m,td.length=m+1:=⟨td.length-1,by omega⟩
     obtain⟨gd,cd,x,rfl,hcd,hgd,hbd,hcell,hlast,hcut,hcb⟩:=Fx hd hm;have hgl:td.getLast? =some x:=by rw[hlast];simp
     have hxl:x<ss.length:=hlt' x (by rw[hlast];simp);have hltd:∀j∈td.dropLast,j<ss.length:=fun j hj=>hlt' j (List.dropLast_subset _ hj)
     have hdl:td.dropLast.length=m:=by simp[hm]
     obtain⟨n,rfl⟩:∃n',n=n'+1:=⟨n-1,by omega⟩
     obtain⟨bx,hbx⟩:∃bx,seen[x]? =some bx:=⟨_,List.getElem?_eq_getElem (by omega)⟩
     obtain⟨y,hy⟩:∃y,ss[x]? =some y:=⟨_,List.getElem?_eq_getElem hxl⟩
     obtain⟨g',hg',_,hsg,hscell,hsnf⟩:=hsow.at (i:=x) (x:=.bool bx) (by rw[List.getElem?_map,hbx];rfl);cases hg';refine av rfl ?_;refine bp func98 1 rfl ?_;refine xp rfl (aj.aK underlying127 rfl) ?_;refine aS 1 [0,1,5,21] rfl ?_;refine aG rfl rfl (fun _=>?_) (fun hc=>absurd hc (by simp only[decide_eq_false_iff_not];omega));refine aB rfl ?_;refine G.block rfl rfl ?_;refine bp func98 2 rfl ?_;refine xp rfl (aj.aK underlying127 rfl) ?_;refine xp rfl (aj.jy rfl rfl ⟨by omega,by omega⟩) ?_;refine xp rfl (aj.ax underlying127 H.bW rfl rfl m (by omega) rfl (by omega)) ?_;refine xp rfl (ai H.cM rfl hcell) ?_;refine aS 1 [0,1,5,6,21] rfl ?_;refine bp func98 2 rfl ?_;refine xp rfl (aj.aK underlying127 rfl) ?_;refine xp rfl (aj.jy rfl rfl ⟨by omega,by omega⟩) ?_;refine xp rfl (aj.oW underlying127 H.bW rfl rfl m (by omega) (by omega)) ?_;refine aS 1 [0,1,5,6,21] rfl ?_;refine av rfl ?_;refine bp func98 2 rfl ?_;refine xp rfl (aj.ax underlying157 H.lT rfl rfl x rfl rfl (by omega)) ?_;refine xp rfl (ai H.vk rfl hscell) ?_;refine xd [0,1,5,6,21,36] rfl ?_;refine aG rfl rfl (fun hb=>?_) (fun hb=>?_)
     · subst hb;rw[Cm hgl hbx] at hcon;refine bw rfl rfl ?_;exact ih (n,_,td.dropLast,seen) _ _ ⟨rfl,rfl,rfl,trivial⟩ ⟨eg,hcut,fun b hb=>hdo b (by rw[<-hb];exact hcb▸rfl),hs,hsl,hltd,⟨by show td.dropLast.length+rz ss seen<=n;omega,by show n<=_;omega,hgz⟩,hcon⟩ (by show n<n+1;omega)
     · subst hb;rw[Es hgl hbx hy] at hcon;have hpt:=yh ss seen x y hy hbx
       have hgne:¬gd=h.size:=fun k=>by
        rcases hdo gd rfl with k2|k2
        · rcases htl with k3|⟨b3,k3,k4⟩
          · rw[k3] at k2;cases k2
          · rw[k3] at k2;cases k2;omega
        · omega
       refine aB rfl ?_;refine bp func98 2 rfl ?_;refine xp rfl (aj.ax underlying157 H.lT rfl rfl x rfl rfl (by omega)) ?_;refine RW.b9 rfl rfl rfl (cF H.lT rfl rfl rfl hscell hsnf) ?_;rintro _ g2 ⟨rfl,hg2⟩;have x2:Ext (fun b=>b=h.size) g g2:=by rw[hg2];exact Ext.eB _ _ _ rfl
       have hz2:=x2.size;have eg2:Ext (dz tb) h g2:=⟨by omega,fun b hb hn=>by rw[x2.block b (by omega) (by omega)];exact eg.block b hb hn⟩
       have hs2:aR g2 h.size 4 1 (.slice (some ⟨h.size,0,none⟩) ss.length ss.length) ss.length ((seen.set x true).map .bool):=by
        have k:=(hsow.set (i:=x) rfl hxl (.bool true)).own;rw[<-hg2] at k;rw[List.map_set];exact k
       have hcut2:aR g2 base 3 1 _ td.dropLast.length (td.dropLast.map eG):=aR.ext x2 hcut (fun b hb k=>hgne (by have:=hcb.symm.trans hb;cases this;exact k));have hn2:cy g2 O nb _ ss st:=hn.ext eg2 (fun k=>(hOt nb k.symm).2.1 rfl) (fun b hb k=>(hOt b k.symm).2.2 hb) (fun b _ k=>(hOt b k.symm).1) (fun _ _ k=>k);obtain⟨gs,cs,ws,hvs,hgs,hrow,hws⟩:=hn2.get hy;cases hvs;have hsl2:(seen.set x true).length=ss.length:=by simpa using hsl
       refine xd [0,1,5,6,21,36] rfl ?_;refine bp func98 2 rfl ?_;refine xp rfl (af (off:=0) underlying126 rfl rfl H.gG rfl) ?_;refine xp rfl (ai H.iz rfl (hn2.blk.cell (i:=0) rfl)) ?_;refine ct 1 rfl rfl (aj.ax underlying124 H.lM rfl rfl x rfl rfl hxl) ?_;refine xp rfl (af (off:=0) underlying138 rfl rfl H.bW rfl) ?_;refine xp rfl (ai H.cM rfl (hrow 0 _ rfl)) ?_;refine aS 1 [0,1,5,6,21,36,48] rfl ?_;refine aO rfl rfl (fun hk=>?_) (fun hk=>?_)
       · rw[if_pos (by omega)] at hcon;obtain⟨wa,wn,wc,rfl,_⟩:=id hws;obtain⟨hwl,hwn,hwm⟩:=Be hws;rw[hdl] at hcut2;refine G.cq func98 rfl ?_;refine ct 3 rfl rfl (af (off:=0) underlying126 rfl rfl H.gG rfl) ?_;refine xp rfl (ai H.iz rfl (hn2.blk.cell (i:=0) rfl)) ?_;refine ct 1 rfl rfl (aj.ax underlying124 H.lM rfl rfl x rfl rfl hxl) ?_;refine xp rfl (af (off:=5) underlying138 rfl rfl H.gN rfl) ?_;refine xp rfl (ai H.nV rfl (hrow 5 _ rfl)) ?_;refine xo rfl (aA.append underlying127 H.pV rfl rfl hcut2 (by simp[hwl]) hwn (by intro u hu;simp at hu;obtain⟨j,_,rfl⟩:=hu;rfl) (by simp only[maxLen];omega) (by omega) (by omega)) ?_;rintro dv3 g3 ⟨hd3,ex3,-,ho3⟩;refine aS 1 [0,1,5,6,21,36,48] rfl ?_;refine G.aQ ?_;have hz3:=ex3.size;rw[hcb] at ex3 ho3
         have hd3':cO eG g3 base 3 dv3 (td.dropLast++y.to):=by
          unfold cO;rw[List.length_append,hdl,hwl,List.map_append];exact hd3
         have hdo3:∀b,dv3.ownBlock=some b->tb=some b\/h1.size<=b:=fun b hb=>by
          rcases ho3 b hb with k|k
          · exact hdo b k
          · exact .inr (by omega)
         have eg3:Ext (dz tb) h g3:=⟨by omega,fun b hb hn=>by
          rw[ex3.block b (by omega) ?_]
          · exact eg2.block b hb hn
          · intro k;cases k
            rcases hdo gd rfl with k2|k2
            · exact hn k2.symm
            · omega⟩
         have hgood':∀j∈td.dropLast++y.to,j<ss.length:=fun j hj=>by
          rcases List.mem_append.1 hj with k|k
          · exact hltd j k
          · exact hgood y (List.mem_of_getElem? hy) j k
         exact ih (n,dv3,td.dropLast++y.to,seen.set x true) _ _ ⟨rfl,rfl,rfl,trivial⟩ ⟨eg3,hd3',hdo3,aR.ext ex3 hs2 (fun b hb k=>by cases k;cases hb;exact hgne rfl),hsl2,hgood',⟨by show (td.dropLast++y.to).length+rz ss (seen.set x true)<=n;rw[List.length_append];omega,by show n<=_;omega,by show h1.size<=g3.size;omega⟩,hcon⟩ (by show n<n+1;omega)
       · rw[if_neg (by omega)] at hcon;refine aB rfl ?_;refine G.aQ ?_;exact ih (n,_,td.dropLast,seen.set x true) _ _ ⟨rfl,rfl,rfl,trivial⟩ ⟨eg2,hcut2,fun b hb=>hdo b (by rw[<-hb];exact hcb▸rfl),hs2,hsl2,hltd,⟨by show td.dropLast.length+rz ss (seen.set x true)<=n;omega,by show n<=_;omega,by show h1.size<=g2.size;omega⟩,hcon⟩ (by show n<n+1;omega)
theorem zS {ss:List bK}(hn:cy h O nb v ss st) (hgood:Good ss) (hss:ss.length<=1000000) (hst:ss.length=0\/st<ss.length) (hpot:1+rz ss (List.replicate ss.length false)<=1000000) :
 ah Tryz.prog 51 #[.pointer (some ⟨nb,0,none⟩)] h (cT fun r h'=>cO eG h' h.size 3 r (cu ss st)/\aD h h'):=by
 have hown:=hn.own;have hnlt:=hn.blk.lt;refine ah.of func51 rfl rfl ?_;refine aY func51 1 [0,2] rfl ?_;refine av rfl ?_;refine bp func51 1 rfl ?_;refine xo rfl (aq (vs:=[_]) func97 rfl H.Jk rfl (ah.br (oh hn))) ?_;rintro _ h0 ⟨rfl,hh0⟩;refine xd [0,2,4] rfl ?_;subst hh0;refine aO rfl rfl (fun hz=>?_) (fun hz=>?_)
 · refine aY func51 1 [0,2,4] rfl ?_;refine G.ret func51 rfl rfl ?_;rw[cu,if_pos hz];exact⟨_,rfl,cO.nil _ _ _ _,Ext.refl _ _⟩
 · have hn1:cy (h0.push (.cells #[.int .i64 (st:Nat)] 3)) (fun b=>O b\/b=h0.size) nb v ss st:=hn.ay (Ext.push _ _ _) (fun b hb k=>k.elim id (fun k=>by omega));have ho1:cO eG (h0.push (.cells #[.int .i64 (st:Nat)] 3)) h0.size 3 (.slice (some ⟨h0.size,0,none⟩) 1 1) [st]:=jo eG h0 3 [st] 1 rfl (by simp[maxLen]) h0.size (Nat.le_refl _) rfl;refine aB rfl ?_;refine bp func51 3 rfl ?_;refine xp rfl (af (off:=1) underlying126 rfl rfl H.bW rfl) ?_;refine xp rfl (ai H.cM rfl (hn.blk.cell (i:=1) rfl)) ?_;refine xo rfl (aA.aW (us:=[_]) underlying127 H.pV rfl rfl (by decide) (by simp[Value.oneCell'])) ?_;rintro _ _ ⟨rfl,rfl⟩;refine xo rfl (aq (vs:=[_,_]) func98 rfl H.J4 rfl (ah.br (pZ (tb:=some h0.size) hn1 hgood hss ho1 rfl (by simp) (fun b hb=>by cases hb;exact⟨.inr rfl,by omega,fun k=>by have:=(hown _ k).2;omega⟩) (fun j hj=>by simp at hj;omega) hpot))) ?_;rintro _ h2 ⟨ho2,hx2⟩;refine aS 1 [0,2,4] rfl ?_;refine G.ret func51 rfl rfl ?_;rw[cu,if_neg hz];have hps:(h0.push (.cells #[.int .i64 (st:Nat)] 3)).size=h0.size+1:=by simp
   refine⟨_,rfl,aR.lower ho2 (by omega),⟨by have:=hx2.size;omega,fun b hb _=>?_⟩⟩;rw[hx2.block b (by omega) (fun k=>by cases k;omega)];exact(Ext.push (fun _=>False) h0 _).block b hb (fun k=>k)
theorem wh {nv:Value}{ss:List bK}{now:List Nat}(hn:cy h O nb v ss st) (_hss:ss.length<=1000000) (hnow:bS iC h (fun _=>False) nv now) (hlt:∀j∈now,j<ss.length) (hnn:now.length<=1000000) :
 ah Tryz.prog 54 #[.pointer (some ⟨nb,0,none⟩),nv] h (cT fun r h'=>r= .int .i64 (aJ ss now)/\h'=h):=by
 obtain⟨css,hc1,hc2,hc3⟩:=id hn.row;obtain⟨va,vc,rfl,_⟩:=hc2.open;obtain⟨na,nn,nc,rfl,hnl,hnc,hnm,hget⟩:=id hnow;generalize htgt:qg ss now (-1)=tgt;refine ah.of func54 rfl rfl ?_;refine aY func54 1 [0,1,4] rfl ?_;refine aY func54 1 [0,1,4,5] rfl ?_;refine av rfl ?_;refine bp func54 1 rfl ?_;refine xo rfl (aq (vs:=[_]) func97 rfl H.Jk rfl (ah.br (oh hn))) ?_;rintro _ h0 ⟨rfl,hh0⟩;refine xd [0,1,4,5,9] rfl ?_;subst hh0;refine aO rfl rfl (fun hz=>?_) (fun hz=>?_)
 · refine aY func54 2 [0,1,4,5,9] rfl ?_;refine G.ret func54 rfl rfl ?_;rw[aJ,if_pos hz];exact⟨_,rfl,rfl,rfl⟩
 · refine aB rfl ?_;refine av rfl ?_;refine bp func54 1 rfl ?_;refine xp rfl (aj.aK underlying127 rfl) ?_;refine aS 1 [0,1,4,5,9,11,12,13] rfl ?_;refine G.block rfl rfl ?_;refine bD (σ:=Nat×Int) (fun q=>[(0,.pointer (some ⟨nb,0,none⟩)),(5,.int .i64 q.2),(11,.slice na nn nc),(12,.int .i64 (nn:Nat)),(13,.int .i64 (q.1:Nat))]) (fun q h'=>h'=h0/\q.1<=nn/\qg ss (now.drop q.1) q.2=tgt) (fun q=>nn-q.1) ((0,-1)) rfl ⟨rfl,rfl,rfl,rfl,rfl,trivial⟩ ⟨rfl,Nat.zero_le _,htgt⟩ ?_;rintro⟨i,b⟩ h1 ⟨rfl,hi,hcon⟩ ih
   try dsimp only
   dsimp only at hi hcon;refine aY func54 1 [0,5,11,12,13,14] rfl ?_;refine av rfl ?_;refine aO rfl rfl (fun hlti=>?_) (fun hlti=>?_)
   · obtain⟨j,hj⟩:∃j,now[i]? =some j:=⟨_,List.getElem?_eq_getElem (by omega)⟩
     obtain⟨bb,o,cs,ha,_,hrow,rfl⟩:=hget i j hj;have hjl:j<ss.length:=hlt j (List.mem_of_getElem? hj);obtain⟨y,hy⟩:∃y,ss[j]? =some y:=⟨_,List.getElem?_eq_getElem hjl⟩
     obtain⟨gs,cs,ws,hvs,hgs,hrw,hws⟩:=hn.get hy;cases hvs
     have hdr:now.drop i=j::now.drop (i+1):=by
      obtain⟨hi',rfl⟩:=List.getElem?_eq_some_iff.1 hj;exact List.drop_eq_getElem_cons hi'
     rw[hdr,qg,hy] at hcon;simp only at hcon;refine aB rfl ?_;refine av rfl ?_;refine G.block rfl rfl ?_;refine xr func54 rfl ?_;refine xp rfl (aj.ax underlying127 H.bW rfl rfl i rfl ha (by omega)) ?_;refine xp rfl (ai H.cM rfl (hrow 0 _ rfl)) ?_;refine aS 1 [0,5,7,11,12,13,14] rfl ?_;refine av rfl ?_;refine G.bE [(54,.bool (qf y b))] [(0,_),(5,_),(7,_),(11,_),(12,_),(13,_),(14,_)] ⟨rfl,rfl,rfl,rfl,rfl,rfl,rfl,trivial⟩ func54 rfl ?_ ?_
     · refine bf 3 rfl ?_;refine RW.dn (d:=19) (b':=true) rfl (decide_eq_true (by omega)) ?_;refine ct 3 rfl rfl (af (off:=0) underlying126 rfl rfl H.gG rfl) ?_;refine xp rfl (ai H.iz rfl (hn.blk.cell (i:=0) rfl)) ?_;refine xp rfl (aj.aK underlying124 rfl) ?_;refine bf 3 rfl ?_;refine RW.dn (d:=28) (b':=true) rfl (decide_eq_true (by omega)) ?_;refine ct 2 rfl rfl (af (off:=0) underlying126 rfl rfl H.gG rfl) ?_;refine xp rfl (ai H.iz rfl (hn.blk.cell (i:=0) rfl)) ?_;refine ct 1 rfl rfl (aj.ax underlying124 H.lM rfl rfl j rfl rfl hjl) ?_;refine xp rfl (af (off:=0) underlying138 rfl rfl H.bW rfl) ?_;refine xp rfl (ai H.cM rfl (hrw 0 _ rfl)) ?_;refine bf 3 rfl ?_;refine aN (d:=39) rfl (fun hk=>?_) (fun hk=>?_)
       · have hk':=of_decide_eq_true hk;refine bf 3 rfl ?_;refine aN (d:=42) rfl (fun hb=>?_) (fun hb=>?_)
         · have hb':=of_decide_eq_true hb;refine bf 12 rfl ?_;refine aE rfl ?_;exact⟨rfl,aF rfl (by simp[qf];omega),rfl,rfl,rfl,rfl,rfl,rfl,rfl,trivial⟩
         · have hb':=of_decide_eq_false hb;refine ct 2 rfl rfl (af (off:=0) underlying126 rfl rfl H.gG rfl) ?_;refine xp rfl (ai H.iz rfl (hn.blk.cell (i:=0) rfl)) ?_;refine ct 1 rfl rfl (aj.ax underlying124 H.lM rfl rfl j rfl rfl hjl) ?_;refine xp rfl (af (off:=6) underlying138 rfl rfl H.bW rfl) ?_;refine xp rfl (ai H.cM rfl (hrw 6 _ rfl)) ?_;refine bf 4 rfl ?_;refine aE rfl ?_;exact⟨rfl,aF rfl (by simp only[qf,decide_eq_decide];omega),rfl,rfl,rfl,rfl,rfl,rfl,rfl,trivial⟩
       · have hk':=of_decide_eq_false hk;refine bf 15 rfl ?_;refine aE rfl ?_;exact⟨rfl,aF rfl (by simp[qf];omega),rfl,rfl,rfl,rfl,rfl,rfl,rfl,trivial⟩
     · refine aG rfl rfl (fun hb=>?_) (fun hb=>?_)
       · rw[if_pos hb] at hcon;refine G.cq func54 rfl ?_;refine ct 2 rfl rfl (af (off:=0) underlying126 rfl rfl H.gG rfl) ?_;refine xp rfl (ai H.iz rfl (hn.blk.cell (i:=0) rfl)) ?_;refine ct 1 rfl rfl (aj.ax underlying124 H.lM rfl rfl j rfl rfl hjl) ?_;refine xp rfl (af (off:=6) underlying138 rfl rfl H.bW rfl) ?_;refine xp rfl (ai H.cM rfl (hrw 6 _ rfl)) ?_;refine aS 1 [0,5,7,11,12,13,14,54] rfl ?_;refine G.aQ ?_;refine G.cq func54 rfl ?_;refine xp rfl (aj.bC rfl rfl ⟨by omega,by omega⟩) ?_;refine aS 1 [0,5,7,11,12,13,14,54] rfl ?_;exact ih (i+1,(y.rule:Int)) _ _ ⟨rfl,rfl,rfl,rfl,rfl,trivial⟩ ⟨rfl,by show i+1<=nn;omega,hcon⟩ (by show nn-(i+1)<nn-i;omega)
       · rw[if_neg (by rw[hb];decide)] at hcon;refine aB rfl ?_;refine G.aQ ?_;refine G.cq func54 rfl ?_;refine xp rfl (aj.bC rfl rfl ⟨by omega,by omega⟩) ?_;refine aS 1 [0,5,7,11,12,13,14,54] rfl ?_;exact ih (i+1,b) _ _ ⟨rfl,rfl,rfl,rfl,rfl,trivial⟩ ⟨rfl,by show i+1<=nn;omega,hcon⟩ (by show nn-(i+1)<nn-i;omega)
   · have hnil:now.drop i=[]:=List.drop_of_length_le (by omega);rw[hnil,qg] at hcon;refine bw rfl rfl ?_;refine aY func54 2 [0,4,5,11,12,13,14] rfl ?_;refine G.ret func54 rfl rfl ?_;rw[aJ,if_neg hz,htgt];exact⟨_,rfl,by rw[hcon];rfl,rfl⟩
theorem BF {nv:Value}{ss:List bK}{now:List Nat}(c:UInt8) (hn:cy h O nb v ss st) (hgood:Good ss) (hss:ss.length<=1000000) (hnow:bS iC h (fun _=>False) nv now) (hlt:∀j∈now,j<ss.length) (hnn:now.length<=1000000)
 (hpot:(stepG ss c now []).length+rz ss (List.replicate ss.length false)<=1000000) :
 ah Tryz.prog 53 #[.pointer (some ⟨nb,0,none⟩),nv,.int .u8 (c.toNat:Nat)] h (cT fun r h'=>cO eG h' h.size 3 r (bg ss c now)/\aD h h'):=by
 have hown:=hn.own;have hnlt:=hn.blk.lt;obtain⟨css,hc1,hc2,hc3⟩:=id hn.row;obtain⟨va,vc,rfl,_⟩:=hc2.open;obtain⟨na,nn,nc,rfl,hnl,hnc,hnm,hget⟩:=id hnow;generalize htgt:stepG ss c now []=tgt at *;refine ah.of func53 rfl rfl ?_;refine aY func53 1 [0,1,2,6] rfl ?_;refine av rfl ?_;refine bp func53 1 rfl ?_;refine xo rfl (aq (vs:=[_]) func97 rfl H.Jk rfl (ah.br (oh hn))) ?_;rintro _ h0 ⟨rfl,hh0⟩;refine xd [0,1,2,6,11] rfl ?_;subst hh0;refine aO rfl rfl (fun hz=>?_) (fun hz=>?_)
 · refine aY func53 1 [0,1,2,6,11] rfl ?_;refine G.ret func53 rfl rfl ?_;rw[bg,if_pos hz];exact⟨_,rfl,cO.nil _ _ _ _,Ext.refl _ _⟩
 · refine aB rfl ?_;refine aY func53 1 [0,1,2,6,7,11] rfl ?_;refine av rfl ?_;refine bp func53 1 rfl ?_;refine xp rfl (aj.aK underlying127 rfl) ?_;refine aS 1 [0,1,2,6,7,11,12,13,14] rfl ?_;refine G.block rfl rfl ?_;refine bD (σ:=Nat×Value×List Nat) (fun q=>[(0,.pointer (some ⟨nb,0,none⟩)),(2,.int .u8 (c.toNat:Nat)),(7,q.2.1),(12,.slice na nn nc),(13,.int .i64 (nn:Nat)),(14,.int .i64 (q.1:Nat))]) (fun q h'=>aD h0 h'/\q.1<=nn/\cO eG h' h0.size 3 q.2.1 q.2.2/\(∀j∈q.2.2,j<ss.length)/\stepG ss c (now.drop q.1) q.2.2=tgt) (fun q=>nn-q.1) ((0,.slice none 0 0,[])) rfl ⟨rfl,rfl,rfl,rfl,rfl,rfl,trivial⟩ ⟨Ext.refl _ _,Nat.zero_le _,cO.nil _ _ _ _,(fun j hj=>by cases hj),htgt⟩ ?_;rintro⟨i,ov,acc⟩ h1 ⟨e1,hi,ho,hal,hcon⟩ ih
   try dsimp only
   dsimp only at hi ho hal hcon;have hz1:=e1.size;have hn1:cy h1 O nb (.slice va ss.length vc) ss st:=hn.ay e1 (fun _ _ k=>k);have hacc:acc.length<=tgt.length:=by rw[<-hcon];exact qq _ _ _ _
   refine aY func53 1 [0,2,7,12,13,14,15] rfl ?_;refine av rfl ?_;refine aO rfl rfl (fun hlti=>?_) (fun hlti=>?_)
   · obtain⟨j,hj⟩:∃j,now[i]? =some j:=⟨_,List.getElem?_eq_getElem (by omega)⟩
     obtain⟨bb,o,cs,ha,_,hrow,rfl⟩:=hget i j hj;have hjl:j<ss.length:=hlt j (List.mem_of_getElem? hj);obtain⟨y,hy⟩:∃y,ss[j]? =some y:=⟨_,List.getElem?_eq_getElem hjl⟩
     obtain⟨gs,cs,ws,hvs,hgs,hrw,hws⟩:=hn1.get hy;cases hvs
     have hdr:now.drop i=j::now.drop (i+1):=by
      obtain⟨hi',rfl⟩:=List.getElem?_eq_some_iff.1 hj;exact List.drop_eq_getElem_cons hi'
     rw[hdr,stepG,hy] at hcon;simp only at hcon;have hrow1:Lw.rowAt h1 bb (o+i*1) [eG j]:=e1.rowAt (fun k=>k) hrow
     have hset:Lw.rowAt h1 gs (0+j*7+1) (uS y.set):=fun q u hu=>by
      have hq:(DG y.kind y.set ws y.rule)[1+q]? =some u:=by
       match q with
       | 0=>exact hu
       | 1=>exact hu
       | 2=>exact hu
       | 3=>exact hu
       |q+4=>simp[uS] at hu
      have:=hrw (1+q) u hq
      rwa [<-Nat.add_assoc] at this
     refine aB rfl ?_;refine av rfl ?_;refine G.block rfl rfl ?_;refine xr func53 rfl ?_;refine xp rfl (aj.ax underlying127 H.bW rfl rfl i rfl ha (by omega)) ?_;refine xp rfl (ai H.cM rfl (hrow1 0 _ rfl)) ?_;refine aS 1 [0,2,7,9,12,13,14,15] rfl ?_;refine av rfl ?_;refine G.tO (fun(_u:Unit) (h':az)=>aD h1 h') (fun(_u:Unit)=>[(51,.bool (iX y c))]) [(0,_),(2,_),(7,_),(9,_),(12,_),(13,_),(14,_),(15,_)] ⟨rfl,rfl,rfl,rfl,rfl,rfl,rfl,rfl,trivial⟩ func53 rfl ?_ ?_
     · refine bf 3 rfl ?_;refine RW.dn (d:=20) (b':=true) rfl (decide_eq_true (by omega)) ?_;refine ct 3 rfl rfl (af (off:=0) underlying126 rfl rfl H.gG rfl) ?_;refine xp rfl (ai H.iz rfl (hn1.blk.cell (i:=0) rfl)) ?_;refine xp rfl (aj.aK underlying124 rfl) ?_;refine bf 3 rfl ?_;refine RW.dn (d:=29) (b':=true) rfl (decide_eq_true (by omega)) ?_;refine ct 2 rfl rfl (af (off:=0) underlying126 rfl rfl H.gG rfl) ?_;refine xp rfl (ai H.iz rfl (hn1.blk.cell (i:=0) rfl)) ?_;refine ct 1 rfl rfl (aj.ax underlying124 H.lM rfl rfl j rfl rfl hjl) ?_;refine xp rfl (af (off:=0) underlying138 rfl rfl H.bW rfl) ?_;refine xp rfl (ai H.cM rfl (hrw 0 _ rfl)) ?_;refine bf 3 rfl ?_;refine aN (d:=40) rfl (fun hk=>?_) (fun hk=>?_)
       · have hk':=of_decide_eq_true hk;have hk2:y.kind=1:=by omega
         refine ct 2 rfl rfl (af (off:=0) underlying126 rfl rfl H.gG rfl) ?_;refine xp rfl (ai H.iz rfl (hn1.blk.cell (i:=0) rfl)) ?_;refine ct 1 rfl rfl (aj.ax underlying124 H.lM rfl rfl j rfl rfl hjl) ?_;refine xp rfl (af (off:=1) underlying138 rfl rfl H.lN rfl) ?_;refine xp rfl (aj.aH H.IZ H.lN rfl hset (by first|rfl|(simp;done)|(simp;omega))) ?_;refine bf 1 rfl ?_;refine xo rfl (aq (vs:=[_,_]) func103 rfl H.KF rfl (ah.br (Ej y.set c))) ?_;rintro _ h2 ⟨rfl,e2⟩;refine bf 1 rfl ?_;refine aE rfl ?_;exact⟨(),e2,aF rfl (by simp[iX,hk2]),rfl,rfl,rfl,rfl,rfl,rfl,rfl,rfl,trivial⟩
       · have hk':=of_decide_eq_false hk;have hk2:¬y.kind=1:=by omega
         refine bf 11 rfl ?_;refine aE rfl ?_;exact⟨(),Ext.refl _ _,aF rfl (by simp[iX,hk2]),rfl,rfl,rfl,rfl,rfl,rfl,rfl,rfl,trivial⟩
     · rintro _ h2 e2;have e02:=e1.trans e2;have ho2:cO eG h2 h0.size 3 ov acc:=cO.ay ho e2;have hn2:cy h2 O nb _ ss st:=hn.ay e02 (fun _ _ k=>k);have hz2:=e02.size;refine aG rfl rfl (fun hb=>?_) (fun hb=>?_)
       · rw[if_pos hb] at hcon;have hacc2:(acc++y.to).length<=tgt.length:=by rw[<-hcon];exact qq _ _ _ _
         rw[List.length_append] at hacc2;obtain⟨gs,cs,ws,hvs,hgs,hrw2,hws2⟩:=hn2.get hy;cases hvs;obtain⟨wa,wn,wc,rfl,_⟩:=id hws2;obtain⟨hwl,hwn,hwm⟩:=Be hws2;refine G.cq func53 rfl ?_;refine ct 3 rfl rfl (af (off:=0) underlying126 rfl rfl H.gG rfl) ?_;refine xp rfl (ai H.iz rfl (hn2.blk.cell (i:=0) rfl)) ?_;refine ct 1 rfl rfl (aj.ax underlying124 H.lM rfl rfl j rfl rfl hjl) ?_;refine xp rfl (af (off:=5) underlying138 rfl rfl H.gN rfl) ?_;refine xp rfl (ai H.nV rfl (hrw2 5 _ rfl)) ?_;refine xo rfl (aA.append underlying127 H.pV rfl rfl ho2 (by simp[hwl]) hwn (by intro u hu;simp at hu;obtain⟨j,_,rfl⟩:=hu;rfl) (by simp only[maxLen];omega) (by omega) (by omega)) ?_;rintro ov3 h3 ⟨ho3,hx3,-,hv3⟩;refine aS 1 [0,2,7,9,12,13,14,15,51] rfl ?_;refine G.aQ ?_;refine G.cq func53 rfl ?_;refine xp rfl (aj.bC rfl rfl ⟨by omega,by omega⟩) ?_;refine aS 1 [0,2,7,9,12,13,14,15,51] rfl ?_
         have ho3':cO eG h3 h0.size 3 ov3 (acc++y.to):=by
          unfold cO;rw[List.length_append,hwl,List.map_append];exact ho3
         have e3:aD h0 h3:=cO.grown e02 ho2 (Nat.le_refl _) hx3
         have hal3:∀j∈acc++y.to,j<ss.length:=fun j hj=>by
          rcases List.mem_append.1 hj with k|k
          · exact hal j k
          · exact hgood y (List.mem_of_getElem? hy) j k
         exact ih (i+1,ov3,acc++y.to) _ _ ⟨rfl,rfl,rfl,rfl,rfl,rfl,trivial⟩ ⟨e3,by show i+1<=nn;omega,ho3',hal3,hcon⟩ (by show nn-(i+1)<nn-i;omega)
       · rw[if_neg (by rw[hb];decide)] at hcon;refine aB rfl ?_;refine G.aQ ?_;refine G.cq func53 rfl ?_;refine xp rfl (aj.bC rfl rfl ⟨by omega,by omega⟩) ?_;refine aS 1 [0,2,7,9,12,13,14,15,51] rfl ?_;exact ih (i+1,ov,acc) _ _ ⟨rfl,rfl,rfl,rfl,rfl,rfl,trivial⟩ ⟨e02,by show i+1<=nn;omega,ho2,hal,hcon⟩ (by show nn-(i+1)<nn-i;omega)
   · have hnil:now.drop i=[]:=List.drop_of_length_le (by omega);rw[hnil,stepG] at hcon;subst hcon;have hol:∀b,ov.ownBlock=some b->h0.size<=b/\b<h1.size:=fun b hb=>aR.lt ho hb
     have hn':cy h1 (fun b=>O b\/dz ov.ownBlock b) nb (.slice va ss.length vc) ss st:=hn.ay e1 (fun b hb k=>k.elim id (fun k=>by have:=(hol b k.symm).1;omega));refine bw rfl rfl ?_;refine bp func53 2 rfl ?_;refine xo rfl (aq (vs:=[_,_]) func98 rfl H.J4 rfl (ah.br (pZ (tb:=ov.ownBlock) hn' hgood hss ho rfl (by omega) (fun b hb=>⟨.inr hb.symm,by have:=hol b hb;omega,fun k=>by have:=hol b hb;have:=(hown b k).2;omega⟩) hal hpot))) ?_;rintro _ h2 ⟨ho2,hx2⟩;refine aS 1 [0,2,6,7,12,13,14,15] rfl ?_;refine G.ret func53 rfl rfl ?_;rw[bg,if_neg hz,htgt];refine⟨_,rfl,aR.lower ho2 (by omega),⟨by have:=hx2.size;omega,fun b hb _=>?_⟩⟩;rw[hx2.block b (by omega) (fun k=>by have:=hol b k.symm;omega)];exact e1.block b hb (fun k=>k)
theorem qh {α:Type}{e:gQ α}{Q Q':Nat->Prop}{xs:List α}(k:bS e h Q v xs) (hq:∀b,Q' b->Q b):bS e h Q' v xs:=k.mv ⟨Nat.le_refl _,fun b _ hn=>⟨rfl,fun k=>hn (hq b k)⟩⟩
end
end Go.Proofs.YtmehdcdbeafljaaGreatDoor
