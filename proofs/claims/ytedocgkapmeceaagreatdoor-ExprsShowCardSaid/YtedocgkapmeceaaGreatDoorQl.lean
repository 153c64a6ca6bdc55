/- What the proof of the statement leans on (part 12). -/
import Derived.Test.YtedocgkapmeceaaGreatDoorRows
import Derived.Test.YtedocgkapmeceaaGreatDoorQk

namespace Go.Proofs.YtedocgkapmeceaaGreatDoor.H
open Go Go.Lw
theorem K1:bS Tryz.prog 106=some true:=by kernel_rfl
theorem iw:bS Tryz.prog 118=some false:=by kernel_rfl
theorem ou:bS Tryz.prog 121=some false:=by kernel_rfl
theorem GI:bS Tryz.prog 122=some false:=by kernel_rfl
theorem IK:bS Tryz.prog 123=some true:=by kernel_rfl
theorem vE:bS Tryz.prog 124=some false:=by kernel_rfl
theorem eX:bS Tryz.prog 126=some true:=by kernel_rfl
theorem K0:bS Tryz.prog 132=some true:=by kernel_rfl
theorem Dj:bS Tryz.prog 136=some false:=by kernel_rfl
theorem Bm:bS Tryz.prog 138=some true:=by kernel_rfl
theorem qG:bS Tryz.prog 141=some false:=by kernel_rfl
theorem vD:bS Tryz.prog 147=some true:=by kernel_rfl
theorem IJ:bS Tryz.prog 167=some true:=by kernel_rfl
theorem KZ:bS Tryz.prog 168=some true:=by kernel_rfl
theorem GH:bS Tryz.prog 176=some false:=by kernel_rfl
theorem iC:bS Tryz.prog 25=some true:=by kernel_rfl
theorem II:bS Tryz.prog 254=some true:=by kernel_rfl
theorem IG:bS Tryz.prog 259=some false:=by kernel_rfl
theorem kN:bS Tryz.prog 28=some false:=by kernel_rfl
theorem Jm:bS Tryz.prog 29=some false:=by kernel_rfl
theorem cG:bS Tryz.prog 3=some false:=by kernel_rfl
theorem qF:bS Tryz.prog 32=some false:=by kernel_rfl
theorem bN:bS Tryz.prog 39=some true:=by kernel_rfl
theorem vC:bS Tryz.prog 4=some false:=by kernel_rfl
theorem rL:bS Tryz.prog 43=some true:=by kernel_rfl
theorem KY:bS Tryz.prog 5=some false:=by kernel_rfl
theorem zg:bS Tryz.prog 56=some false:=by kernel_rfl
theorem zf:bS Tryz.prog 59=some true:=by kernel_rfl
theorem nU:bS Tryz.prog 64=some false:=by kernel_rfl
theorem Mc:bS Tryz.prog 81=some false:=by kernel_rfl
theorem HK:bS Tryz.prog 87=some false:=by kernel_rfl
theorem dO:bS Tryz.prog 9=some false:=by kernel_rfl
theorem tf:bS Tryz.prog 90=some false:=by kernel_rfl
theorem HJ:bS Tryz.prog 93=some false:=by kernel_rfl
theorem Mb:bS Tryz.prog 95=some false:=by kernel_rfl
theorem sG (a0:Int) (a1:ByteArray) (a2:Int):Tryz.prog.built 106 [(0,.int .i64 a0),(1,.string a1),(2,.int .i64 a2)]=some #[.int .i64 a0,.string a1,.int .i64 a2]:=by kernel_rfl
theorem gk (a0:ByteArray) (a1:ByteArray) (a2:ByteArray) (a3:ByteArray) (a4:ByteArray) (a5:ByteArray) (a6:ByteArray) (a7:ByteArray) (a8:ByteArray) (a9:ByteArray) (a10:ByteArray) (a11:ByteArray) (a12:ByteArray):Tryz.prog.built 114 [(0,.string a0),(1,.string a1),(2,.string a2),(3,.string a3),(4,.string a4),(5,.string a5),(6,.string a6),(7,.string a7),(8,.string a8),(9,.string a9),(10,.string a10),(11,.string a11),(12,.string a12)]=some #[.string a0,.string a1,.string a2,.string a3,.string a4,.string a5,.string a6,.string a7,.string a8,.string a9,.string a10,.string a11,.string a12]:=by kernel_rfl
theorem iB (a0:Int) (a1:Int) (a2:Int) (a3:Int) (a4:Int) (a5:Int) (a6:Int) (a7:Int) (a8:Int) (a9:Int) (a10:Int):Tryz.prog.built 115 [(0,.int .i64 a0),(1,.int .i64 a1),(2,.int .i64 a2),(3,.int .i64 a3),(4,.int .i64 a4),(5,.int .i64 a5),(6,.int .i64 a6),(7,.int .i64 a7),(8,.int .i64 a8),(9,.int .i64 a9),(10,.int .i64 a10)]=some #[.int .i64 a0,.int .i64 a1,.int .i64 a2,.int .i64 a3,.int .i64 a4,.int .i64 a5,.int .i64 a6,.int .i64 a7,.int .i64 a8,.int .i64 a9,.int .i64 a10]:=by kernel_rfl
theorem Jl  : Tryz.prog.built 120 []=some #[.slice none 0 0,.int .i64 (0)]:=by kernel_rfl
theorem Cv  : Tryz.prog.built 126 []=some #[.int .i64 (0),.int .u64 (0),.int .u64 (0),.int .u64 (0),.int .u64 (0),.slice none 0 0]:=by kernel_rfl
theorem rH (a0:Int) (a2:Option Addr) (n2 c2:Nat):Tryz.prog.built 126 [(0,.int .i64 a0),(2,.slice a2 n2 c2)]=some #[.int .i64 a0,.int .u64 (0),.int .u64 (0),.int .u64 (0),.int .u64 (0),.slice a2 n2 c2]:=by kernel_rfl
theorem Di (a0:Int):Tryz.prog.built 126 [(0,.int .i64 a0)]=some #[.int .i64 a0,.int .u64 (0),.int .u64 (0),.int .u64 (0),.int .u64 (0),.slice none 0 0]:=by kernel_rfl
theorem Gz  : Tryz.prog.built 132 []=some #[.int .i64 (0),.int .u64 (0),.int .u64 (0),.int .u64 (0),.int .u64 (0),.slice none 0 0,.int .i64 (0)]:=by kernel_rfl
theorem Bi (a0:Int) (a1_0 a1_1 a1_2 a1_3:Value) (a2:Option Addr) (n2 c2:Nat):Tryz.prog.built 132 [(0,.int .i64 a0),(1,.agg #[a1_0,a1_1,a1_2,a1_3]),(2,.slice a2 n2 c2)]=some #[.int .i64 a0,a1_0,a1_1,a1_2,a1_3,.slice a2 n2 c2,.int .i64 (0)]:=by kernel_rfl
theorem Ex (a0:Int) (a3:Int):Tryz.prog.built 132 [(0,.int .i64 a0),(3,.int .i64 a3)]=some #[.int .i64 a0,.int .u64 (0),.int .u64 (0),.int .u64 (0),.int .u64 (0),.slice none 0 0,.int .i64 a3]:=by kernel_rfl
theorem zc (a2:Option Addr) (n2 c2:Nat):Tryz.prog.built 132 [(2,.slice a2 n2 c2)]=some #[.int .i64 (0),.int .u64 (0),.int .u64 (0),.int .u64 (0),.int .u64 (0),.slice a2 n2 c2,.int .i64 (0)]:=by kernel_rfl
theorem Jk  : Tryz.prog.built 138 []=some #[.string ⟨#[]⟩,.int .i64 (0),.int .i64 (0)]:=by kernel_rfl
theorem Gy  : Tryz.prog.built 143 []=some #[.slice none 0 0,.slice none 0 0]:=by kernel_rfl
theorem gV  : Tryz.prog.built 189 []=some #[]:=by kernel_rfl
theorem HE (a0:ByteArray):Tryz.prog.built 192 [(0,.string a0)]=some #[.string a0]:=by kernel_rfl
theorem KW  : Tryz.prog.built 25 []=some #[.int .i64 (0),.int .i64 (0)]:=by kernel_rfl
theorem Gx (a0:Int) (a1:Int):Tryz.prog.built 25 [(0,.int .i64 a0),(1,.int .i64 a1)]=some #[.int .i64 a0,.int .i64 a1]:=by kernel_rfl
theorem Jj (a0:Int):Tryz.prog.built 25 [(0,.int .i64 a0)]=some #[.int .i64 a0,.int .i64 (0)]:=by kernel_rfl
theorem Bh  : Tryz.prog.built 39 []=some #[.int .i64 (0),.string ⟨#[]⟩,.slice none 0 0]:=by kernel_rfl
theorem kL (a0:Int) (a1:ByteArray):Tryz.prog.built 39 [(0,.int .i64 a0),(1,.string a1)]=some #[.int .i64 a0,.string a1,.slice none 0 0]:=by kernel_rfl
theorem gU (a0:Int) (a1:ByteArray) (a2:Option Addr) (n2 c2:Nat):Tryz.prog.built 39 [(0,.int .i64 a0),(1,.string a1),(2,.slice a2 n2 c2)]=some #[.int .i64 a0,.string a1,.slice a2 n2 c2]:=by kernel_rfl
theorem Bg (a0:Int) (a2:Option Addr) (n2 c2:Nat):Tryz.prog.built 39 [(0,.int .i64 a0),(2,.slice a2 n2 c2)]=some #[.int .i64 a0,.string ⟨#[]⟩,.slice a2 n2 c2]:=by kernel_rfl
theorem Ji (a0:Int):Tryz.prog.built 39 [(0,.int .i64 a0)]=some #[.int .i64 a0,.string ⟨#[]⟩,.slice none 0 0]:=by kernel_rfl
theorem Gw (a0:Int) (a1:ByteArray):Tryz.prog.built 43 [(0,.int .i64 a0),(1,.string a1)]=some #[.int .i64 a0,.string a1,.slice none 0 0]:=by kernel_rfl
theorem KV  : Tryz.prog.built 59 []=some #[.int .i64 (0),.int .i64 (0),.int .i64 (0)]:=by kernel_rfl
theorem vv (a0:Int) (a1:Int) (a2:Int):Tryz.prog.built 59 [(0,.int .i64 a0),(1,.int .i64 a1),(2,.int .i64 a2)]=some #[.int .i64 a0,.int .i64 a1,.int .i64 a2]:=by kernel_rfl
theorem Gv (a0:Option Addr) (n0 c0:Nat) (a2:Int):Tryz.prog.built 69 [(0,.slice a0 n0 c0),(2,.int .i64 a2)]=some #[.slice a0 n0 c0,.int .i64 (0),.int .i64 a2,.bool false,.int .i64 (0)]:=by kernel_rfl
theorem KU  : Tryz.prog.built 89 []=some #[.slice none 0 0]:=by kernel_rfl
theorem kK:Tryz.prog.concrete 189=true:=by kernel_rfl
set_option maxRecDepth 100000 in
theorem Db:fD Tryz.prog 106 3 32:=⟨⟨_,_,rfl,rfl,rfl,rfl,rfl⟩,by decide⟩
set_option maxRecDepth 100000 in
theorem Gk:fD Tryz.prog 121 1 24:=⟨⟨_,_,rfl,rfl,rfl,rfl,rfl⟩,by decide⟩
set_option maxRecDepth 100000 in
theorem ve:fD Tryz.prog 126 6 64:=⟨⟨_,_,rfl,rfl,rfl,rfl,rfl⟩,by decide⟩
set_option maxRecDepth 100000 in
theorem IC:fD Tryz.prog 132 7 72:=⟨⟨_,_,rfl,rfl,rfl,rfl,rfl⟩,by decide⟩
set_option maxRecDepth 100000 in
theorem Da:fD Tryz.prog 147 256 2048:=⟨⟨_,_,rfl,rfl,rfl,rfl,rfl⟩,by decide⟩
set_option maxRecDepth 100000 in
theorem qw:fD Tryz.prog 3 1 8:=⟨⟨_,_,rfl,rfl,rfl,rfl,rfl⟩,by decide⟩
set_option maxRecDepth 100000 in
theorem gR:fD Tryz.prog 39 3 48:=⟨⟨_,_,rfl,rfl,rfl,rfl,rfl⟩,by decide⟩
set_option maxRecDepth 100000 in
theorem Mi:fD Tryz.prog 4 1 1:=⟨⟨_,_,rfl,rfl,rfl,rfl,rfl⟩,by decide⟩
set_option maxRecDepth 100000 in
theorem KI:fD Tryz.prog 43 3 48:=⟨⟨_,_,rfl,rfl,rfl,rfl,rfl⟩,by decide⟩
set_option maxRecDepth 100000 in
theorem Lc:fD Tryz.prog 5 1 1:=⟨⟨_,_,rfl,rfl,rfl,rfl,rfl⟩,by decide⟩
set_option maxRecDepth 100000 in
theorem KH:fD Tryz.prog 59 3 24:=⟨⟨_,_,rfl,rfl,rfl,rfl,rfl⟩,by decide⟩
set_option maxRecDepth 100000 in
theorem nT:fD Tryz.prog 9 1 16:=⟨⟨_,_,rfl,rfl,rfl,rfl,rfl⟩,by decide⟩
set_option maxRecDepth 100000 in
theorem KG:fD Tryz.prog 95 1 8:=⟨⟨_,_,rfl,rfl,rfl,rfl,rfl⟩,by decide⟩
theorem mixed:Tryz.prog.follows .mixedOrders=true:=by kernel_rfl
theorem Kw:(Tryz.f100.name == "runtime.NumGoroutine")=false:=by decide +kernel
theorem FL:(Tryz.f101.name == "runtime.NumGoroutine")=false:=by decide +kernel
theorem uo:(Tryz.f102.name == "runtime.NumGoroutine")=false:=by decide +kernel
theorem C4:(Tryz.f103.name == "runtime.NumGoroutine")=false:=by decide +kernel
theorem Kv:(Tryz.f104.name == "runtime.NumGoroutine")=false:=by decide +kernel
theorem Ay:(Tryz.f106.name == "runtime.NumGoroutine")=false:=by decide +kernel
theorem FK:(Tryz.f107.name == "runtime.NumGoroutine")=false:=by decide +kernel
theorem Ku:(Tryz.f108.name == "runtime.NumGoroutine")=false:=by decide +kernel
theorem Iw:(Tryz.f110.name == "runtime.NumGoroutine")=false:=by decide +kernel
theorem Kt:(Tryz.f111.name == "runtime.NumGoroutine")=false:=by decide +kernel
theorem FJ:(Tryz.f113.name == "runtime.NumGoroutine")=false:=by decide +kernel
theorem Iv:(Tryz.f114.name == "runtime.NumGoroutine")=false:=by decide +kernel
theorem Ks:(Tryz.f115.name == "runtime.NumGoroutine")=false:=by decide +kernel
theorem Kr:(Tryz.f116.name == "runtime.NumGoroutine")=false:=by decide +kernel
theorem Kq:(Tryz.f117.name == "runtime.NumGoroutine")=false:=by decide +kernel
theorem Kp:(Tryz.f118.name == "runtime.NumGoroutine")=false:=by decide +kernel
theorem Iu:(Tryz.f119.name == "runtime.NumGoroutine")=false:=by decide +kernel
theorem Ko:(Tryz.f12.name == "runtime.NumGoroutine")=false:=by decide +kernel
theorem Is:(Tryz.f120.name == "runtime.NumGoroutine")=false:=by decide +kernel
theorem Kn:(Tryz.f129.name == "runtime.NumGoroutine")=false:=by decide +kernel
theorem mL:(Tryz.f13.name == "runtime.NumGoroutine")=false:=by decide +kernel
theorem FI:(Tryz.f130.name == "runtime.NumGoroutine")=false:=by decide +kernel
theorem FH:(Tryz.f131.name == "runtime.NumGoroutine")=false:=by decide +kernel
theorem um:(Tryz.f132.name == "runtime.NumGoroutine")=false:=by decide +kernel
theorem C3:(Tryz.f136.name == "runtime.NumGoroutine")=false:=by decide +kernel
theorem Km:(Tryz.f137.name == "runtime.NumGoroutine")=false:=by decide +kernel
theorem Kl:(Tryz.f138.name == "runtime.NumGoroutine")=false:=by decide +kernel
theorem Kk:(Tryz.f139.name == "runtime.NumGoroutine")=false:=by decide +kernel
theorem Kj:(Tryz.f14.name == "runtime.NumGoroutine")=false:=by decide +kernel
theorem FG:(Tryz.f140.name == "runtime.NumGoroutine")=false:=by decide +kernel
theorem Ki:(Tryz.f141.name == "runtime.NumGoroutine")=false:=by decide +kernel
theorem Ir:(Tryz.f142.name == "runtime.NumGoroutine")=false:=by decide +kernel
theorem C1:(Tryz.f143.name == "runtime.NumGoroutine")=false:=by decide +kernel
theorem Iq:(Tryz.f144.name == "runtime.NumGoroutine")=false:=by decide +kernel
theorem I6:(Tryz.f15.name == "runtime.NumGoroutine")=false:=by decide +kernel
theorem Ax:(Tryz.f154.name == "runtime.NumGoroutine")=false:=by decide +kernel
theorem Kh:(Tryz.f156.name == "runtime.NumGoroutine")=false:=by decide +kernel
theorem I5:(Tryz.f16.name == "runtime.NumGoroutine")=false:=by decide +kernel
theorem Kg:(Tryz.f160.name == "runtime.NumGoroutine")=false:=by decide +kernel
theorem Kf:(Tryz.f168.name == "runtime.NumGoroutine")=false:=by decide +kernel
theorem L5:(Tryz.f17.name == "runtime.NumGoroutine")=false:=by decide +kernel
theorem Ke:(Tryz.f170.name == "runtime.NumGoroutine")=false:=by decide +kernel
theorem Kc:(Tryz.f171.name == "runtime.NumGoroutine")=false:=by decide +kernel
theorem Kb:(Tryz.f174.name == "runtime.NumGoroutine")=false:=by decide +kernel
theorem Ip:(Tryz.f175.name == "runtime.NumGoroutine")=false:=by decide +kernel
theorem uk:(Tryz.f176.name == "runtime.NumGoroutine")=false:=by decide +kernel
theorem Ka:(Tryz.f18.name == "runtime.NumGoroutine")=false:=by decide +kernel
theorem Io:(Tryz.f188.name == "runtime.NumGoroutine")=false:=by decide +kernel
theorem J9:(Tryz.f189.name == "runtime.NumGoroutine")=false:=by decide +kernel
theorem J8:(Tryz.f19.name == "runtime.NumGoroutine")=false:=by decide +kernel
theorem Im:(Tryz.f191.name == "runtime.NumGoroutine")=false:=by decide +kernel
theorem J7:(Tryz.f192.name == "runtime.NumGoroutine")=false:=by decide +kernel
theorem wU:(Tryz.f193.name == "runtime.NumGoroutine")=false:=by decide +kernel
theorem Il:(Tryz.f194.name == "runtime.NumGoroutine")=false:=by decide +kernel
theorem L4:(Tryz.f20.name == "runtime.NumGoroutine")=false:=by decide +kernel
theorem Ik:(Tryz.f204.name == "runtime.NumGoroutine")=false:=by decide +kernel
theorem Ij:(Tryz.f206.name == "runtime.NumGoroutine")=false:=by decide +kernel
theorem Ii:(Tryz.f207.name == "runtime.NumGoroutine")=false:=by decide +kernel
theorem FF:(Tryz.f208.name == "runtime.NumGoroutine")=false:=by decide +kernel
theorem FE:(Tryz.f21.name == "runtime.NumGoroutine")=false:=by decide +kernel
theorem FD:(Tryz.f211.name == "runtime.NumGoroutine")=false:=by decide +kernel
theorem J6:(Tryz.f213.name == "runtime.NumGoroutine")=false:=by decide +kernel
theorem J5:(Tryz.f214.name == "runtime.NumGoroutine")=false:=by decide +kernel
theorem L3:(Tryz.f22.name == "runtime.NumGoroutine")=false:=by decide +kernel
theorem J4:(Tryz.f24.name == "runtime.NumGoroutine")=false:=by decide +kernel
theorem J3:(Tryz.f25.name == "runtime.NumGoroutine")=false:=by decide +kernel
theorem iY:(Tryz.f26.name == "runtime.NumGoroutine")=false:=by decide +kernel
theorem wq:(Tryz.f27.name == "runtime.NumGoroutine")=false:=by decide +kernel
theorem I4:(Tryz.f32.name == "runtime.NumGoroutine")=false:=by decide +kernel
theorem L2:(Tryz.f33.name == "runtime.NumGoroutine")=false:=by decide +kernel
theorem L1:(Tryz.f34.name == "runtime.NumGoroutine")=false:=by decide +kernel
theorem FC:(Tryz.f35.name == "runtime.NumGoroutine")=false:=by decide +kernel
theorem I3:(Tryz.f36.name == "runtime.NumGoroutine")=false:=by decide +kernel
theorem L0:(Tryz.f37.name == "runtime.NumGoroutine")=false:=by decide +kernel
theorem LZ:(Tryz.f38.name == "runtime.NumGoroutine")=false:=by decide +kernel
theorem LY:(Tryz.f39.name == "runtime.NumGoroutine")=false:=by decide +kernel
theorem LX:(Tryz.f40.name == "runtime.NumGoroutine")=false:=by decide +kernel
theorem LW:(Tryz.f41.name == "runtime.NumGoroutine")=false:=by decide +kernel
theorem J2:(Tryz.f42.name == "runtime.NumGoroutine")=false:=by decide +kernel
theorem LV:(Tryz.f45.name == "runtime.NumGoroutine")=false:=by decide +kernel
theorem LU:(Tryz.f46.name == "runtime.NumGoroutine")=false:=by decide +kernel
theorem J1:(Tryz.f47.name == "runtime.NumGoroutine")=false:=by decide +kernel
theorem B0:(Tryz.f48.name == "runtime.NumGoroutine")=false:=by decide +kernel
theorem I2:(Tryz.f49.name == "runtime.NumGoroutine")=false:=by decide +kernel
theorem LS:(Tryz.f54.name == "runtime.NumGoroutine")=false:=by decide +kernel
theorem LR:(Tryz.f55.name == "runtime.NumGoroutine")=false:=by decide +kernel
theorem LQ:(Tryz.f56.name == "runtime.NumGoroutine")=false:=by decide +kernel
theorem I1:(Tryz.f57.name == "runtime.NumGoroutine")=false:=by decide +kernel
theorem LP:(Tryz.f58.name == "runtime.NumGoroutine")=false:=by decide +kernel
theorem J0:(Tryz.f59.name == "runtime.NumGoroutine")=false:=by decide +kernel
theorem LO:(Tryz.f60.name == "runtime.NumGoroutine")=false:=by decide +kernel
theorem LN:(Tryz.f61.name == "runtime.NumGoroutine")=false:=by decide +kernel
theorem LM:(Tryz.f62.name == "runtime.NumGoroutine")=false:=by decide +kernel
theorem D2:(Tryz.f63.name == "runtime.NumGoroutine")=false:=by decide +kernel
theorem BZ:(Tryz.f64.name == "runtime.NumGoroutine")=false:=by decide +kernel
theorem LL:(Tryz.f65.name == "runtime.NumGoroutine")=false:=by decide +kernel
theorem LK:(Tryz.f66.name == "runtime.NumGoroutine")=false:=by decide +kernel
theorem Hg:(Tryz.f67.name == "runtime.NumGoroutine")=false:=by decide +kernel
theorem LJ:(Tryz.f68.name == "runtime.NumGoroutine")=false:=by decide +kernel
theorem LI:(Tryz.f69.name == "runtime.NumGoroutine")=false:=by decide +kernel
theorem Mg:(Tryz.f7.name == "runtime.NumGoroutine")=false:=by decide +kernel
theorem JZ:(Tryz.f70.name == "runtime.NumGoroutine")=false:=by decide +kernel
theorem LH:(Tryz.f71.name == "runtime.NumGoroutine")=false:=by decide +kernel
theorem LG:(Tryz.f72.name == "runtime.NumGoroutine")=false:=by decide +kernel
theorem JY:(Tryz.f73.name == "runtime.NumGoroutine")=false:=by decide +kernel
theorem LF:(Tryz.f74.name == "runtime.NumGoroutine")=false:=by decide +kernel
theorem LD:(Tryz.f75.name == "runtime.NumGoroutine")=false:=by decide +kernel
theorem LC:(Tryz.f76.name == "runtime.NumGoroutine")=false:=by decide +kernel
theorem JX:(Tryz.f77.name == "runtime.NumGoroutine")=false:=by decide +kernel
theorem JW:(Tryz.f78.name == "runtime.NumGoroutine")=false:=by decide +kernel
theorem LB:(Tryz.f84.name == "runtime.NumGoroutine")=false:=by decide +kernel
theorem LA:(Tryz.f86.name == "runtime.NumGoroutine")=false:=by decide +kernel
theorem JV:(Tryz.f88.name == "runtime.NumGoroutine")=false:=by decide +kernel
theorem D1:(Tryz.f89.name == "runtime.NumGoroutine")=false:=by decide +kernel
theorem Mx:(Tryz.f9.name == "runtime.NumGoroutine")=false:=by decide +kernel
theorem JU:(Tryz.f90.name == "runtime.NumGoroutine")=false:=by decide +kernel
theorem JT:(Tryz.f91.name == "runtime.NumGoroutine")=false:=by decide +kernel
theorem Lz:(Tryz.f92.name == "runtime.NumGoroutine")=false:=by decide +kernel
theorem Ly:(Tryz.f93.name == "runtime.NumGoroutine")=false:=by decide +kernel
theorem Lx:(Tryz.f99.name == "runtime.NumGoroutine")=false:=by decide +kernel
theorem kf:cZ Tryz.prog 106=some 3:=by kernel_rfl
theorem JG:cZ Tryz.prog 114=some 13:=by kernel_rfl
theorem gv:cZ Tryz.prog 118=some 1:=by kernel_rfl
theorem gI:cZ Tryz.prog 121=some 1:=by kernel_rfl
theorem tN:cZ Tryz.prog 122=some 1:=by kernel_rfl
theorem lX:cZ Tryz.prog 123=some 4:=by kernel_rfl
theorem zT:cZ Tryz.prog 124=some 1:=by kernel_rfl
theorem cv:cZ Tryz.prog 126=some 6:=by kernel_rfl
theorem lW:cZ Tryz.prog 132=some 7:=by kernel_rfl
theorem E3:cZ Tryz.prog 136=some 1:=by kernel_rfl
theorem ke:cZ Tryz.prog 138=some 3:=by kernel_rfl
theorem j9:cZ Tryz.prog 141=some 1:=by kernel_rfl
theorem j8:cZ Tryz.prog 147=some 256:=by kernel_rfl
theorem wK:cZ Tryz.prog 167=some 2:=by kernel_rfl
theorem JF:cZ Tryz.prog 168=some 12:=by kernel_rfl
theorem zS:cZ Tryz.prog 176=some 1:=by kernel_rfl
theorem eH:cZ Tryz.prog 25=some 2:=by kernel_rfl
theorem CN:cZ Tryz.prog 254=some 256:=by kernel_rfl
theorem fE:cZ Tryz.prog 28=some 1:=by kernel_rfl
theorem IU:cZ Tryz.prog 29=some 1:=by kernel_rfl
theorem bY:cZ Tryz.prog 3=some 1:=by kernel_rfl
theorem nQ:cZ Tryz.prog 32=some 1:=by kernel_rfl
theorem aV:cZ Tryz.prog 39=some 3:=by kernel_rfl
theorem mg:cZ Tryz.prog 4=some 1:=by kernel_rfl
theorem dI:cZ Tryz.prog 43=some 3:=by kernel_rfl
theorem Jt:cZ Tryz.prog 5=some 1:=by kernel_rfl
theorem oC:cZ Tryz.prog 56=some 1:=by kernel_rfl
theorem lf:cZ Tryz.prog 59=some 3:=by kernel_rfl
theorem nP:cZ Tryz.prog 64=some 1:=by kernel_rfl
theorem Lr:cZ Tryz.prog 81=some 1:=by kernel_rfl
theorem G2:cZ Tryz.prog 83=some 3:=by kernel_rfl
theorem DA:cZ Tryz.prog 87=some 1:=by kernel_rfl
theorem dA:cZ Tryz.prog 9=some 1:=by kernel_rfl
theorem Lq:cZ Tryz.prog 93=some 1:=by kernel_rfl
theorem Lp:cZ Tryz.prog 95=some 1:=by kernel_rfl
theorem JB:(Tryz.prog.info? 106).bind (·.zero)=some (.agg #[.int .i64 (0),.string ⟨#[]⟩,.int .i64 (0)]):=by kernel_rfl
theorem JA:(Tryz.prog.info? 114).bind (·.zero)=some (.agg #[.string ⟨#[]⟩,.string ⟨#[]⟩,.string ⟨#[]⟩,.string ⟨#[]⟩,.string ⟨#[]⟩,.string ⟨#[]⟩,.string ⟨#[]⟩,.string ⟨#[]⟩,.string ⟨#[]⟩,.string ⟨#[]⟩,.string ⟨#[]⟩,.string ⟨#[]⟩,.string ⟨#[]⟩]):=by kernel_rfl
theorem jZ:(Tryz.prog.info? 126).bind (·.zero)=some (.agg #[.int .i64 (0),.int .u64 (0),.int .u64 (0),.int .u64 (0),.int .u64 (0),.slice none 0 0]):=by kernel_rfl
theorem zw:(Tryz.prog.info? 138).bind (·.zero)=some (.agg #[.string ⟨#[]⟩,.int .i64 (0),.int .i64 (0)]):=by kernel_rfl
theorem CJ:(Tryz.prog.info? 147).bind (·.zero)=some (.agg #[.int .i64 (0),.int .i64 (0),.int .i64 (0),.int .i64 (0),.int .i64 (0),.int .i64 (0),.int .i64 (0),.int .i64 (0),.int .i64 (0),.int .i64 (0),.int .i64 (0),.int .i64 (0),.int .i64 (0),.int .i64 (0),.int .i64 (0),.int .i64 (0),.int .i64 (0),.int .i64 (0),.int .i64 (0),.int .i64 (0),.int .i64 (0),.int .i64 (0),.int .i64 (0),.int .i64 (0),.int .i64 (0),.int .i64 (0),.int .i64 (0),.int .i64 (0),.int .i64 (0),.int .i64 (0),.int .i64 (0),.int .i64 (0),.int .i64 (0),.int .i64 (0),.int .i64 (0),.int .i64 (0),.int .i64 (0),.int .i64 (0),.int .i64 (0),.int .i64 (0),.int .i64 (0),.int .i64 (0),.int .i64 (0),.int .i64 (0),.int .i64 (0),.int .i64 (0),.int .i64 (0),.int .i64 (0),.int .i64 (0),.int .i64 (0),.int .i64 (0),.int .i64 (0),.int .i64 (0),.int .i64 (0),.int .i64 (0),.int .i64 (0),.int .i64 (0),.int .i64 (0),.int .i64 (0),.int .i64 (0),.int .i64 (0),.int .i64 (0),.int .i64 (0),.int .i64 (0),.int .i64 (0),.int .i64 (0),.int .i64 (0),.int .i64 (0),.int .i64 (0),.int .i64 (0),.int .i64 (0),.int .i64 (0),.int .i64 (0),.int .i64 (0),.int .i64 (0),.int .i64 (0),.int .i64 (0),.int .i64 (0),.int .i64 (0),.int .i64 (0),.int .i64 (0),.int .i64 (0),.int .i64 (0),.int .i64 (0),.int .i64 (0),.int .i64 (0),.int .i64 (0),.int .i64 (0),.int .i64 (0),.int .i64 (0),.int .i64 (0),.int .i64 (0),.int .i64 (0),.int .i64 (0),.int .i64 (0),.int .i64 (0),.int .i64 (0),.int .i64 (0),.int .i64 (0),.int .i64 (0),.int .i64 (0),.int .i64 (0),.int .i64 (0),.int .i64 (0),.int .i64 (0),.int .i64 (0),.int .i64 (0),.int .i64 (0),.int .i64 (0),.int .i64 (0),.int .i64 (0),.int .i64 (0),.int .i64 (0),.int .i64 (0),.int .i64 (0),.int .i64 (0),.int .i64 (0),.int .i64 (0),.int .i64 (0),.int .i64 (0),.int .i64 (0),.int .i64 (0),.int .i64 (0),.int .i64 (0),.int .i64 (0),.int .i64 (0),.int .i64 (0),.int .i64 (0),.int .i64 (0),.int .i64 (0),.int .i64 (0),.int .i64 (0),.int .i64 (0),.int .i64 (0),.int .i64 (0),.int .i64 (0),.int .i64 (0),.int .i64 (0),.int .i64 (0),.int .i64 (0),.int .i64 (0),.int .i64 (0),.int .i64 (0),.int .i64 (0),.int .i64 (0),.int .i64 (0),.int .i64 (0),.int .i64 (0),.int .i64 (0),.int .i64 (0),.int .i64 (0),.int .i64 (0),.int .i64 (0),.int .i64 (0),.int .i64 (0),.int .i64 (0),.int .i64 (0),.int .i64 (0),.int .i64 (0),.int .i64 (0),.int .i64 (0),.int .i64 (0),.int .i64 (0),.int .i64 (0),.int .i64 (0),.int .i64 (0),.int .i64 (0),.int .i64 (0),.int .i64 (0),.int .i64 (0),.int .i64 (0),.int .i64 (0),.int .i64 (0),.int .i64 (0),.int .i64 (0),.int .i64 (0),.int .i64 (0),.int .i64 (0),.int .i64 (0),.int .i64 (0),.int .i64 (0),.int .i64 (0),.int .i64 (0),.int .i64 (0),.int .i64 (0),.int .i64 (0),.int .i64 (0),.int .i64 (0),.int .i64 (0),.int .i64 (0),.int .i64 (0),.int .i64 (0),.int .i64 (0),.int .i64 (0),.int .i64 (0),.int .i64 (0),.int .i64 (0),.int .i64 (0),.int .i64 (0),.int .i64 (0),.int .i64 (0),.int .i64 (0),.int .i64 (0),.int .i64 (0),.int .i64 (0),.int .i64 (0),.int .i64 (0),.int .i64 (0),.int .i64 (0),.int .i64 (0),.int .i64 (0),.int .i64 (0),.int .i64 (0),.int .i64 (0),.int .i64 (0),.int .i64 (0),.int .i64 (0),.int .i64 (0),.int .i64 (0),.int .i64 (0),.int .i64 (0),.int .i64 (0),.int .i64 (0),.int .i64 (0),.int .i64 (0),.int .i64 (0),.int .i64 (0),.int .i64 (0),.int .i64 (0),.int .i64 (0),.int .i64 (0),.int .i64 (0),.int .i64 (0),.int .i64 (0),.int .i64 (0),.int .i64 (0),.int .i64 (0),.int .i64 (0),.int .i64 (0),.int .i64 (0),.int .i64 (0),.int .i64 (0),.int .i64 (0),.int .i64 (0),.int .i64 (0),.int .i64 (0),.int .i64 (0),.int .i64 (0),.int .i64 (0),.int .i64 (0),.int .i64 (0),.int .i64 (0),.int .i64 (0),.int .i64 (0),.int .i64 (0),.int .i64 (0)]):=by kernel_rfl
theorem Jz:(Tryz.prog.info? 167).bind (·.zero)=some (.agg #[.int .u8 (0),.int .u8 (0)]):=by kernel_rfl
theorem EM:(Tryz.prog.info? 178).bind (·.zero)=some (.agg #[.pointer none,.slice none 0 0]):=by kernel_rfl
theorem Bv:(Tryz.prog.info? 25).bind (·.zero)=some (.agg #[.int .i64 (0),.int .i64 (0)]):=by kernel_rfl
theorem H9:(Tryz.prog.info? 254).bind (·.zero)=some (.agg #[.bool false,.bool false,.bool false,.bool false,.bool false,.bool false,.bool false,.bool false,.bool false,.bool false,.bool false,.bool false,.bool false,.bool false,.bool false,.bool false,.bool false,.bool false,.bool false,.bool false,.bool false,.bool false,.bool false,.bool false,.bool false,.bool false,.bool false,.bool false,.bool false,.bool false,.bool false,.bool false,.bool false,.bool false,.bool false,.bool false,.bool false,.bool false,.bool false,.bool false,.bool false,.bool false,.bool false,.bool false,.bool false,.bool false,.bool false,.bool false,.bool false,.bool false,.bool false,.bool false,.bool false,.bool false,.bool false,.bool false,.bool false,.bool false,.bool false,.bool false,.bool false,.bool false,.bool false,.bool false,.bool false,.bool false,.bool false,.bool false,.bool false,.bool false,.bool false,.bool false,.bool false,.bool false,.bool false,.bool false,.bool false,.bool false,.bool false,.bool false,.bool false,.bool false,.bool false,.bool false,.bool false,.bool false,.bool false,.bool false,.bool false,.bool false,.bool false,.bool false,.bool false,.bool false,.bool false,.bool false,.bool false,.bool false,.bool false,.bool false,.bool false,.bool false,.bool false,.bool false,.bool false,.bool false,.bool false,.bool false,.bool false,.bool false,.bool false,.bool false,.bool false,.bool false,.bool false,.bool false,.bool false,.bool false,.bool false,.bool false,.bool false,.bool false,.bool false,.bool false,.bool false,.bool false,.bool false,.bool false,.bool false,.bool false,.bool false,.bool false,.bool false,.bool false,.bool false,.bool false,.bool false,.bool false,.bool false,.bool false,.bool false,.bool false,.bool false,.bool false,.bool false,.bool false,.bool false,.bool false,.bool false,.bool false,.bool false,.bool false,.bool false,.bool false,.bool false,.bool false,.bool false,.bool false,.bool false,.bool false,.bool false,.bool false,.bool false,.bool false,.bool false,.bool false,.bool false,.bool false,.bool false,.bool false,.bool false,.bool false,.bool false,.bool false,.bool false,.bool false,.bool false,.bool false,.bool false,.bool false,.bool false,.bool false,.bool false,.bool false,.bool false,.bool false,.bool false,.bool false,.bool false,.bool false,.bool false,.bool false,.bool false,.bool false,.bool false,.bool false,.bool false,.bool false,.bool false,.bool false,.bool false,.bool false,.bool false,.bool false,.bool false,.bool false,.bool false,.bool false,.bool false,.bool false,.bool false,.bool false,.bool false,.bool false,.bool false,.bool false,.bool false,.bool false,.bool false,.bool false,.bool false,.bool false,.bool false,.bool false,.bool false,.bool false,.bool false,.bool false,.bool false,.bool false,.bool false,.bool false,.bool false,.bool false,.bool false,.bool false,.bool false,.bool false,.bool false,.bool false,.bool false,.bool false,.bool false,.bool false,.bool false,.bool false,.bool false,.bool false,.bool false,.bool false,.bool false,.bool false,.bool false,.bool false,.bool false,.bool false]):=by kernel_rfl
theorem Lh:(Tryz.prog.info? 29).bind (·.zero)=some (.int .i64 (0)):=by kernel_rfl
theorem Lg:(Tryz.prog.info? 3).bind (·.zero)=some (.int .i64 (0)):=by kernel_rfl
theorem eG:(Tryz.prog.info? 39).bind (·.zero)=some (.agg #[.int .i64 (0),.string ⟨#[]⟩,.slice none 0 0]):=by kernel_rfl
theorem Md:(Tryz.prog.info? 4).bind (·.zero)=some (.bool false):=by kernel_rfl
theorem jI:(Tryz.prog.info? 43).bind (·.zero)=some (.agg #[.int .i64 (0),.string ⟨#[]⟩,.slice none 0 0]):=by kernel_rfl
theorem EL:(Tryz.prog.info? 59).bind (·.zero)=some (.agg #[.int .i64 (0),.int .i64 (0),.int .i64 (0)]):=by kernel_rfl
theorem Lf:(Tryz.prog.info? 93).bind (·.zero)=some (.slice none 0 0):=by kernel_rfl
end Go.Proofs.YtedocgkapmeceaaGreatDoor.H
namespace Go.Proofs.YtedocgkapmeceaaGreatDoor
open Go.Proofs.Tryz
open Go Go.Lw
set_option maxRecDepth 20000
section
variable {rb n m d lim:Nat}{h h':aD}{c a:UInt8}{l r:By}{x:Nd}{M:Nat→Prop}
def ug:Value:=.iface 189 (.agg #[])
def CE (c:List PanicEntry):Prop:=c=[{ v:=ug,recovered:=false }]
def St (h:aD) (rb:Nat) (l:By):Prop:=bq h rb 192 [.string (bs l)]
abbrev zu (rb:Nat):Value:=.pointer (some ⟨rb,0,none⟩)
abbrev only (rb:Nat):Nat→Prop:=fun b=>b=rb
def PR {α:Type}(rb:Nat) (h:aD) (p:Option (α×By)) (Φ:α→Value→aD→Prop):Ending→aD→Prop :=
 EF (fun v h'=>∃x r,p=some (x,r)∧Φ x v h'∧St h' rb r∧Ext (only rb) h h') (fun ch h'=>CE ch∧p=none∧Ext (only rb) h h')
theorem dZ {α:Type}{p:Option (α×By)}{Φ:α→Value→aD→Prop}{c:List PanicEntry}(hc:CE c) (hp:p=none) (hx:Ext (only rb) h h'):PR rb h p Φ (.panicked c) h':=⟨hc,hp,hx⟩
theorem HM {Φ:Value→aD→Prop}{X:List PanicEntry→aD→Prop}{c:List PanicEntry}(k:X c h):EF Φ X (.panicked c) h:=k
theorem St.cell {h:aD}{rb:Nat}{l:By}(k:St h rb l):cellAt h ⟨rb,0,none⟩=some (.string (bs l)):=bq.cell k (i:=0) rfl
theorem St.lt {h:aD}{rb:Nat}{l:By}(k:St h rb l):rb<h.size:=bq.lt k
def EW:By→Option (UInt8×By)| []=>none|c::r=>some (c,r)
theorem iR (h:EW l=none):l=[]:=by cases l with|nil=>rfl|cons c r=>cases h
theorem fU (h:EW l=some (c,r)):l=c::r:=by cases l with|nil=>cases h|cons d t=>cases h;rfl
theorem uq (hs:St h rb l):ai Tryz.prog 175 #[zu rb] h (cL fun r h'=>r= .int .u8 ((l.head?.getD 0).toNat:Nat)∧h'=h):=by
 refine ai.of func175 rfl rfl ?_;refine aW func175 1 [0,2] rfl ?_;refine av rfl ?_;refine br func175 2 rfl ?_;refine xp rfl (af (off:=0) underlying192 rfl rfl H.dA rfl) ?_;refine xp rfl (ah H.dO rfl hs.cell) ?_;refine xp rfl (aj.cI rfl rfl) ?_;refine xd [0,2,7] rfl ?_;refine aL rfl rfl (fun he=>?_) (fun he=>?_)
 · have hl:l=[]:=dx he;subst hl;refine aW func175 1 [0,2,7] rfl ?_;refine G.ret func175 rfl rfl ?_;exact⟨_,rfl,rfl,rfl⟩
 · obtain⟨c,r,rfl⟩:=List.exists_cons_of_ne_nil (fun(e:l=[])=>he (by rw[e];rfl));refine aE rfl ?_;refine br func175 2 rfl ?_;refine xp rfl (af (off:=0) underlying192 rfl rfl H.dA rfl) ?_;refine xp rfl (ah H.dO rfl hs.cell) ?_;refine xp rfl (aj.cm underlying9 rfl rfl 0 rfl (eF rfl)) ?_;refine aQ 1 [0,2,7] rfl ?_;refine G.ret func175 rfl rfl ?_;exact⟨_,rfl,rfl,rfl⟩
theorem fT (hs:St h rb l) (hl:l.length≤1000000):ai Tryz.prog 176 #[zu rb] h (PR rb h (EW l) fun c v _=>v= .int .u8 (c.toNat:Nat)):=by
 refine ai.of func176 rfl rfl ?_;refine aW func176 1 [0,2] rfl ?_;refine av rfl ?_;refine br func176 2 rfl ?_;refine xp rfl (af (off:=0) underlying192 rfl rfl H.dA rfl) ?_;refine xp rfl (ah H.dO rfl hs.cell) ?_;refine xp rfl (aj.cI rfl rfl) ?_;refine xd [0,2,8] rfl ?_;refine aL rfl rfl (fun he=>?_) (fun he=>?_)
 · have hl:l=[]:=dx he;subst hl;refine G.bT func176 rfl ?_;refine xp rfl (aP (H.gV ) rfl) ?_;refine xp rfl (bL H.kK rfl) ?_;refine RW.bZ rfl rfl rfl (dH (Φ:=fun _ _=>False) rfl (dZ rfl rfl (Ext.refl _ _))) ?_;rintro _ _ hpn;exact hpn.elim
 · obtain⟨c,r,rfl⟩:=List.exists_cons_of_ne_nil (fun(e:l=[])=>he (by rw[e];rfl));have hz:(bs (c::r)).size=r.length+1:=by rw[bp];rfl
   have hd:=fm (c::r) 1;simp only[List.length_cons] at hl;refine aE rfl ?_;refine br func176 2 rfl ?_;refine xp rfl (af (off:=0) underlying192 rfl rfl H.dA rfl) ?_;refine xp rfl (ah H.dO rfl hs.cell) ?_;refine xp rfl (aj.cm underlying9 rfl rfl 0 rfl (eF rfl)) ?_;refine aQ 1 [0,2,3,8] rfl ?_;refine br func176 3 rfl ?_;refine xp rfl (af (off:=0) underlying192 rfl rfl H.dA rfl) ?_;refine xp rfl (ah H.dO rfl hs.cell) ?_;refine xp rfl (aj.cP underlying9 rfl rfl 1 rfl (by omega)) ?_;refine bP 1 rfl rfl (af (off:=0) underlying192 rfl rfl H.dA rfl) ?_;refine RW.bZ rfl rfl rfl (aC.bF H.dA rfl rfl hs (by first|decide|exact of_decide_eq_true rfl|(simp;done)|(simp;omega)) rfl) ?_;rintro _ h1 ⟨rfl,hk,hx,hz1⟩;refine xd [0,2,3,8] rfl ?_;refine aW func176 2 [0,2,3,8] rfl ?_;refine G.ret func176 rfl rfl ?_;exact⟨c,r,rfl,rfl,by rw[hd] at hk;exact hk,hx⟩
theorem lp (c:UInt8) (hs:St h rb l) (hl:l.length≤1000000):ai Tryz.prog 143 #[zu rb,.int .u8 (c.toNat:Nat)] h (cL fun v h' =>
 ((l.head? =some c∧v= .bool true∧St h' rb l.tail)∨(l.head? ≠some c∧v= .bool false∧St h' rb l))∧Ext (only rb) h h'):=by
 refine ai.of func143 rfl rfl ?_;refine aW func143 1 [0,1,4] rfl ?_;refine av rfl ?_;refine av rfl ?_;refine G.bD [(18,.bool (decide (l.head? ≠some c)))] [(0,_),(1,_),(4,_)] ⟨rfl,rfl,rfl,trivial⟩ func143 rfl ?_ ?_
 · refine bP 2 rfl rfl (af (off:=0) underlying192 rfl rfl H.dA rfl) ?_;refine xp rfl (ah H.dO rfl hs.cell) ?_;refine xp rfl (aj.cI rfl rfl) ?_;refine aT 1 rfl ?_;refine aH (d:=10) rfl (fun he=>?_) (fun he=>?_)
   · have hl:l=[]:=dx (of_decide_eq_true he);refine aT 8 rfl ?_;refine az rfl ?_;exact⟨rfl,aA rfl (by subst hl;simp),rfl,rfl,rfl,trivial⟩
   · obtain⟨d,r,rfl⟩:=List.exists_cons_of_ne_nil (fun(e:l=[])=>(of_decide_eq_false he) (by rw[e];rfl));refine bP 2 rfl rfl (af (off:=0) underlying192 rfl rfl H.dA rfl) ?_;refine xp rfl (ah H.dO rfl hs.cell) ?_;refine xp rfl (aj.cm underlying9 rfl rfl 0 rfl (eF rfl)) ?_;refine aT 3 rfl ?_;refine az rfl ?_;exact⟨rfl,aA rfl (by simp only[List.head?_cons,Option.some.injEq,ne_eq];exact JD d c),rfl,rfl,rfl,trivial⟩
 · refine aL rfl rfl (fun hn=>?_) (fun hn=>?_)
   · refine aW func143 1 [0,1,4,18] rfl ?_;refine G.ret func143 rfl rfl ?_;exact⟨_,rfl,.inr ⟨hn,rfl,hs⟩,Ext.refl _ _⟩
   · have hn:=Classical.not_not.1 hn;obtain⟨d,r,rfl⟩:=List.exists_cons_of_ne_nil (fun(e:l=[])=>by rw[e] at hn;cases hn);have hz:(bs (d::r)).size=r.length+1:=by rw[bp];rfl
     have hd:=fm (d::r) 1;simp only[List.length_cons] at hl;refine aE rfl ?_;refine br func143 3 rfl ?_;refine xp rfl (af (off:=0) underlying192 rfl rfl H.dA rfl) ?_;refine xp rfl (ah H.dO rfl hs.cell) ?_;refine xp rfl (aj.cP underlying9 rfl rfl 1 rfl (by omega)) ?_;refine bP 1 rfl rfl (af (off:=0) underlying192 rfl rfl H.dA rfl) ?_;refine RW.bZ rfl rfl rfl (aC.bF H.dA rfl rfl hs (by first|decide|exact of_decide_eq_true rfl|(simp;done)|(simp;omega)) rfl) ?_;rintro _ h1 ⟨rfl,hk,hx,hz1⟩;refine xd [0,1,4,18] rfl ?_;refine aW func143 1 [0,1,4,18] rfl ?_;refine G.ret func143 rfl rfl ?_;exact⟨_,rfl,.inl ⟨hn,rfl,by rw[hd] at hk;exact hk⟩,hx⟩
theorem ur (c:UInt8) (hs:St h rb l) (hl:l.length≤1000000):ai Tryz.prog 191 #[zu rb,.int .u8 (c.toNat:Nat)] h (PR rb h (if l.head? =some c then some ((),l.tail) else none) fun _ _ _=>True):=by
 refine ai.of func191 rfl rfl ?_;refine br func191 2 rfl ?_;refine xo rfl (aq (vs:=[_,_]) func143 rfl H.C1 rfl (ai.bw (lp c hs hl))) ?_;rintro _ h1 ⟨hor,hx⟩
 rcases hor with ⟨h1,rfl,h2⟩|⟨h1,rfl,h2⟩
 · refine aQ 1 [0,1,7] rfl ?_;refine aI rfl rfl (fun hc=>absurd hc (by decide)) (fun _=>?_);refine aE rfl ?_;refine G.u6 func191 rfl ?_;exact⟨(),_,if_pos h1,trivial,h2,hx⟩
 · refine aQ 1 [0,1,7] rfl ?_;refine aI rfl rfl (fun _=>?_) (fun hc=>absurd hc (by decide));refine G.bT func191 rfl ?_;refine xp rfl (aP (H.gV ) rfl) ?_;refine xp rfl (bL H.kK rfl) ?_;refine RW.bZ rfl rfl rfl (dH (Φ:=fun _ _=>False) rfl (dZ rfl (if_neg h1) hx)) ?_;rintro _ _ hpn;exact hpn.elim
theorem mw (x:UInt8):ai Tryz.prog 208 #[.string ⟨#[40,41,91,93,124,42,43,63,46,92,45,94]⟩,.int .u8 (x.toNat:Nat)] h (cL fun r h'=>r= .int .i64 (Lib.indexByte fN x)∧h'=h) :=
 (lZ _ _).ret fun _ _ ⟨ho,he⟩=>⟨by rw[ho];simp[fN],he⟩
theorem jz:∀x:UInt8,(0≤Lib.indexByte fN x)↔x∈fN:=by
 have h:∀n:Fin 256,(0≤Lib.indexByte fN (UInt8.ofNat n.val))↔(UInt8.ofNat n.val)∈fN:=by decide +kernel
 intro x;have:=h ⟨x.toNat,x.toNat_lt⟩;simpa using this
def yV:By:=[48,49,50,51,52,53,54,55,56,57,97,98,99,100,101,102]
theorem yU (x:UInt8):ai Tryz.prog 208 #[.string ⟨#[48,49,50,51,52,53,54,55,56,57,97,98,99,100,101,102]⟩,.int .u8 (x.toNat:Nat)] h (cL fun r h'=>r= .int .i64 (Lib.indexByte yV x)∧h'=h) :=
 (lZ _ _).ret fun _ _ ⟨ho,he⟩=>⟨by rw[ho];simp[yV],he⟩
theorem Hj:∀n:Fin 256,IntKind.u8.wrap ((BitVec.ofInt IntKind.u8.bits (n.val:Int) |||BitVec.ofInt IntKind.u8.bits 32).toNat)=(((UInt8.ofNat n.val) ||| 32).toNat:Nat):=by decide +kernel
theorem low (x:UInt8):IntKind.u8.wrap ((BitVec.ofInt IntKind.u8.bits (x.toNat:Int) |||BitVec.ofInt IntKind.u8.bits 32).toNat)=((x ||| 32).toNat:Nat):=by
 have:=Hj ⟨x.toNat,x.toNat_lt⟩;simpa using this
theorem HB:∀n:Fin 256,lE (UInt8.ofNat n.val)=if Lib.indexByte yV ((UInt8.ofNat n.val) ||| 32)<0∨n.val<48 then none else some (Lib.indexByte yV ((UInt8.ofNat n.val) ||| 32)).toNat:=by decide +kernel
theorem MC (x:UInt8):lE x=if Lib.indexByte yV (x ||| 32)<0∨x.toNat<48 then none else some (Lib.indexByte yV (x ||| 32)).toNat:=by
 have:=HB ⟨x.toNat,x.toNat_lt⟩;simpa using this
theorem Ej {x:UInt8}(h:lE x=some n):n<16:=by
 unfold lE at h;split at h
 · cases h;omega
 · split at h
   · cases h;omega
   · split at h
     · cases h;omega
     · cases h
theorem sA (x:UInt8):ai Tryz.prog 207 #[.int .u8 (x.toNat:Nat)] h (EF (fun v h'=>∃n:Nat,lE x=some n∧n<16∧v= .int .u8 n∧h'=h) (fun ch h'=>CE ch∧lE x=none∧h'=h)):=by
 have hd:=MC x;refine ai.of func207 rfl rfl ?_;refine aW func207 1 [0,2] rfl ?_;refine br func207 1 rfl ?_;refine xp rfl (aj.tE rfl rfl) ?_;refine xo rfl (aq (vs:=[_,_]) func208 rfl H.FF rfl (ai.bw ((low x▸yU (x ||| 32))))) ?_;rintro _ _ ⟨rfl,rfl⟩;refine aQ 1 [0,2,3] rfl ?_;refine av rfl ?_;refine av rfl ?_;refine G.bD [(12,.bool (decide (Lib.indexByte yV (x ||| 32)<0∨x.toNat<48)))] [(0,_),(2,_),(3,_)] ⟨rfl,rfl,rfl,trivial⟩ func207 rfl ?_ ?_
 · refine aT 3 rfl ?_;refine aH (d:=9) rfl (fun hg=>?_) (fun hg=>?_)
   · refine aT 3 rfl ?_;refine az rfl ?_;exact⟨rfl,aA rfl (by have:=of_decide_eq_true hg;simp[this]),rfl,rfl,rfl,trivial⟩
   · refine aT 3 rfl ?_;refine az rfl ?_;exact⟨rfl,aA rfl (by have:=of_decide_eq_false hg;simp only[decide_eq_decide];omega),rfl,rfl,rfl,trivial⟩
 · refine aL rfl rfl (fun hn=>?_) (fun hn=>?_)
   · rw[if_pos hn] at hd;refine G.bT func207 rfl ?_;refine xp rfl (aP (H.gV ) rfl) ?_;refine xp rfl (bL H.kK rfl) ?_;refine RW.bZ rfl rfl rfl (dH (Φ:=fun _ _=>False) rfl (HM ⟨rfl,hd,rfl⟩)) ?_;rintro _ _ hpn;exact hpn.elim
   · rw[if_neg hn] at hd;have h16:=Ej hd;refine aE rfl ?_;refine br func207 1 rfl ?_;refine xp rfl (aj.De underlying3 underlying5 rfl) ?_;refine aQ 1 [0,2,3,12] rfl ?_;refine G.ret func207 rfl rfl ?_;refine⟨_,hd,h16,?_,rfl⟩
     show Value.int .u8 _=_
     congr 1
     have:IntKind.u8.wrap (Lib.indexByte yV (x ||| 32))=Lib.indexByte yV (x ||| 32):=wrap_u8 (by omega);rw[this];omega
theorem F8:∀m n:Fin 16,IntKind.u8.wrap ((BitVec.ofInt IntKind.u8.bits (IntKind.u8.wrap ((m.val:Int)*2 ^ min (4:Int).toNat IntKind.u8.bits)) |||BitVec.ofInt IntKind.u8.bits (n.val:Int)).toNat)=((UInt8.ofNat (m.val*16+n.val)).toNat:Nat):=by decide +kernel
theorem L8 (hm:m<16) (hn:n<16):IntKind.u8.wrap ((BitVec.ofInt IntKind.u8.bits (IntKind.u8.wrap ((m:Int)*2 ^ min (4:Int).toNat IntKind.u8.bits)) |||BitVec.ofInt IntKind.u8.bits (n:Int)).toNat)=((UInt8.ofNat (m*16+n)).toNat:Nat):=F8 ⟨m,hm⟩ ⟨n,hn⟩
theorem I8 {x:UInt8}(t:By) (h:lE x=none):qv (120::x::t)=none:=by
 unfold qv;cases t with
 |nil=>rfl
 |cons y t=>simp[h]
theorem oq (hs:St h rb l) (hl:l.length≤1000000):ai Tryz.prog 194 #[zu rb] h (PR rb h (qv l) fun c v _=>v= .int .u8 (c.toNat:Nat)):=by
 refine ai.of func194 rfl rfl ?_;refine aW func194 1 [0,2] rfl ?_;refine av rfl ?_;refine br func194 1 rfl ?_;refine xo rfl (aq (vs:=[_]) func176 rfl H.uk rfl (ai.jv (fT hs hl) ((fun _ _ ⟨hc,hp,hx⟩=>dZ hc (by rw[iR hp];rfl) hx)))) ?_;rintro _ h1 ⟨c,r,hp,rfl,hs1,hx1⟩;refine aQ 1 [0,2,3] rfl ?_;refine G.block rfl rfl ?_;refine aW func194 3 [0,2,3,7] rfl ?_;obtain rfl:=fU hp;simp only[List.length_cons] at hl;refine aL rfl rfl (fun e1=>?_) (fun e1=>?_)
 · have e1:c=110:=(dh rfl).1 e1;refine aW func194 1 [0,2,3,7] rfl ?_;refine G.ret func194 rfl rfl ?_;exact⟨10,r,by unfold qv;simp[e1],rfl,hs1,hx1⟩
 · have e1:¬c=110:=fun e=>e1 ((dh rfl).2 e)
   refine aW func194 3 [0,2,3,7,10] rfl ?_;refine aL rfl rfl (fun e2=>?_) (fun e2=>?_)
   · have e2:c=116:=(dh rfl).1 e2;refine aW func194 1 [0,2,3,7,10] rfl ?_;refine G.ret func194 rfl rfl ?_;exact⟨9,r,by unfold qv;simp[e2],rfl,hs1,hx1⟩
   · have e2:¬c=116:=fun e=>e2 ((dh rfl).2 e)
     refine aW func194 3 [0,2,3,7,10,13] rfl ?_;refine aL rfl rfl (fun e3=>?_) (fun e3=>?_)
     · have e3:c=114:=(dh rfl).1 e3;refine aW func194 1 [0,2,3,7,10,13] rfl ?_;refine G.ret func194 rfl rfl ?_;exact⟨13,r,by unfold qv;simp[e3],rfl,hs1,hx1⟩
     · have e3:¬c=114:=fun e=>e3 ((dh rfl).2 e)
       refine aW func194 3 [0,2,3,7,10,13,16] rfl ?_;refine aL rfl rfl (fun e4=>?_) (fun e4=>?_)
       · have e4:c=120:=(dh rfl).1 e4;subst e4;refine br func194 1 rfl ?_;refine xo rfl (aq (vs:=[_]) func176 rfl H.uk rfl (ai.jv (fT hs1 (by omega)) ((fun _ _ ⟨hc,hp,hx⟩=>dZ hc (by rw[iR hp];rfl) (hx1.trans hx))))) ?_;rintro _ h2 ⟨x,r2,hp2,rfl,hs2,hx2⟩;refine xo rfl (aq (vs:=[_]) func207 rfl H.Ii rfl (ai.jv (sA x) ((fun _ h' ⟨hc,hq,hh⟩=>dZ hc (by obtain rfl:=fU hp2;exact I8 _ hq) (by subst hh;exact hx1.trans hx2))))) ?_;rintro _ _ ⟨m,hm,hm16,rfl,rfl⟩;refine aQ 1 [0,2,3,4,7,10,13,16] rfl ?_;refine br func194 1 rfl ?_;refine xp rfl (Dl rfl rfl (by omega)) ?_;refine aT 1 rfl ?_;obtain rfl:=fU hp2;simp only[List.length_cons] at hl;refine xo rfl (aq (vs:=[_]) func176 rfl H.uk rfl (ai.jv (fT hs2 (by omega)) ((fun _ _ ⟨hc,hp,hx⟩=>dZ hc (by rw[iR hp];rfl) ((hx1.trans hx2).trans hx))))) ?_;rintro _ h3 ⟨y,r3,hp3,rfl,hs3,hx3⟩;refine xo rfl (aq (vs:=[_]) func207 rfl H.Ii rfl (ai.jv (sA y) ((fun _ h' ⟨hc,hq,hh⟩=>dZ hc (by obtain rfl:=fU hp3;unfold qv;simp[hm,hq]) (by subst hh;exact(hx1.trans hx2).trans hx3))))) ?_;rintro _ _ ⟨n,hn,hn16,rfl,rfl⟩;refine xp rfl (aj.tE rfl rfl) ?_;refine aQ 1 [0,2,3,4,7,10,13,16] rfl ?_;obtain rfl:=fU hp3;refine G.ret func194 rfl rfl ?_;exact⟨UInt8.ofNat (m*16+n),r3,by unfold qv;simp[hm,hn],by show Value.int _ _=_;rw[L8 hm16 hn16],hs3,(hx1.trans hx2).trans hx3⟩
       · have e4:¬c=120:=fun e=>e4 ((dh rfl).2 e)
         refine br func194 1 rfl ?_;refine xo rfl (aq (vs:=[_,_]) func208 rfl H.FF rfl (ai.bw (mw c))) ?_;rintro _ _ ⟨rfl,rfl⟩;refine aQ 2 [0,2,3,7,10,13,16,28] rfl ?_;refine aL rfl rfl (fun e5=>?_) (fun e5=>?_)
         · have e5:=(jz c).1 e5;refine aW func194 2 [0,2,3,7,10,13,16,28] rfl ?_;refine G.ret func194 rfl rfl ?_;exact⟨c,r,by unfold qv;simp[e1,e2,e3,e4,e5],rfl,hs1,hx1⟩
         · have e5:¬c∈fN:=fun e=>e5 ((jz c).2 e)
           refine aE rfl ?_;refine G.aN ?_;refine G.bT func194 rfl ?_;refine xp rfl (aP (H.gV ) rfl) ?_;refine xp rfl (bL H.kK rfl) ?_;refine RW.bZ rfl rfl rfl (dH (Φ:=fun _ _=>False) rfl (dZ rfl (by unfold qv;simp[e1,e2,e3,e4,e5]) hx1)) ?_;rintro _ _ hpn;exact hpn.elim
theorem qb (hs:St h rb l) (hl:l.length≤1000000):ai Tryz.prog 206 #[zu rb] h (PR rb h (oM l) fun c v _=>v= .int .u8 (c.toNat:Nat)):=by
 refine ai.of func206 rfl rfl ?_;refine aW func206 1 [0,2] rfl ?_;refine br func206 1 rfl ?_;refine xo rfl (aq (vs:=[_]) func176 rfl H.uk rfl (ai.jv (fT hs hl) ((fun _ _ ⟨hc,hp,hx⟩=>dZ hc (by rw[iR hp];rfl) hx)))) ?_;rintro _ h1 ⟨c,r,hp,rfl,hs1,hx1⟩;refine aQ 1 [0,2,3] rfl ?_;refine av rfl ?_;refine G.block rfl rfl ?_;refine aW func206 3 [0,2,3,6] rfl ?_;obtain rfl:=fU hp;simp only[List.length_cons] at hl;refine aL rfl rfl (fun e1=>?_) (fun e1=>?_)
 · have e1:c=92:=(dh rfl).1 e1;refine br func206 1 rfl ?_;refine xo rfl (aq (vs:=[_]) func194 rfl H.Il rfl (ai.jv (oq hs1 (by omega)) ((fun _ _ ⟨hc,hp,hx⟩=>dZ hc (by unfold oM;simp[e1,hp]) (hx1.trans hx))))) ?_;rintro _ h2 ⟨d,r2,hp2,rfl,hs2,hx2⟩;refine aQ 1 [0,2,3,6] rfl ?_;refine G.ret func206 rfl rfl ?_;exact⟨d,r2,by unfold oM;simp[e1,hp2],rfl,hs2,hx1.trans hx2⟩
 · have e1:¬c=92:=fun e=>e1 ((dh rfl).2 e)
   refine br func206 1 rfl ?_;refine xo rfl (aq (vs:=[_,_]) func208 rfl H.FF rfl (ai.bw (mw c))) ?_;rintro _ _ ⟨rfl,rfl⟩;refine aQ 2 [0,2,3,6,11] rfl ?_;refine aL rfl rfl (fun e5=>?_) (fun e5=>?_)
   · have e5:=(jz c).1 e5;refine G.bT func206 rfl ?_;refine xp rfl (aP (H.gV ) rfl) ?_;refine xp rfl (bL H.kK rfl) ?_;refine RW.bZ rfl rfl rfl (dH (Φ:=fun _ _=>False) rfl (dZ rfl (by unfold oM;simp[e1,e5]) hx1)) ?_;rintro _ _ hpn;exact hpn.elim
   · have e5:¬c∈fN:=fun e=>e5 ((jz c).2 e)
     refine aE rfl ?_;refine G.aN ?_;refine aW func206 2 [0,2,3,6,11] rfl ?_;refine G.ret func206 rfl rfl ?_;exact⟨c,r,by unfold oM;simp[e1,e5],rfl,hs1,hx1⟩
theorem FO (k s:Nat) (v:Value) (i:Nat) (hi:i<256):(dW k s v).set (1+i / 64*1) (.int .u64 ((BD s (i / 64) ||| 2 ^ (i%64):Nat):Int))=dW k (s |||(1 <<< i)) v:=by
 have h4:i / 64<4:=by omega
 have hw:=EN s i;have hs:∀q,q≠i / 64→eV (s |||(1 <<< i)) q=eV s q:=fun q hq=>by unfold eV;rw[EO s i q hq]
 have he:eV (s |||(1 <<< i)) (i / 64)= .int .u64 ((BD s (i / 64) ||| 2 ^ (i%64):Nat):Int):=by unfold eV;rw[hw]
 rw[←he];generalize i / 64=q at *;unfold dW
 match q,h4 with
 | 0,_=>rw[hs 1 (by decide),hs 2 (by decide),hs 3 (by decide)];rfl
 | 1,_=>rw[hs 0 (by decide),hs 2 (by decide),hs 3 (by decide)];rfl
 | 2,_=>rw[hs 0 (by decide),hs 1 (by decide),hs 3 (by decide)];rfl
 | 3,_=>rw[hs 0 (by decide),hs 1 (by decide),hs 2 (by decide)];rfl
theorem FN (k s:Nat) (v:Value) (q:Nat) (hq:q<4):(dW k s v)[1+q*1]? =some (eV s q):=by
 match q,hq with
 | 0,_=>rfl
 | 1,_=>rfl
 | 2,_=>rfl
 | 3,_=>rfl
theorem IY {w i:Nat}(hw:w<18446744073709551616):IntKind.u64.wrap ((BitVec.ofInt IntKind.u64.bits (w:Int) |||BitVec.ofInt IntKind.u64.bits (IntKind.u64.wrap (1*2 ^ min (((i:Int)).tmod 64).toNat IntKind.u64.bits))).toNat:Int)=((w ||| 2 ^ (i%64):Nat):Int):=by
 have h1:((i:Int)).tmod 64=((i%64:Nat):Int):=by rw[Int.tmod_eq_emod_of_nonneg (by omega)];omega
 have hb:i%64<64:=Nat.mod_lt _ (by decide);have h2:2 ^ (i%64)<2 ^ 64:=Nat.pow_lt_pow_right (by decide) hb;rw[h1,JJ,Ls hw h2]
theorem BP (s i n:Nat) (h:0<n):wN s i n=wN (s |||(1 <<< i)) (i+1) (n-1):=by
 cases n with
 |zero=>omega
 |succ n=>rfl
theorem gM {nb k s:Nat}{v:Value}(hk:bq h nb 126 (dW k s v)) (a b:UInt8):ai Tryz.prog 193 #[.pointer (some ⟨nb,1,none⟩),.int .u8 (a.toNat:Nat),.int .u8 (b.toNat:Nat)] h (cL fun _ h' =>
 bq h' nb 126 (dW k (nX s a b) v)∧Ext (only nb) h h'):=by
 have ha:=a.toNat_lt;have hb:=b.toNat_lt;refine ai.of func193 rfl rfl ?_;refine br func193 1 rfl ?_;refine xp rfl (aj.vh underlying5 underlying3 rfl (wrap_i64 ⟨by omega,by omega⟩)) ?_;refine aQ 1 [0,1,2,6] rfl ?_;refine G.block rfl rfl ?_;refine bE (σ:=Nat×Nat) (fun q=>[(0,.pointer (some ⟨nb,1,none⟩)),(2,.int .u8 (b.toNat:Nat)),(6,.int .i64 (q.1:Nat))]) (fun q h'=>bq h' nb 126 (dW k q.2 v)∧Ext (only nb) h h'∧q.1≤256∧wN q.2 q.1 (b.toNat+1-q.1)=nX s a b) (fun q=>b.toNat+1-q.1) ((a.toNat,s)) rfl ⟨rfl,rfl,rfl,trivial⟩ ⟨hk,Ext.refl _ _,by show a.toNat≤256;omega,rfl⟩ ?_;rintro⟨i,s'⟩ h1 ⟨hk1,hx1,hi,hsp⟩ ih
 try dsimp only
 dsimp only at hk1 hi hsp;refine av rfl ?_;refine br func193 2 rfl ?_;refine xp rfl (aj.vh underlying5 underlying3 rfl (wrap_i64 ⟨by omega,by omega⟩)) ?_;refine aQ 1 [0,2,6,12] rfl ?_;refine aL rfl rfl (fun hle=>?_) (fun hle=>?_)
 · have hi255:i≤b.toNat:=by omega
   rw[BP _ _ _ (by omega)] at hsp;have hq:i / 64<4:=by omega
   have hdiv:IntKind.i64.wrap (((i:Int)).tdiv 64)=((i / 64:Nat):Int):=by
    rw[Int.tdiv_eq_ediv_of_nonneg (by omega),wrap_i64 ⟨by omega,by omega⟩];omega
   have hw:=BC s' (i / 64);have hset:=FO k s' v i (by omega);have hk1':bq h1 nb 126 [.int .i64 k,eV s' 0,eV s' 1,eV s' 2,eV s' 3,v]:=hk1;refine aE rfl ?_;refine av rfl ?_;refine G.block rfl rfl ?_;refine bV (fun b=>Array.size h1≤b) (fun i=>Nat.blt i 12) (sz:=13) (listed:= #[false,false,false,false,false,false,false,false,false,false,false,false,false]) func193 H.mixed rfl rfl rfl ?_;refine b9 0 1 (by kernel_rfl) rfl ?_;refine b9 1 3 (by kernel_rfl) rfl ?_;refine bI 2 7 (by kernel_rfl) rfl (fun h' e=>zl rfl rfl (by decide)) ?_;refine b9 3 15 (by kernel_rfl) rfl ?_;refine bI 4 31 (by kernel_rfl) rfl (fun h' e=>aj.cM underlying123 H.tN rfl rfl (i / 64) hdiv hq) ?_;refine bI 5 63 (by kernel_rfl) rfl (fun h' e=>ah H.GI rfl (e.old (hk1.cell (FN k s' v _ hq)))) ?_;refine b9 6 127 (by kernel_rfl) rfl ?_;refine bI 7 255 (by kernel_rfl) rfl (fun h' e=>zj rfl rfl (by decide)) ?_;refine bI 8 511 (by kernel_rfl) rfl (fun h' e=>Dl rfl rfl (by rw[Int.tmod_eq_emod_of_nonneg (by omega)];omega)) ?_;refine bI 9 1023 (by kernel_rfl) rfl (fun h' e=>aj.tE rfl rfl) ?_;refine cU 10 2047 (by kernel_rfl) rfl (aj.bw (aO rfl)) ?_;rintro _ hq_ ⟨rfl,hqe_⟩;replace hqe_:=hqe_.symm;subst hqe_;refine⟨fun _=>Ext.refl _ _,?_⟩;refine bI 11 4095 (by kernel_rfl) rfl (fun h' e=>aj.cM underlying123 H.tN rfl rfl (i / 64) hdiv hq) ?_;refine fS 12 8191 (by kernel_rfl) rfl (aC.bF H.tN rfl rfl hk1' (by first|decide|exact of_decide_eq_true rfl|(simp;done)|(simp;omega)) rfl) ?_;rintro _ h2 ⟨rfl,hk2,hx2,hz2⟩;refine⟨fun hk=>(nomatch hk),?_⟩;refine bg (by kernel_rfl) ?_;refine xu [0,2,6,12] rfl ?_;refine G.aN ?_;refine G.bT func193 rfl ?_;refine bP 1 rfl rfl (aj.bA rfl rfl ⟨by omega,by omega⟩) ?_;refine aQ 1 [0,2,6,12] rfl ?_;rw[IY hw,show [.int .i64 (k:Int),eV s' 0,eV s' 1,eV s' 2,eV s' 3,v]=dW k s' v from rfl,hset] at hk2;exact ih (i+1,s' |||(1 <<< i)) _ _ ⟨rfl,rfl,rfl,trivial⟩ ⟨hk2,hx1.trans hx2,by show i+1≤256;omega,by show wN _ (i+1) (b.toNat+1-(i+1))=_;rw[←hsp];rfl⟩ (by show b.toNat+1-(i+1)<b.toNat+1-i;omega)
 · have h0:b.toNat+1-i=0:=by omega
   rw[h0] at hsp;refine bz rfl rfl ?_;refine G.u6 func193 rfl ?_;exact⟨_,rfl,by rw[←hsp];exact hk1,hx1⟩
theorem Ek (s:Nat) (b:UInt8):ai Tryz.prog 116 #[.agg (u9 s).toArray,.int .u8 (b.toNat:Nat)] h (cL fun r h'=>r= .bool (s.testBit b.toNat)∧aF h h'):=by
 have hb:=b.toNat_lt;have hq:b.toNat / 64<4:=by omega
 have hdiv:IntKind.u8.wrap (((b.toNat:Int)).tdiv 64)=((b.toNat / 64:Nat):Int):=by
  rw[Int.tdiv_eq_ediv_of_nonneg (by omega),wrap_u8 (by omega)];omega
 have hmod:((b.toNat:Int)).tmod 64=((b.toNat%64:Nat):Int):=by rw[Int.tmod_eq_emod_of_nonneg (by omega)];omega
 have hm64:b.toNat%64<64:=Nat.mod_lt _ (by decide)
 have hword:∀q,q<4→(u9 s)[0+q*1]? =some (eV s q):=fun q hq=>by
  match q,hq with
  | 0,_=>rfl
  | 1,_=>rfl
  | 2,_=>rfl
  | 3,_=>rfl
 refine ai.of func116 rfl rfl ?_;refine xr func116 rfl ?_;refine xo rfl (aC.fe rfl) ?_;rintro _ h1 ⟨rfl,hk,he,hz⟩;refine aQ 1 [0,1,2,4] rfl ?_;refine br func116 1 rfl ?_;refine xp rfl (zl rfl rfl (by decide)) ?_;have hk:bq h1 h.size 123 (u9 s):=hk;refine xp rfl (aj.cM underlying123 H.tN rfl rfl (b.toNat / 64) hdiv hq) ?_;refine xp rfl (ah H.GI rfl (hk.cell (hword _ hq))) ?_;refine bP 1 rfl rfl (zj rfl rfl (by decide)) ?_;refine xp rfl (HQ rfl rfl (by rw[hmod];omega)) ?_;refine xp rfl (aj.Gr rfl rfl) ?_;refine aQ 2 [0,1,2,4] rfl ?_;refine G.ret func116 rfl rfl ?_;refine⟨_,rfl,?_,he⟩;rw[hmod,JI _ _ hm64,Ma (Nat.lt_of_le_of_lt (Nat.shiftRight_le _ _) (BC s _)),GZ];cases s.testBit b.toNat<;>rfl
theorem jy.only {h0:aD}{g:Nat}(e:Ext M h0 h) (x:Ext (fun b=>b=g) h h') (hg:h0.size≤g):Ext M h0 h' :=
 ⟨Nat.le_trans e.size x.size,fun b hb hm=>by rw[x.block b (Nat.lt_of_lt_of_le hb e.size) (by omega)];exact e.block b hb hm⟩
theorem jy.ax {h0:aD}(e:Ext M h0 h) (x:aF h h'):Ext M h0 h':=e.trans (aF.of x)
theorem tU:∀(n m acc:Nat) (s:By),s.length<n→s.length<m→lY n acc s=lY m acc s
 | 0,_,_,_,h,_=>by omega
 |_,0,_,_,_,h=>by omega
 |n+1,m+1,acc,s,hn,hm=>by
  rw[lY,lY];cases hf:fk s with
  |none=>rfl
  |some p =>
   obtain⟨⟨a,b⟩,r⟩:=p;have hlen:=mR hf;simp only;split
   · rfl
   · exact tU n m _ _ (by omega) (by omega)
def ot (first:Bool) (acc:Nat) (l:By):Option (Nat×By):=if first=false∧l.head? =some 93 then some (acc,l.tail) else lY (l.length+1) acc l
theorem oX {first:Bool}{acc:Nat}(h:¬(first=false∧l.head? =some 93)) (hf:fk l=none):ot first acc l=none:=by
 unfold ot;rw[if_neg h,lY,hf]
theorem vi {first:Bool}{acc:Nat}{b:UInt8}(h:¬(first=false∧l.head? =some 93)) (hf:fk l=some ((a,b),r)):ot first acc l=ot false (nX acc a b) r:=by
 have hlen:=mR hf;unfold ot;rw[if_neg h,lY,hf];simp only[true_and];split
 · simp
 · rename_i hne
   rw[if_neg (fun e=>by
    cases r with
    |nil=>cases e
    |cons c t=>simp at e;subst e;exact hne t rfl)]
   exact tU _ _ _ _ (by omega) (by omega)
theorem KE (h:oM l=none):fk l=none:=by unfold fk;rw[h]
theorem KD (h:oM l=some (a,r)) (hr:r.head? ≠some 45):fk l=some ((a,a),r):=by
 unfold fk;rw[h];simp only;split
 · exact absurd rfl hr
 · rfl
theorem KC (h:oM l=some (a,r)) (hr:r.head? =some 45) (hb:oM r.tail=none):fk l=none:=by
 unfold fk;rw[h];cases r with
 |nil=>cases hr
 |cons c t=>simp at hr;subst hr;simp at hb;simp[hb]
theorem KB {r':By}{b:UInt8}(h:oM l=some (a,r)) (hr:r.head? =some 45) (hb:oM r.tail=some (b,r')):fk l=if b.toNat<a.toNat then none else some ((a,b),r'):=by
 unfold fk;rw[h];cases r with
 |nil=>cases hr
 |cons c t=>simp at hr;subst hr;simp at hb;simp[hb]
theorem wB (l:By):iu l=(ot true 0 (if l.head? =some 94 then l.tail else l)).map fun p=>(.mk 1 (if l.head? =some 94 then mK p.1 else p.1) [],p.2):=by
 unfold iu ot;split
 · simp
 · rename_i hne
   have h1:l.head? ≠some 94:=fun e=>by
    cases l with
    |nil=>cases e
    |cons c t=>simp at e;subst e;exact hne t rfl
   simp[h1]
theorem GY (s q:Nat) (hq:q<4):BD (mK s) q=18446744073709551615 ^^^ BD s q:=by
 apply Nat.eq_of_testBit_eq
 intro i;rw[kV,Nat.testBit_xor,kV];unfold mK;rw[Nat.testBit_xor,show GF=2 ^ 256-1 from rfl,Nat.testBit_two_pow_sub_one,show (18446744073709551615:Nat)=2 ^ 64-1 from rfl,Nat.testBit_two_pow_sub_one]
 by_cases hi:i<64
 · have:64*q+i<256:=by omega
   simp[hi,this]
 · simp[hi]
theorem JC {x:Nat}(hx:x<18446744073709551616):IntKind.u64.wrap ((BitVec.ofInt IntKind.u64.bits (if IntKind.u64.signed then -1 else IntKind.u64.max) ^^^ BitVec.ofInt IntKind.u64.bits (x:Int)).toNat:Int)=((18446744073709551615 ^^^ x:Nat):Int):=by
 have e:(BitVec.ofInt IntKind.u64.bits (if IntKind.u64.signed then -1 else IntKind.u64.max) ^^^ BitVec.ofInt IntKind.u64.bits (x:Int)).toNat=18446744073709551615 ^^^ x:=by
  rw[BitVec.toNat_xor]
  have h1:(BitVec.ofInt IntKind.u64.bits (x:Int)).toNat=x:=by
   show (BitVec.ofInt 64 (x:Int)).toNat=x
   simp only[BitVec.toNat_ofInt];omega
  rw[h1];rfl
 rw[e];have:18446744073709551615 ^^^ x<2 ^ 64:=Nat.xor_lt_two_pow (by decide) hx;exact nE ⟨by omega,by omega⟩
def AD (s q i:Nat):Value:=if i<q then eV (mK s) i else eV s i
def I7 (s q:Nat):List Value:=[.int .i64 1,AD s q 0,AD s q 1,AD s q 2,AD s q 3,.slice none 0 0]
theorem FM (s q:Nat) (hq:q<4):(I7 s q)[1+q*1]? =some (eV s q):=by
 match q,hq with
 | 0,_=>rfl
 | 1,_=>rfl
 | 2,_=>rfl
 | 3,_=>rfl
theorem Hh (s q:Nat) (hq:q<4):(I7 s q).set (1+q*1) (.int .u64 ((18446744073709551615 ^^^ BD s q:Nat):Int))=I7 s (q+1):=by
 rw[←GY s q hq]
 match q,hq with
 | 0,_=>rfl
 | 1,_=>rfl
 | 2,_=>rfl
 | 3,_=>rfl
abbrev Dh (n:Nat):Nat→Prop:=fun b=>b<n
def Cy (n:Nat) (x:Nd) (v:Value) (h':aD):Prop:=∃w,v= .agg (dW x.kind x.set w).toArray∧cq h' (Dh n) (dW x.kind x.set w) x
theorem fI (h:aD) (O:Nat→Prop) (k s:Nat):cq h O (dW k s (.slice none 0 0)) (.mk k s []):=.of k s (bU.nil _ _ _)
theorem wA (hs:St h rb l) (hl:l.length≤1000000):ai Tryz.prog 192 #[zu rb] h (PR rb h (iu l) (Cy h.size)):=by
 have hlt:=hs.lt;have hbr:=wB l;refine ai.of func192 rfl rfl ?_;refine xr func192 rfl ?_;refine xo rfl (aC.aR H.jZ) ?_;rintro _ h1 ⟨rfl,hkr,he1,hz1⟩;refine xd [0,2] rfl ?_;refine xr func192 rfl ?_;refine xp rfl (aP (H.Di _) rfl) ?_;refine xo rfl (aC.aR H.jZ) ?_;rintro _ h2 ⟨rfl,hk2,he2,hz2⟩;refine RW.bZ rfl rfl rfl (aC.aB H.cv rfl rfl hk2 (by first|rfl|(simp;done)|(simp;omega)) (by first|decide|exact of_decide_eq_true rfl|(simp;done)|(simp;omega)) (by first|decide|simp[Value.oneCell'])) ?_;rintro _ h3 ⟨rfl,hk3,hx3,hz3⟩;have hk3:bq h3 h1.size 126 (dW 1 0 (.slice none 0 0)):=hk3;have hkr:bq h1 h.size 126 (dW 0 0 (.slice none 0 0)):=hkr;have e3:aF h h3:=aF.only (he1.trans he2) hx3 (by omega);have hkr3:bq h3 h.size 126 (dW 0 0 (.slice none 0 0)):=(hkr.ax he2).ext hx3 (by show ¬_=_;omega);have hs3:St h3 rb l:=bq.ax hs e3;refine xd [0,2,3] rfl ?_;refine br func192 1 rfl ?_;refine xo rfl (aq (vs:=[_,_]) func143 rfl H.C1 rfl (ai.bw (lp 94 hs3 hl))) ?_;rintro _ h4 ⟨hor,hx4⟩
 obtain⟨nt,l1,rfl,hnt,hl1,hs4⟩:∃(nt:Bool) (l1:By),_=Value.bool nt∧nt=decide (l.head? =some 94)∧l1=(if l.head? =some 94 then l.tail else l)∧St h4 rb l1:=by
  rcases hor with ⟨a1,a2,a3⟩|⟨a1,a2,a3⟩
  · exact⟨true,_,a2,by simp[a1],by rw[if_pos a1],a3⟩
  · exact⟨false,_,a2,by simp[a1],by rw[if_neg a1],a3⟩
 rw[←hl1] at hbr;have hl1l:l1.length≤1000000:=by rw[hl1];split;(have:l.tail.length≤l.length:=by simp);omega;exact hl
 have hkr4:=hkr3.ext hx4 (by show ¬_=_;omega);have hk4:=hk3.ext hx4 (by show ¬_=_;omega);have e4:Ext (only rb) h h4:=(aF.of e3).trans hx4;have hz4:=hx4.size;generalize htg:ot true 0 l1=tgt at hbr;refine aQ 1 [0,2,3,4] rfl ?_;refine av rfl ?_;refine aW func192 1 [0,2,3,4,5] rfl ?_;refine G.block rfl rfl ?_;refine bE (σ:=Bool×Nat×By) (fun q=>[(0,zu rb),(2,.pointer (some ⟨h.size,0,none⟩)),(3,.pointer (some ⟨h1.size,0,none⟩)),(4,.bool nt),(5,.bool q.1)]) (fun q h'=>St h' rb q.2.2∧bq h' h1.size 126 (dW 1 q.2.1 (.slice none 0 0))∧bq h' h.size 126 (dW 0 0 (.slice none 0 0))∧Ext (only rb) h h'∧q.2.2.length≤1000000∧ot q.1 q.2.1 q.2.2=tgt) (fun q=>q.2.2.length) ((true,0,l1)) rfl ⟨rfl,rfl,rfl,rfl,rfl,trivial⟩ ⟨hs4,hk4,hkr4,e4,hl1l,htg⟩ ?_;rintro⟨first,acc,m⟩ h5 ⟨hs5,hk5,hkr5,e5,hm,hcon⟩ ih
 try dsimp only
 dsimp only at hs5 hk5 hm hcon;refine av rfl ?_;refine av rfl ?_;refine G.bD [(17,.bool (decide (¬(first=false∧m.head? =some 93))))] [(0,_),(2,_),(3,_),(4,_),(5,_)] ⟨rfl,rfl,rfl,rfl,rfl,trivial⟩ func192 rfl ?_ ?_
 · refine aT 2 rfl ?_;refine aH (d:=13) rfl (fun hf=>?_) (fun hf=>?_)
   · refine aT 4 rfl ?_;refine az rfl ?_;exact⟨rfl,aA rfl (by simp[hf]),rfl,rfl,rfl,rfl,rfl,trivial⟩
   · refine aT 1 rfl ?_;refine xo rfl (aq (vs:=[_]) func175 rfl H.Ip rfl (ai.bw (uq hs5))) ?_;rintro _ _ ⟨rfl,rfl⟩;refine aT 2 rfl ?_;refine az rfl ?_;exact⟨rfl,aA rfl (by cases m with|nil=>simp|cons c t=>simp only[hf,List.head?_cons,Option.getD_some,Option.some.injEq,true_and];exact decide_eq_decide.2 (not_congr (dh rfl))),rfl,rfl,rfl,rfl,rfl,trivial⟩
 · refine aL rfl rfl (fun hgo=>?_) (fun hgo=>?_)
   · refine aE rfl ?_;refine av rfl ?_;refine G.block rfl rfl ?_;refine br func192 1 rfl ?_;refine xo rfl (aq (vs:=[_]) func206 rfl H.Ij rfl (ai.jv (qb hs5 hm) ((fun _ _ ⟨hc,hp,hx⟩=>dZ hc (by rw[hbr,←hcon,oX hgo (KE hp)];rfl) (e5.trans hx))))) ?_;rintro _ h6 ⟨a,r,ha,rfl,hs6,hx6⟩;have hrl:=qd ha;have hk6:=hk5.ext hx6 (by show ¬_=_;omega);have hkr6:=hkr5.ext hx6 (by show ¬_=_;omega);have e6:=e5.trans hx6;refine aQ 1 [0,2,3,4,5,6,17] rfl ?_;refine aW func192 2 [0,2,3,4,5,6,7,17] rfl ?_;refine av rfl ?_;refine br func192 1 rfl ?_;refine xo rfl (aq (vs:=[_,_]) func143 rfl H.C1 rfl (ai.bw (lp 45 hs6 (by omega)))) ?_;rintro _ h7 ⟨hor7,hx7⟩;have hk7:=hk6.ext hx7 (by show ¬_=_;omega);have hkr7:=hkr6.ext hx7 (by show ¬_=_;omega);have e7:=e6.trans hx7
     rcases hor7 with ⟨a1,rfl,hs7⟩|⟨a1,rfl,hs7⟩
     · have htl:r.tail.length≤r.length:=by simp
       refine xd [0,2,3,4,5,6,7,17,22] rfl ?_;refine aI rfl rfl (fun _=>?_) (fun hc=>absurd hc (by decide));refine G.bT func192 rfl ?_;refine aT 1 rfl ?_;refine xo rfl (aq (vs:=[_]) func206 rfl H.Ij rfl (ai.jv (qb hs7 (by omega)) ((fun _ _ ⟨hc,hp,hx⟩=>dZ hc (by rw[hbr,←hcon,oX hgo (KC ha a1 hp)];rfl) (e7.trans hx))))) ?_;rintro _ h8 ⟨b,r8,hb,rfl,hs8,hx8⟩;have hbl:=qd hb;have hk8:=hk7.ext hx8 (by show ¬_=_;omega);have hkr8:=hkr7.ext hx8 (by show ¬_=_;omega);have e8:=e7.trans hx8;have hf4:=KB ha a1 hb;refine aQ 1 [0,2,3,4,5,6,7,17,22] rfl ?_;refine av rfl ?_;refine aW func192 3 [0,2,3,4,5,6,7,17,22,27] rfl ?_;refine aL rfl rfl (fun hlow=>?_) (fun hlow=>?_)
       · rw[if_pos (by omega)] at hf4;refine G.bT func192 rfl ?_;refine xp rfl (aP (H.gV ) rfl) ?_;refine xp rfl (bL H.kK rfl) ?_;refine RW.bZ rfl rfl rfl (dH (Φ:=fun _ _=>False) rfl (dZ rfl (by rw[hbr,←hcon,oX hgo hf4];rfl) e8)) ?_;rintro _ _ hpn;exact hpn.elim
       · rw[if_neg (by omega)] at hf4;refine aE rfl ?_;refine G.bT func192 rfl ?_;refine xp rfl (af (off:=1) underlying126 rfl rfl H.lX rfl) ?_;refine aT 2 rfl ?_;refine xo rfl (aq (vs:=[_,_,_]) func193 rfl H.wU rfl (ai.bw (gM hk8 a b))) ?_;rintro _ h9 ⟨hk9,hx9⟩;refine xd [0,2,3,4,5,6,7,17,22,27] rfl ?_;refine G.aN ?_;refine G.bT func192 rfl ?_;refine aQ 1 [0,2,3,4,5,6,7,17,22,27] rfl ?_;have hsp:=vi (acc:=acc) hgo hf4;exact ih (false,nX acc a b,r8) _ _ ⟨rfl,rfl,rfl,rfl,rfl,trivial⟩ ⟨bq.ext hs8 hx9 (by show ¬_=_;omega),hk9,hkr8.ext hx9 (by show ¬_=_;omega),jy.only e8 hx9 (by omega),by show r8.length≤_;omega,by rw[←hcon,hsp]⟩ (by show r8.length<m.length;omega)
     · have hf2:=KD ha a1;refine xd [0,2,3,4,5,6,7,17,22] rfl ?_;refine aI rfl rfl (fun hc=>absurd hc (by decide)) (fun _=>?_);refine aE rfl ?_;refine av rfl ?_;refine aW func192 3 [0,2,3,4,5,6,7,17,22,27] rfl ?_;refine aI rfl rfl (fun hc=>absurd hc (by simp)) (fun _=>?_);refine aE rfl ?_;refine G.bT func192 rfl ?_;refine xp rfl (af (off:=1) underlying126 rfl rfl H.lX rfl) ?_;refine aT 2 rfl ?_;refine xo rfl (aq (vs:=[_,_,_]) func193 rfl H.wU rfl (ai.bw (gM hk7 a a))) ?_;rintro _ h9 ⟨hk9,hx9⟩;refine xd [0,2,3,4,5,6,7,17,22,27] rfl ?_;refine G.aN ?_;refine G.bT func192 rfl ?_;refine aQ 1 [0,2,3,4,5,6,7,17,22,27] rfl ?_;have hsp:=vi (acc:=acc) hgo hf2;exact ih (false,nX acc a a,r) _ _ ⟨rfl,rfl,rfl,rfl,rfl,trivial⟩ ⟨bq.ext hs7 hx9 (by show ¬_=_;omega),hk9,hkr7.ext hx9 (by show ¬_=_;omega),jy.only e7 hx9 (by omega),by show r.length≤_;omega,by rw[←hcon,hsp]⟩ (by show r.length<m.length;omega)
   · have hgo:=Classical.not_not.1 hgo;have htgt:tgt=some (acc,m.tail):=by rw[←hcon];unfold ot;rw[if_pos hgo]
     refine bz rfl rfl ?_;refine br func192 1 rfl ?_;refine xo rfl (aq (vs:=[_,_]) func191 rfl H.Im rfl (ai.jv (ur 93 hs5 hm) ((fun _ _ ⟨hc,hp,hx⟩=>absurd hp (by rw[if_pos hgo.2];simp))))) ?_;rintro _ h6 ⟨_,r,hp,_,hs6,hx6⟩;refine xd [0,2,3,4,5,17] rfl ?_;refine av rfl ?_;refine aW func192 1 [0,2,3,4,5,17,36] rfl ?_;refine G.block rfl rfl ?_;rw[if_pos hgo.2] at hp;cases hp;have hk6:=hk5.ext hx6 (by show ¬_=_;omega);have hkr6:=hkr5.ext hx6 (by show ¬_=_;omega);have e6:=e5.trans hx6;have hk6:bq h6 h1.size 126 (I7 acc 0):=hk6;refine bE (σ:=Nat) (fun q=>[(2,.pointer (some ⟨h.size,0,none⟩)),(3,.pointer (some ⟨h1.size,0,none⟩)),(4,.bool nt),(36,.int .i64 (q:Nat))]) (fun q h'=>q≤4∧St h' rb m.tail∧bq h' h1.size 126 (I7 acc (if nt then q else 0))∧bq h' h.size 126 (dW 0 0 (.slice none 0 0))∧Ext (only rb) h h') (fun q=>4-q) (0) rfl ⟨rfl,rfl,rfl,rfl,trivial⟩ ⟨by omega,hs6,by cases nt<;>exact hk6,hkr6,e6⟩ ?_;rintro q h7 ⟨hq,hs7,hk7,hkr7,e7⟩ ih;refine aW func192 1 [2,3,4,36,37] rfl ?_;refine av rfl ?_;refine aL rfl rfl (fun hq4=>?_) (fun hq4=>?_)
     · have hq4':q<4:=by omega
       refine aE rfl ?_;refine av rfl ?_;refine G.block rfl rfl ?_;refine aW func192 2 [2,3,4,8,36,37] rfl ?_;refine aW func192 1 [2,3,4,8,36,37,39] rfl ?_;refine aI rfl rfl (fun hb=>?_) (fun hb=>?_)
       · rw[if_pos hb] at hk7;have hk7':bq h7 h1.size 126 [.int .i64 1,AD acc q 0,AD acc q 1,AD acc q 2,AD acc q 3,.slice none 0 0]:=hk7;refine G.bT func192 rfl ?_;refine bP 2 rfl rfl (af (off:=1) underlying126 rfl rfl H.lX rfl) ?_;refine xp rfl (aj.cM underlying123 H.tN rfl rfl q rfl hq4') ?_;refine xp rfl (ah H.GI rfl (hk7.cell (FM acc q hq4'))) ?_;refine xp rfl (aj.KJ rfl) ?_;refine xp rfl (af (off:=1) underlying126 rfl rfl H.lX rfl) ?_;refine xp rfl (aj.cM underlying123 H.tN rfl rfl q rfl hq4') ?_;refine RW.bZ rfl rfl rfl (aC.bF H.tN rfl rfl hk7' (by first|decide|exact of_decide_eq_true rfl|(simp;done)|(simp;omega)) rfl) ?_;rintro _ h8 ⟨rfl,hk8,hx8,hz8⟩;refine xd [2,3,4,8,36,37,39] rfl ?_;refine G.aN ?_;refine G.bT func192 rfl ?_;refine xp rfl (aj.bA rfl rfl ⟨by omega,by omega⟩) ?_;refine aQ 1 [2,3,4,8,36,37,39] rfl ?_;have hk8:bq h8 h1.size 126 (I7 acc (q+1)):=by rw[←Hh acc q hq4',←JC (BC acc q)];exact hk8
         exact ih (q+1) _ _ ⟨rfl,rfl,rfl,rfl,trivial⟩ ⟨by omega,bq.ext hs7 hx8 (by show ¬_=_;omega),by rw[if_pos hb];exact hk8,hkr7.ext hx8 (by show ¬_=_;omega),jy.only e7 hx8 (by omega)⟩ (by omega)
       · rw[if_neg (by rw[hb];decide)] at hk7;refine aE rfl ?_;refine G.aN ?_;refine G.bT func192 rfl ?_;refine xp rfl (aj.bA rfl rfl ⟨by omega,by omega⟩) ?_;refine aQ 1 [2,3,4,8,36,37,39] rfl ?_;exact ih (q+1) _ _ ⟨rfl,rfl,rfl,rfl,trivial⟩ ⟨by omega,hs7,by rw[if_neg (by rw[hb];decide)];exact hk7,hkr7,e7⟩ (by omega)
     · obtain rfl:q=4:=by omega
       have hfin:I7 acc (if nt then 4 else 0)=dW 1 (if l.head? =some 94 then mK acc else acc) (.slice none 0 0):=by
        subst hnt
        by_cases hd:l.head? =some 94<;>simp[hd]<;>rfl
       rw[hfin] at hk7;have hbr2:iu l=some (.mk 1 (if l.head? =some 94 then mK acc else acc) [],m.tail):=by rw[hbr,htgt];rfl
       generalize (if l.head? =some 94 then mK acc else acc)=fs at hk7 hbr2;refine bz rfl rfl ?_;refine xr func192 rfl ?_;refine xp rfl (aj.aG H.eX H.cv rfl hk7.row (by first|rfl|(simp;done)|(simp;omega))) ?_;refine RW.bZ rfl rfl rfl (aC.aB H.cv rfl rfl hkr7 (by first|rfl|(simp;done)|(simp;omega)) (by first|decide|exact of_decide_eq_true rfl|(simp;done)|(simp;omega)) (cq.one (fI h7 (only rb) 1 fs))) ?_;rintro _ h8 ⟨rfl,hk8,hx8,hz8⟩;refine xd [2,3,4,36,37] rfl ?_;have hk8:bq h8 h.size 126 (dW 1 fs (.slice none 0 0)):=hk8;refine G.cN func192 rfl (.cons (bu.cB H.eX H.cv rfl (hk8.row) (by first|rfl|(simp;done)|(simp;omega))) (.nil)) ?_;exact⟨_,m.tail,hbr2,⟨_,rfl,fI _ _ _ _⟩,bq.ext hs7 hx8 (by show ¬_=_;omega),jy.only e7 hx8 (Nat.le_refl _)⟩
theorem gE {cs:List Value}(k:cq h (Dh m) cs x) (hn:n≤m) (e:Ext M h h') (hM:∀b,b<h.size→M b→b<m):cq h' (Dh n) cs x :=
 k.mv (Mv.dc e fun b hb ho=>⟨fun hm=>ho (hM b hb hm),fun k=>ho (Nat.lt_of_lt_of_le k hn)⟩)
theorem Fw {cs ds:List Value}(h:cs.length=ds.length):over cs 0 ds=ds:=by
 unfold over;rw[List.drop_of_length_le (by omega)];simp
theorem qj {O:Nat→Prop}{v:Value}{xs:List Nd}(kind:Nat) (hv:bU su h O v xs):ai Tryz.prog 144 #[.int .i64 (kind:Nat),v] h (cL fun r h'=>(∃w,r= .agg (dW (cD kind xs).kind (cD kind xs).set w).toArray∧cq h' O (dW (cD kind xs).kind (cD kind xs).set w) (cD kind xs))∧aF h h'):=by
 obtain⟨oa,n,c,rfl,hsl⟩:=hv.open;have hn:=hsl.len;refine ai.of func144 rfl rfl ?_;refine xr func144 rfl ?_;refine xo rfl (aC.aR H.jZ) ?_;rintro _ h1 ⟨rfl,hk,he,hz⟩;refine xd [0,1,4] rfl ?_;refine av rfl ?_;refine br func144 1 rfl ?_;refine xp rfl (aj.aJ underlying124 rfl) ?_;refine xd [0,1,4,6] rfl ?_;refine G.block rfl rfl ?_;refine aW func144 2 [0,1,4,6,7] rfl ?_;have hk:bq h1 h.size 126 (dW 0 0 (.slice none 0 0)):=hk;have hsl1:=hsl.mv (Mv.ax he);have hv1:=hv.ax he;refine aL rfl rfl (fun e0=>?_) (fun e0=>?_)
 · obtain rfl:n=0:=by omega
   have hx:xs=[]:=List.eq_nil_of_length_eq_zero hn;subst hx;refine xr func144 rfl ?_;refine xp rfl (aP (H.Cv ) rfl) ?_;refine RW.bZ rfl rfl rfl (aC.aB H.cv rfl rfl hk (by first|rfl|(simp;done)|(simp;omega)) (by first|decide|exact of_decide_eq_true rfl|(simp;done)|(simp;omega)) (by first|decide|simp[Value.oneCell'])) ?_;rintro _ h2 ⟨rfl,hk2,hx2,hz2⟩;refine xd [0,1,4,6,7] rfl ?_;have hk2:bq h2 h.size 126 (dW 0 0 (.slice none 0 0)):=hk2;refine G.cN func144 rfl (.cons (bu.cB H.eX H.cv rfl (hk2.row) (by first|rfl|(simp;done)|(simp;omega))) (.nil)) ?_;exact⟨_,rfl,⟨_,rfl,fI _ _ 0 0⟩,aF.only he hx2 (Nat.le_refl _)⟩
 · refine aW func144 2 [0,1,4,6,7,10] rfl ?_;refine aL rfl rfl (fun e1=>?_) (fun e1=>?_)
   · obtain rfl:n=1:=by omega
     obtain⟨x,rfl⟩:=List.length_eq_one_iff.1 hn;obtain⟨b,o,cs,ha,ho,hr,hR⟩:=hsl.get 0 x rfl;have hr:=he.rowAt (fun k=>k) hr;obtain⟨w,rfl,hw⟩:=cq.open hR;refine br func144 1 rfl ?_;refine xp rfl (aj.ay underlying124 H.cv rfl rfl 0 rfl ha (by decide)) ?_;refine xp rfl (aj.aG H.eX H.cv rfl hr (by first|rfl|(simp;done)|(simp;omega))) ?_;refine RW.bZ rfl rfl rfl (aC.aB H.cv rfl rfl hk (by first|rfl|(simp;done)|(simp;omega)) (by first|decide|exact of_decide_eq_true rfl|(simp;done)|(simp;omega)) (su.one hR)) ?_;rintro _ h2 ⟨rfl,hk2,hx2,hz2⟩;refine xd [0,1,4,6,7,10] rfl ?_;have hk2:bq h2 h.size 126 (dW x.kind x.set w):=hk2;refine G.cN func144 rfl (.cons (bu.cB H.eX H.cv rfl (hk2.row) (by first|rfl|(simp;done)|(simp;omega))) (.nil)) ?_;exact⟨_,rfl,⟨w,rfl,cq.ax hR (aF.only he hx2 (Nat.le_refl _))⟩,aF.only he hx2 (Nat.le_refl _)⟩
   · refine aE rfl ?_;refine G.aN ?_;refine br func144 2 rfl ?_;refine xp rfl (aP (H.rH _ _ _ _) rfl) ?_;refine RW.bZ rfl rfl rfl (aC.aB H.cv rfl rfl hk (by first|rfl|(simp;done)|(simp;omega)) (by first|decide|exact of_decide_eq_true rfl|(simp;done)|(simp;omega)) (by first|decide|simp[Value.oneCell'])) ?_;rintro _ h2 ⟨rfl,hk2,hx2,hz2⟩;refine xd [0,1,4,6,7,10] rfl ?_;have hk2:bq h2 h.size 126 (dW kind 0 (.slice oa n c)):=hk2;refine G.cN func144 rfl (.cons (bu.cB H.eX H.cv rfl (hk2.row) (by first|rfl|(simp;done)|(simp;omega))) (.nil)) ?_
     have hj:cD kind xs= .mk kind 0 xs:=by
      unfold cD;split
      · simp at hn;omega
      · simp at hn;omega
      · rfl
     rw[hj];exact⟨_,rfl,⟨.slice oa n c,rfl,cq.of kind 0 (hv.ax (aF.only he hx2 (Nat.le_refl _)))⟩,aF.only he hx2 (Nat.le_refl _)⟩
def Sg (h:aD) (lim:Nat):Prop:=∃m,7<lim∧m<lim∧cellAt h ⟨7,0,none⟩=some (.map (some m)) ∧
 ∃l:List (Int×Int),fJ (Value.int .u8) (Value.int .i64) h m l∧∀c:UInt8,((kT (c.toNat:Int) l).map (Value.int .i64)).getD (Value.int .i64 0)=Value.int .i64 (dJ c:Nat)
theorem Sg.ext {h h':aD}{lim:Nat}(k:Sg h lim){M:Nat→Prop}(e:Ext M h h') (hM:∀b,M b→lim≤b):Sg h' lim:=by
 obtain⟨m,h1,h2,h3,l,h4,h5⟩:=k;exact⟨m,h1,h2,e.cell (fun k=>absurd (hM _ k) (by show ¬lim≤7;omega)) h3,l,h4.ext e (fun k=>by have:=hM _ k;omega),h5⟩
def vL (d lim:Nat):Prop:=∀(h:aD) (rb:Nat) (l:By),Sg h lim→lim≤rb→St h rb l→l.length<d→l.length≤1000000 →
 ai Tryz.prog 110 #[zu rb] h (PR rb h (ew d l) (Cy h.size))
theorem Cw (ih:vL d lim) (hg:Sg h lim) (hrb:lim≤rb) (hs:St h rb l) (hd:l.length≤d) (hl:l.length≤1000000):ai Tryz.prog 174 #[zu rb] h (PR rb h (fC (ew d) l) (Cy h.size)):=by
 have hlt:=hs.lt;refine ai.of func174 rfl rfl ?_;refine xr func174 rfl ?_;refine xo rfl (aC.aR H.jZ) ?_;rintro _ h1 ⟨rfl,hkr,he1,hz1⟩;refine xd [0,2] rfl ?_;refine xr func174 rfl ?_;refine xp rfl (aP (H.Di _) rfl) ?_;refine xo rfl (aC.aR H.jZ) ?_;rintro _ h2 ⟨rfl,hk2,he2,hz2⟩;refine RW.bZ rfl rfl rfl (aC.aB H.cv rfl rfl hk2 (by first|rfl|(simp;done)|(simp;omega)) (by first|decide|exact of_decide_eq_true rfl|(simp;done)|(simp;omega)) (by first|decide|simp[Value.oneCell'])) ?_;rintro _ h3 ⟨rfl,hk3,hx3,hz3⟩;have hk3:bq h3 h1.size 126 (dW 1 0 (.slice none 0 0)):=hk3;have hkr:bq h1 h.size 126 (dW 0 0 (.slice none 0 0)):=hkr;have e3:aF h h3:=aF.only (he1.trans he2) hx3 (by omega);have hkr3:bq h3 h.size 126 (dW 0 0 (.slice none 0 0)):=(hkr.ax he2).ext hx3 (by show ¬_=_;omega);have hs3:St h3 rb l:=bq.ax hs e3;refine xd [0,2,3] rfl ?_;refine av rfl ?_;refine br func174 1 rfl ?_;refine xo rfl (aq (vs:=[_]) func176 rfl H.uk rfl (ai.jv (fT hs3 hl) ((fun _ _ ⟨hc,hp,hx⟩=>dZ hc (by rw[iR hp];rfl) ((aF.of e3).trans hx))))) ?_;rintro _ h4 ⟨c,r,hp,rfl,hs4,hx4⟩;obtain rfl:=fU hp;simp only[List.length_cons] at hl hd;have hkr4:=hkr3.ext hx4 (by show ¬_=_;omega);have hk4:=hk3.ext hx4 (by show ¬_=_;omega);have e4:Ext (only rb) h h4:=(aF.of e3).trans hx4;have hz4:=hx4.size;have hg4:Sg h4 lim:=hg.ext e4 (fun b (hb:b=rb)=>by omega);refine aQ 1 [0,2,3,4] rfl ?_;refine aW func174 1 [0,2,3,4,8] rfl ?_;refine G.block rfl rfl ?_;refine aW func174 2 [0,2,3,4,8,13] rfl ?_
 have fin:∀(x:Nd) (w:Value) (m:By) (h':aD) (ρ':Env),Sub [(0,zu rb),(2,.pointer (some ⟨h.size,0,none⟩)),(3,.pointer (some ⟨h1.size,0,none⟩))] ρ'→bq h' h1.size 126 (dW x.kind x.set w)→bq h' h.size 126 (dW 0 0 (.slice none 0 0))→St h' rb m→cq h' (Dh (h.size+1)) (dW x.kind x.set w) x→Ext (only rb) h h'→fC (ew d) (c::r)=some (x,m)→G Tryz.prog 174 f174 [.code [1,1,1]] ρ' h' (PR rb h (fC (ew d) (c::r)) (Cy h.size)):=by
  rintro x w m hh ρ' hsub hkx hkrr hst hnd hee hat;refine G.sub (ρ':=[(0,zu rb),(2,.pointer (some ⟨h.size,0,none⟩)),(3,.pointer (some ⟨h1.size,0,none⟩))]) hsub ?_;refine xr func174 rfl ?_;refine xp rfl (aj.aG H.eX H.cv rfl hkx.row (by first|rfl|(simp;done)|(simp;omega))) ?_;refine RW.bZ rfl rfl rfl (aC.aB H.cv rfl rfl hkrr (by first|rfl|(simp;done)|(simp;omega)) (by first|decide|exact of_decide_eq_true rfl|(simp;done)|(simp;omega)) (cq.one hnd)) ?_;rintro _ h9 ⟨rfl,hk9,hx9,hz9⟩;refine xd [0,2,3] rfl ?_;have hk9:bq h9 h.size 126 (dW x.kind x.set w):=hk9;refine G.cN func174 rfl (.cons (bu.cB H.eX H.cv rfl (hk9.row) (by first|rfl|(simp;done)|(simp;omega))) (.nil)) ?_;exact⟨x,m,hat,⟨w,rfl,gE hnd (Nat.le_succ _) hx9 (fun b _ (hb:b=h.size)=>by omega)⟩,bq.ext hst hx9 (by show ¬_=_;omega),jy.only hee hx9 (Nat.le_refl _)⟩
 refine aL rfl rfl (fun c1=>?_) (fun c1=>?_)
 · have c1:c=40:=(dh rfl).1 c1;subst c1;refine br func174 1 rfl ?_;refine xo rfl (aq (vs:=[_]) func110 rfl H.Iw rfl (ai.jv (ih h4 rb r hg4 hrb hs4 (by omega) (by omega)) ((fun _ _ ⟨hc,hp,hx⟩=>dZ hc (by unfold fC;simp[hp]) (e4.trans hx))))) ?_;rintro _ h5 ⟨x,r5,hp5,⟨w,rfl,hnd5⟩,hs5,hx5⟩;have hk5:=hk4.ext hx5 (by show ¬_=_;omega);have hkr5:=hkr4.ext hx5 (by show ¬_=_;omega);have hr5:=kE d hp5;refine RW.bZ rfl rfl rfl (aC.aB H.cv rfl rfl hk5 (by first|rfl|(simp;done)|(simp;omega)) (by first|decide|exact of_decide_eq_true rfl|(simp;done)|(simp;omega)) (cq.one hnd5)) ?_;rintro _ h6 ⟨rfl,hk6,hx6,hz6⟩;refine xd [0,2,3,4,8,13] rfl ?_;refine G.bT func174 rfl ?_;refine aT 1 rfl ?_;have hk6:bq h6 h1.size 126 (dW x.kind x.set w):=hk6;have hs6:St h6 rb r5:=bq.ext hs5 hx6 (by show ¬_=_;omega);have hnd6:cq h6 (Dh (h.size+1)) (dW x.kind x.set w) x:=gE hnd5 (by omega) hx6 (fun b _ (hb:b=h1.size)=>by omega);have e6:=jy.only (e4.trans hx5) hx6 (by omega);refine xo rfl (aq (vs:=[_,_]) func191 rfl H.Im rfl (ai.jv (ur 41 hs6 (by omega)) ((fun _ _ ⟨hc,hp,hx⟩=>dZ hc (by unfold fC;simp only[if_true,hp5];split;rename_i t ht;cases ht;simp at hp;rfl) (e6.trans hx))))) ?_;rintro _ h7 ⟨_,r7,hp7,_,hs7,hx7⟩;refine xd [0,2,3,4,8,13] rfl ?_;refine G.aN ?_
   have hcl:r5=41::r7:=by
    split at hp7
    · rename_i hh;cases hp7;cases r5 with|nil=>cases hh|cons a b=>simp at hh;subst hh;rfl
    · cases hp7
   subst hcl;exact fin x w r7 _ _ ⟨rfl,rfl,rfl,trivial⟩ (hk6.ext hx7 (by show ¬_=_;omega)) ((hkr5.ext hx6 (by show ¬_=_;omega)).ext hx7 (by show ¬_=_;omega)) hs7 (gE hnd6 (Nat.le_refl _) hx7 (fun b _ (hb:b=rb)=>by omega)) (e6.trans hx7) (by unfold fC;simp[hp5])
 · have c1:¬c=40:=fun e=>c1 ((dh rfl).2 e)
   refine aW func174 2 [0,2,3,4,8,13,19] rfl ?_;refine aL rfl rfl (fun c2=>?_) (fun c2=>?_)
   · have c2:c=91:=(dh rfl).1 c2;refine G.bT func174 rfl ?_;refine aT 1 rfl ?_;refine xo rfl (aq (vs:=[_]) func192 rfl H.J7 rfl (ai.jv (wA hs4 (by omega)) ((fun _ _ ⟨hc,hp,hx⟩=>dZ hc (by unfold fC;simp[c2,hp]) (e4.trans hx))))) ?_;rintro _ h5 ⟨x,r5,hp5,⟨w,rfl,hnd5⟩,hs5,hx5⟩;have hk5:=hk4.ext hx5 (by show ¬_=_;omega);have hkr5:=hkr4.ext hx5 (by show ¬_=_;omega);refine RW.bZ rfl rfl rfl (aC.aB H.cv rfl rfl hk5 (by first|rfl|(simp;done)|(simp;omega)) (by first|decide|exact of_decide_eq_true rfl|(simp;done)|(simp;omega)) (cq.one hnd5)) ?_;rintro _ h6 ⟨rfl,hk6,hx6,hz6⟩;refine xd [0,2,3,4,8,13,19] rfl ?_;refine G.aN ?_;have hk6:bq h6 h1.size 126 (dW x.kind x.set w):=hk6;exact fin x w r5 _ _ ⟨rfl,rfl,rfl,trivial⟩ hk6 (hkr5.ext hx6 (by show ¬_=_;omega)) (bq.ext hs5 hx6 (by show ¬_=_;omega)) (gE hnd5 (by omega) hx6 (fun b _ (hb:b=h1.size)=>by omega)) (jy.only (e4.trans hx5) hx6 (by omega)) (by unfold fC;simp[c2,hp5])
   · have c2:¬c=91:=fun e=>c2 ((dh rfl).2 e)
     refine aW func174 2 [0,2,3,4,8,13,19,23] rfl ?_;refine aL rfl rfl (fun c3=>?_) (fun c3=>?_)
     · have c3:c=46:=(dh rfl).1 c3;refine xr func174 rfl ?_;refine xp rfl (af (off:=1) underlying126 rfl rfl H.lX rfl) ?_;refine xo rfl (aq (vs:=[_,_,_]) func193 rfl H.wU rfl (ai.bw (gM hk4 0 9))) ?_;rintro _ h5 ⟨hk5,hx5⟩;refine xd [0,2,3,4,8,13,19,23] rfl ?_;refine G.bT func174 rfl ?_;refine xp rfl (af (off:=1) underlying126 rfl rfl H.lX rfl) ?_;refine xo rfl (aq (vs:=[_,_,_]) func193 rfl H.wU rfl (ai.bw (gM hk5 11 255))) ?_;rintro _ h6 ⟨hk6,hx6⟩;refine xd [0,2,3,4,8,13,19,23] rfl ?_;refine G.aN ?_;have hx56:=hx5.trans hx6;exact fin ID (.slice none 0 0) r _ _ ⟨rfl,rfl,rfl,trivial⟩ hk6 (hkr4.ext hx56 (by show ¬_=_;omega)) (bq.ext hs4 hx56 (by show ¬_=_;omega)) (fI _ _ _ _) (jy.only e4 hx56 (by omega)) (by unfold fC;simp[c3])
     · have c3:¬c=46:=fun e=>c3 ((dh rfl).2 e)
       refine aW func174 2 [0,2,3,4,8,13,19,23,29] rfl ?_;refine aL rfl rfl (fun c4=>?_) (fun c4=>?_)
       · have c4:c=92:=(dh rfl).1 c4;refine br func174 1 rfl ?_;refine xo rfl (aq (vs:=[_]) func194 rfl H.Il rfl (ai.jv (oq hs4 (by omega)) ((fun _ _ ⟨hc,hp,hx⟩=>dZ hc (by unfold fC;simp[c4,hp]) (e4.trans hx))))) ?_;rintro _ h5 ⟨b,r5,hp5,rfl,hs5,hx5⟩;have hk5:=hk4.ext hx5 (by show ¬_=_;omega);have hkr5:=hkr4.ext hx5 (by show ¬_=_;omega);refine aQ 1 [0,2,3,4,8,13,19,23,29] rfl ?_;refine G.bT func174 rfl ?_;refine xp rfl (af (off:=1) underlying126 rfl rfl H.lX rfl) ?_;refine aT 2 rfl ?_;refine xo rfl (aq (vs:=[_,_,_]) func193 rfl H.wU rfl (ai.bw (gM hk5 b b))) ?_;rintro _ h6 ⟨hk6,hx6⟩;refine xd [0,2,3,4,8,13,19,23,29] rfl ?_;refine G.aN ?_;exact fin (yZ b) (.slice none 0 0) r5 _ _ ⟨rfl,rfl,rfl,trivial⟩ hk6 (hkr5.ext hx6 (by show ¬_=_;omega)) (bq.ext hs5 hx6 (by show ¬_=_;omega)) (fI _ _ _ _) (jy.only (e4.trans hx5) hx6 (by omega)) (by unfold fC;simp[c4,hp5])
       · have c4:¬c=92:=fun e=>c4 ((dh rfl).2 e)
         refine av rfl ?_;refine aW func174 2 [0,2,3,4,8,13,19,23,29,37] rfl ?_;refine aL rfl rfl (fun d41=>?_) (fun d41=>?_)
         · have d41:c=41:=(dh rfl).1 d41;refine aE rfl ?_;refine aI rfl rfl (fun _=>?_) (fun hc=>absurd hc (by rw[d41];decide));refine G.bT func174 rfl ?_;refine xp rfl (aP (H.gV ) rfl) ?_;refine xp rfl (bL H.kK rfl) ?_;refine RW.bZ rfl rfl rfl (dH (Φ:=fun _ _=>False) rfl (dZ rfl (by unfold fC;simp[d41]) e4)) ?_;rintro _ _ hpn;exact hpn.elim
         · have d41:¬c=41:=fun e=>d41 ((dh rfl).2 e)
           refine aW func174 2 [0,2,3,4,8,13,19,23,29,37] rfl ?_;refine aL rfl rfl (fun d93=>?_) (fun d93=>?_)
           · have d93:c=93:=(dh rfl).1 d93;refine aE rfl ?_;refine aI rfl rfl (fun _=>?_) (fun hc=>absurd hc (by rw[d93];decide));refine G.bT func174 rfl ?_;refine xp rfl (aP (H.gV ) rfl) ?_;refine xp rfl (bL H.kK rfl) ?_;refine RW.bZ rfl rfl rfl (dH (Φ:=fun _ _=>False) rfl (dZ rfl (by unfold fC;simp[d93]) e4)) ?_;rintro _ _ hpn;exact hpn.elim
           · have d93:¬c=93:=fun e=>d93 ((dh rfl).2 e)
             refine aW func174 2 [0,2,3,4,8,13,19,23,29,37] rfl ?_;refine aL rfl rfl (fun d124=>?_) (fun d124=>?_)
             · have d124:c=124:=(dh rfl).1 d124;refine aE rfl ?_;refine aI rfl rfl (fun _=>?_) (fun hc=>absurd hc (by rw[d124];decide));refine G.bT func174 rfl ?_;refine xp rfl (aP (H.gV ) rfl) ?_;refine xp rfl (bL H.kK rfl) ?_;refine RW.bZ rfl rfl rfl (dH (Φ:=fun _ _=>False) rfl (dZ rfl (by unfold fC;simp[d124]) e4)) ?_;rintro _ _ hpn;exact hpn.elim
             · have d124:¬c=124:=fun e=>d124 ((dh rfl).2 e)
               refine aW func174 2 [0,2,3,4,8,13,19,23,29,37] rfl ?_;refine aL rfl rfl (fun d42=>?_) (fun d42=>?_)
               · have d42:c=42:=(dh rfl).1 d42;refine aE rfl ?_;refine aI rfl rfl (fun _=>?_) (fun hc=>absurd hc (by rw[d42];decide));refine G.bT func174 rfl ?_;refine xp rfl (aP (H.gV ) rfl) ?_;refine xp rfl (bL H.kK rfl) ?_;refine RW.bZ rfl rfl rfl (dH (Φ:=fun _ _=>False) rfl (dZ rfl (by unfold fC;simp[d42]) e4)) ?_;rintro _ _ hpn;exact hpn.elim
               · have d42:¬c=42:=fun e=>d42 ((dh rfl).2 e)
                 refine aW func174 2 [0,2,3,4,8,13,19,23,29,37] rfl ?_;refine aL rfl rfl (fun d43=>?_) (fun d43=>?_)
                 · have d43:c=43:=(dh rfl).1 d43;refine aE rfl ?_;refine aI rfl rfl (fun _=>?_) (fun hc=>absurd hc (by rw[d43];decide));refine G.bT func174 rfl ?_;refine xp rfl (aP (H.gV ) rfl) ?_;refine xp rfl (bL H.kK rfl) ?_;refine RW.bZ rfl rfl rfl (dH (Φ:=fun _ _=>False) rfl (dZ rfl (by unfold fC;simp[d43]) e4)) ?_;rintro _ _ hpn;exact hpn.elim
                 · have d43:¬c=43:=fun e=>d43 ((dh rfl).2 e)
                   refine G.bT func174 rfl ?_;refine aQ 2 [0,2,3,4,8,13,19,23,29,37] rfl ?_;refine aL rfl rfl (fun d63=>?_) (fun d63=>?_)
                   · have d63:c=63:=(dh rfl).1 d63;refine G.bT func174 rfl ?_;refine xp rfl (aP (H.gV ) rfl) ?_;refine xp rfl (bL H.kK rfl) ?_;refine RW.bZ rfl rfl rfl (dH (Φ:=fun _ _=>False) rfl (dZ rfl (by unfold fC;simp[d63]) e4)) ?_;rintro _ _ hpn;exact hpn.elim
                   · have d63:¬c=63:=fun e=>d63 ((dh rfl).2 e)
                     refine G.bT func174 rfl ?_;refine xp rfl (af (off:=1) underlying126 rfl rfl H.lX rfl) ?_;refine aT 2 rfl ?_;refine xo rfl (aq (vs:=[_,_,_]) func193 rfl H.wU rfl (ai.bw (gM hk4 c c))) ?_;rintro _ h6 ⟨hk6,hx6⟩;refine xd [0,2,3,4,8,13,19,23,29,37] rfl ?_;refine G.aN ?_;exact fin (yZ c) (.slice none 0 0) r _ _ ⟨rfl,rfl,rfl,trivial⟩ hk6 (hkr4.ext hx6 (by show ¬_=_;omega)) (bq.ext hs4 hx6 (by show ¬_=_;omega)) (fI _ _ _ _) (jy.only e4 hx6 (by omega)) (by unfold fC;simp[c1,c2,c3,c4,d41,d93,d124,d42,d43,d63])
theorem yg {ρ:Env}{dst:Option Nat}{ty:TypeId}{pos:String}{after:Array Edge}{guard:Option (Nat×Bool)}{x y:Operand}{l:List (Int×Int)}
 (hx:bW ρ x=some (.map (some m))) (hy:bW ρ y=some (.int .u8 (c.toNat:Nat))) (hm:fJ (Value.int .u8) (Value.int .i64) h m l) (hv:∀c:UInt8,((kT (c.toNat:Int) l).map (Value.int .i64)).getD (Value.int .i64 0)=Value.int .i64 (dJ c:Nat)) :
 aj Tryz.prog ⟨dst,.lookup 259 x y false,ty,pos,after,guard⟩ ρ h (.int .i64 (dJ c:Nat)):=by
 have:=pq (P:=Tryz.prog) (ρ:=ρ) (h:=h) (dst:=dst) (ty:=ty) (pos:=pos) (after:=after) (guard:=guard) (jr.int .u8) underlying259 underlying5 (z:=.int .i64 0) (et:=3) (by kernel_rfl) hx hy rfl hm
 rwa [hv c] at this
theorem zZ (h:0<dJ c):eZ x (c::r)=eZ (.mk (dJ c) 0 [x]) r:=by
 rw[eZ,if_neg (by omega)]
theorem zY {m:By}(h:dJ (m.head?.getD 0)=0):eZ x m=(x,m):=by
 cases m with
 |nil=>rfl
 |cons c r=>rw[eZ,if_pos (by simpa using h)]
theorem Aq (ih:vL d lim) (hg:Sg h lim) (hrb:lim≤rb) (hs:St h rb l) (hd:l.length≤d) (hl:l.length≤1000000):ai Tryz.prog 160 #[zu rb] h (PR rb h (fX (ew d) l) (Cy h.size)):=by
 have hlt:=hs.lt;refine ai.of func160 rfl rfl ?_;refine xr func160 rfl ?_;refine xo rfl (aC.aR H.jZ) ?_;rintro _ h1 ⟨rfl,hkr,he1,hz1⟩;refine xd [0,2] rfl ?_;refine br func160 1 rfl ?_;refine xo rfl (aq (vs:=[_]) func174 rfl H.Kb rfl (ai.jv (Cw ih (hg.ext he1 (fun _ k=>k.elim)) hrb (bq.ax hs he1) hd hl) ((fun _ _ ⟨hc,hp,hx⟩=>dZ hc (by unfold fX;rw[hp];rfl) ((aF.of he1).trans hx))))) ?_;rintro _ h2 ⟨x0,m0,hp0,⟨w0,rfl,hnd2⟩,hs2,hx2⟩;refine xo rfl (aC.aR H.jZ) ?_;rintro _ h3 ⟨rfl,hk3,he3,hz3⟩;refine RW.bZ rfl rfl rfl (aC.aB H.cv rfl rfl hk3 (by first|rfl|(simp;done)|(simp;omega)) (by first|decide|exact of_decide_eq_true rfl|(simp;done)|(simp;omega)) (cq.one hnd2)) ?_;rintro _ h4 ⟨rfl,hk4,hx4,hz4⟩;have hz2:=hx2.size;have hkr:bq h1 h.size 126 (dW 0 0 (.slice none 0 0)):=hkr;have hk4:bq h4 h2.size 126 (dW x0.kind x0.set w0):=hk4;have e2:Ext (only rb) h h2:=(aF.of he1).trans hx2;have hkr2:=hkr.ext hx2 (by show ¬_=_;omega);have e24:aF h2 h4:=aF.only he3 hx4 (Nat.le_refl _);have hnd4:cq h4 (fun b=>b<h.size+1∨b=h2.size) (dW x0.kind x0.set w0) x0:=hnd2.mv (Mv.dc e24 fun b hb hn=>⟨fun k=>k,fun k=>by have:¬b<h1.size:=hn;omega⟩);have hm0:=xI (fun h=>kE d h) hp0;have hpc:fX (ew d) l=some (eZ x0 m0):=by unfold fX;rw[hp0];rfl
 generalize htg:eZ x0 m0=tgt at hpc;generalize hnb:h2.size=nb at hk4 hnd4 hs2;have hnb1:h.size+1≤nb:=by omega
 refine xd [0,2,3] rfl ?_;refine av rfl ?_;refine G.block rfl rfl ?_;refine bE (σ:=Nd×Value×By) (fun q=>[(0,zu rb),(2,.pointer (some ⟨h.size,0,none⟩)),(3,.pointer (some ⟨nb,0,none⟩))]) (fun q h'=>St h' rb q.2.2∧bq h' nb 126 (dW q.1.kind q.1.set q.2.1)∧bq h' h.size 126 (dW 0 0 (.slice none 0 0))∧Ext (only rb) h h'∧cq h' (fun b=>b<h.size+1∨b=nb) (dW q.1.kind q.1.set q.2.1) q.1∧q.2.2.length≤1000000∧eZ q.1 q.2.2=tgt) (fun q=>q.2.2.length) ((x0,w0,m0)) rfl ⟨rfl,rfl,rfl,trivial⟩ ⟨bq.ax hs2 e24,hk4,hkr2.ax e24,jy.ax e2 e24,hnd4,by show m0.length≤_;omega,htg⟩ ?_;rintro⟨x,w,m⟩ h5 ⟨hs5,hk5,hkr5,e5,hnd5,hm,hsg⟩ ih
 try dsimp only
 dsimp only at hs5 hk5 hnd5 hm hsg;have hg5:Sg h5 lim:=hg.ext e5 (fun b (hb:b=rb)=>by omega);obtain⟨mp,hm1,hm2,hcell,lm,hmap,hval⟩:=hg5;refine av rfl ?_;refine av rfl ?_;refine G.dB func160 H.mixed rfl (by kernel_rfl) ?_;refine RQ.au rfl rfl rfl rfl (ah H.IG rfl hcell) ?_;refine RQ.au rfl rfl rfl rfl (aK rfl) ?_;refine RQ.IE (vs:=[_]) rfl rfl rfl rfl rfl func175 rfl H.Ip rfl (uq hs5) ?_;refine RQ.au rfl rfl rfl rfl (yg rfl rfl hmap hval) ?_;refine RQ.au rfl rfl rfl rfl (Dn rfl rfl) ?_;refine b8 rfl ?_;refine xu [0,2,3,10] rfl ?_;refine aL rfl rfl (fun hgo=>?_) (fun hgo=>?_)
 · have hgo:0<dJ (m.head?.getD 0):=by omega
   obtain⟨c,r,rfl⟩:=List.exists_cons_of_ne_nil (fun(e:m=[])=>by rw[e] at hgo;revert hgo;decide);have hgo:0<dJ c:=hgo;rw[zZ hgo] at hsg;simp only[List.length_cons] at hm;have hlt5:=hk5.lt;have hltr:=hkr5.lt
   have hn1:¬((⟨7,0,none⟩:Addr).block=rb∨Array.size h5≤(⟨7,0,none⟩:Addr).block):=by
    show ¬(7=rb∨Array.size h5≤7);omega
   have hn2:¬(nb=rb∨Array.size h5≤nb):=by omega
   have hn3:¬(mp=rb∨Array.size h5≤mp):=by omega
   have hO5:¬(h5.size<h.size+1∨h5.size=nb):=by have:=hkr5.lt;omega
   refine aE rfl ?_;refine G.block rfl rfl ?_;refine bV (fun b=>b=rb∨Array.size h5≤b) (fun i=>Nat.blt i 7) (sz:=8) (listed:= #[false,false,false,false,false,false,false,false]) func160 H.mixed rfl rfl rfl ?_;refine bI 0 1 (by kernel_rfl) rfl (fun h' e=>ah H.IG rfl (e.cell hn1 hcell)) ?_;refine b9 1 3 (by kernel_rfl) rfl ?_;refine bI 4 19 (by kernel_rfl) rfl (fun h' e=>aj.aG H.eX H.cv rfl (e.rowAt hn2 hk5.row) (by first|rfl|(simp;done)|(simp;omega))) ?_;refine RD.wh 2 5 (li:= #[true,true,true,false,true,false,false,false]) (lj:= #[true,true,false,false,true,true,false,false]) rfl rfl (by kernel_rfl) rfl rfl rfl rfl rfl rfl (aq (vs:=[_]) func176 rfl H.uk rfl (ai.jv (fT hs5 (by simp only[List.length_cons];omega)) ((fun _ _ ⟨_,hp,_⟩=>by cases hp)))) (aC.cx (cs:=[_,_,_,_,_,_]) underlying124 H.ve rfl rfl (by decide)) (by kernel_rfl) (by kernel_rfl) ?_ ?_
   · rintro _ h6 ⟨_,_,hp6,rfl,hs6,hx6⟩;refine⟨fun _=>hx6.mono (fun _ _ k=>.inl k),?_⟩;cases hp6;have hmap6:=hmap.ext hx6 (by show ¬_=_;omega);have hz6:=hx6.size;have hk6:=hk5.ext hx6 (by show ¬_=_;omega);have hnd6:cq h6 (fun b=>b<h.size+1∨b=nb) (dW x.kind x.set w) x:=hnd5.mv (Mv.dc hx6 fun b hb hn=>⟨fun(k:b=rb)=>hn (.inl (by omega)),hn⟩);refine bI 3 31 (by kernel_rfl) rfl (fun h' e=>yg rfl rfl (hmap6.ext e hn3) hval) ?_;refine cU 5 63 (by kernel_rfl) rfl (aC.cx (cs:=[_,_,_,_,_,_]) underlying124 H.ve rfl rfl (by decide)) ?_;rintro _ _ ⟨rfl,rfl⟩;refine⟨fun _=>by first|exact Ext.push _ _ _|assumption,?_⟩;refine bI 6 127 (by kernel_rfl) rfl (fun h' e=>aP (H.rH _ _ _ _) rfl) ?_;have hsl:=bU.n8 (e:=su) (t:=126) hnd6 (show ¬(h6.size<h.size+1∨h6.size=nb) by omega);have ep:=Ext.push (fun _=>False) h6 (.cells (dW x.kind x.set w).toArray 126);have hk7:=hk6.ax ep;have hs7:St _ rb r:=bq.ax hs6 ep;have hkr7:=(hkr5.ext hx6 (by show ¬_=_;omega)).ax ep;have e7:=jy.ax (e5.trans hx6) ep;refine fS 7 255 (by kernel_rfl) rfl (aC.aB H.cv rfl rfl hk7 (by first|rfl|(simp;done)|(simp;omega)) (by first|decide|exact of_decide_eq_true rfl|(simp;done)|(simp;omega)) (cq.one (cq.of (dJ c) 0 hsl))) ?_;rintro _ h8 ⟨rfl,hk8,hx8,hz8⟩;refine⟨fun hk=>(nomatch hk),?_⟩;refine bg (by kernel_rfl) ?_;refine xu [0,2,3,10] rfl ?_;refine G.aN ?_;have hk8:bq h8 nb 126 (dW (dJ c) 0 (.slice (some ⟨h6.size,0,none⟩) 1 1)):=hk8;exact ih (.mk (dJ c) 0 [x],.slice (some ⟨h6.size,0,none⟩) 1 1,r) _ _ ⟨rfl,rfl,rfl,trivial⟩ ⟨bq.ext hs7 hx8 (by show ¬_=_;omega),hk8,hkr7.ext hx8 (by show ¬_=_;omega),jy.only e7 hx8 (by omega),(cq.of (dJ c) 0 hsl).mv (Mv.dc hx8 fun b hb hn=>⟨fun(k:b=nb)=>hn (.inr k),hn⟩),by show r.length≤_;omega,hsg⟩ (by show r.length<(c::r).length;simp)
   · rintro _ _ ⟨rfl,rfl⟩;refine⟨fun _=>by first|exact Ext.push _ _ _|assumption,?_⟩;have hsl:=bU.n8 (e:=su) (t:=126) hnd5 hO5;have ep:=Ext.push (fun _=>False) h5 (.cells (dW x.kind x.set w).toArray 126);refine cU 2 55 (by kernel_rfl) rfl (aq (vs:=[_]) func176 rfl H.uk rfl (ai.jv (fT (bq.ax hs5 ep) (by simp only[List.length_cons];omega)) ((fun _ _ ⟨_,hp,_⟩=>by cases hp)))) ?_;rintro _ h6 ⟨_,_,hp6,rfl,hs6,hx6⟩;refine⟨fun _=>hx6.mono (fun _ _ k=>.inl k),?_⟩;cases hp6;have hmap6:=(hmap.ext ep (fun k=>k)).ext hx6 (by show ¬_=_;omega);have hz6:=hx6.size;have hzp:(h5.push (.cells (dW x.kind x.set w).toArray 126)).size=h5.size+1:=by simp
     have hk6:=(hk5.ax ep).ext hx6 (by show ¬_=_;omega);have hkr6:=(hkr5.ax ep).ext hx6 (by show ¬_=_;omega);have hn4:¬(mp=rb∨Array.size h5≤mp):=hn3;refine bI 3 63 (by kernel_rfl) rfl (fun h' e=>yg rfl rfl (hmap6.ext e hn4) hval) ?_;refine bI 6 127 (by kernel_rfl) rfl (fun h' e=>aP (H.rH _ _ _ _) rfl) ?_;have hsl6:bU su h6 (fun b=>b<h.size+1∨b=nb) (.slice (some ⟨h5.size,0,none⟩) 1 1) [x]:=hsl.mv (Mv.dc hx6 fun b hb hn=>⟨fun(k:b=rb)=>hn (.inl (by omega)),hn⟩);refine fS 7 255 (by kernel_rfl) rfl (aC.aB H.cv rfl rfl hk6 (by first|rfl|(simp;done)|(simp;omega)) (by first|decide|exact of_decide_eq_true rfl|(simp;done)|(simp;omega)) (cq.one (cq.of (dJ c) 0 hsl6))) ?_;rintro _ h8 ⟨rfl,hk8,hx8,hz8⟩;refine⟨fun hk=>(nomatch hk),?_⟩;refine bg (by kernel_rfl) ?_;refine xu [0,2,3,10] rfl ?_;refine G.aN ?_;have hk8:bq h8 nb 126 (dW (dJ c) 0 (.slice (some ⟨h5.size,0,none⟩) 1 1)):=hk8;exact ih (.mk (dJ c) 0 [x],.slice (some ⟨h5.size,0,none⟩) 1 1,r) _ _ ⟨rfl,rfl,rfl,trivial⟩ ⟨bq.ext hs6 hx8 (by show ¬_=_;omega),hk8,hkr6.ext hx8 (by show ¬_=_;omega),jy.only ((jy.ax e5 ep).trans hx6) hx8 (by omega),(cq.of (dJ c) 0 hsl6).mv (Mv.dc hx8 fun b hb hn=>⟨fun(k:b=nb)=>hn (.inr k),hn⟩),by show r.length≤_;omega,hsg⟩ (by show r.length<(c::r).length;simp)
 · rw[zY (by omega)] at hsg;refine bz rfl rfl ?_;refine xr func160 rfl ?_;refine xp rfl (aj.aG H.eX H.cv rfl hk5.row (by first|rfl|(simp;done)|(simp;omega))) ?_;refine RW.bZ rfl rfl rfl (aC.aB H.cv rfl rfl hkr5 (by first|rfl|(simp;done)|(simp;omega)) (by first|decide|exact of_decide_eq_true rfl|(simp;done)|(simp;omega)) (cq.one hnd5)) ?_;rintro _ h6 ⟨rfl,hk6,hx6,hz6⟩;refine xd [0,2,3,10] rfl ?_;have hk6:bq h6 h.size 126 (dW x.kind x.set w):=hk6;refine G.cN func160 rfl (.cons (bu.cB H.eX H.cv rfl (hk6.row) (by first|rfl|(simp;done)|(simp;omega))) (.nil)) ?_;exact⟨x,m,by rw[hpc,←hsg],⟨w,rfl,hnd5.mv (Mv.dc hx6 fun b hb hn=>⟨fun(k:b=h.size)=>hn (.inl (by omega)),fun(k:b<h.size)=>hn (.inl (by omega))⟩)⟩,bq.ext hs5 hx6 (by show ¬_=_;omega),jy.only e5 hx6 (Nat.le_refl _)⟩
theorem wQ (ih:vL d lim) (hg:Sg h lim) (hrb:lim≤rb) (hs:St h rb l) (hd:l.length≤d) (hl:l.length≤1000000):ai Tryz.prog 142 #[zu rb] h (PR rb h (yl (ew d) l) (Cy h.size)):=by
 have hlt:=hs.lt;have hrl:∀{s x r},ew d s=some (x,r)→r.length≤s.length:=fun h=>kE d h
 refine ai.of func142 rfl rfl ?_;refine xr func142 rfl ?_;refine xo rfl (aC.aR H.jZ) ?_;rintro _ h1 ⟨rfl,hkr,he1,hz1⟩;refine xd [0,2] rfl ?_;refine aW func142 1 [0,2,3] rfl ?_;refine av rfl ?_;refine G.block rfl rfl ?_;have hkr:bq h1 h.size 126 (dW 0 0 (.slice none 0 0)):=hkr;generalize htg:mE (ew d) (l.length+1) l=tgt;have hrow:yl (ew d) l=tgt.map fun p=>(cD 2 p.1,p.2):=by unfold yl;rw[htg]
 have htg0:tgt.map (fun p=>(([]:List Nd)++p.1,p.2))=tgt:=by cases tgt<;>rfl
 refine bE (σ:=List Nd×Value×By) (fun q=>[(0,zu rb),(2,.pointer (some ⟨h.size,0,none⟩)),(3,q.2.1)]) (fun q h'=>St h' rb q.2.2∧dD su (Dh h1.size) h' h1.size 126 q.2.1 q.1∧bq h' h.size 126 (dW 0 0 (.slice none 0 0))∧Ext (only rb) h h'∧q.2.2.length+q.1.length≤l.length∧(mE (ew d) (q.2.2.length+1) q.2.2).map (fun p=>(q.1++p.1,p.2))=tgt) (fun q=>q.2.2.length) (([],.slice none 0 0,l)) rfl ⟨rfl,rfl,rfl,trivial⟩ ⟨bq.ax hs he1,dD.nil _ _ _ _ _,hkr,aF.of he1,by show l.length+0≤_;omega,by rw[htg];exact htg0⟩ ?_;rintro⟨acc,v,m⟩ h5 ⟨hs5,hv5,hkr5,e5,hm,hcon⟩ ih'
 try dsimp only
 dsimp only at hs5 hv5 hm hcon;refine av rfl ?_;refine av rfl ?_;refine G.bD [(24,.bool (!jN m))] [(0,_),(2,_),(3,_)] ⟨rfl,rfl,rfl,trivial⟩ func142 rfl ?_ ?_
 · refine bP 2 rfl rfl (af (off:=0) underlying192 rfl rfl H.dA rfl) ?_;refine xp rfl (ah H.dO rfl hs5.cell) ?_;refine xp rfl (aj.oH rfl rfl) ?_;refine aT 1 rfl ?_;refine aH (d:=9) rfl (fun he=>?_) (fun he=>?_)
   · have hne:¬bs m=⟨#[]⟩:=of_decide_eq_true he;obtain⟨c,r,rfl⟩:=List.exists_cons_of_ne_nil (fun(e:m=[])=>hne (by rw[e];rfl));refine bP 2 rfl rfl (af (off:=0) underlying192 rfl rfl H.dA rfl) ?_;refine xp rfl (ah H.dO rfl hs5.cell) ?_;refine xp rfl (aj.cm underlying9 rfl rfl 0 rfl (eF rfl)) ?_;refine aT 3 rfl ?_;refine aH (d:=17) rfl (fun h124=>?_) (fun h124=>?_)
     · have h124:¬c=124:=fun e=>(of_decide_eq_true h124) ((dh rfl).2 e)
       refine bP 2 rfl rfl (af (off:=0) underlying192 rfl rfl H.dA rfl) ?_;refine xp rfl (ah H.dO rfl hs5.cell) ?_;refine xp rfl (aj.cm underlying9 rfl rfl 0 rfl (eF rfl)) ?_;refine aT 2 rfl ?_;refine az rfl ?_;exact⟨rfl,aA rfl (by simp only[jN];rw[show (c ==124)=false by simpa using h124,Bool.false_or,show (c ==41)=decide (c=41) by rw[Bool.eq_iff_iff];simp,←decide_not];exact decide_eq_decide.2 (not_congr (dh rfl))),rfl,rfl,rfl,trivial⟩
     · have h124:c=124:=(dh rfl).1 (Classical.not_not.1 (of_decide_eq_false h124));refine aT 7 rfl ?_;refine az rfl ?_;exact⟨rfl,aA rfl (by simp[jN,h124]),rfl,rfl,rfl,trivial⟩
   · have hne:bs m=⟨#[]⟩:=Classical.not_not.1 (of_decide_eq_false he);obtain rfl:m=[]:=dx hne;refine aT 15 rfl ?_;refine az rfl ?_;exact⟨rfl,aA rfl (by rfl),rfl,rfl,rfl,trivial⟩
 · obtain⟨css,hc1,hc2,hc3⟩:=id hv5;have hlt5:=hkr5.lt;have hz5:=e5.size;refine aI rfl rfl (fun hgo=>?_) (fun hgo=>?_)
   · have hend:jN m=false:=by simpa using hgo
     have hcon':tgt=(match fX (ew d) m with|none=>none|some (x,r)=>((mE (ew d) (r.length+1) r).map fun p=>(x::p.1,p.2)).map (fun p=>(acc++p.1,p.2))):=by
      rw[←hcon,mE,if_neg (by rw[hend];decide)];cases hp:fX (ew d) m with
      |none=>rfl
      |some q =>
       obtain⟨x,r⟩:=q;have:=fW hrl hp;simp only;rw[wR hrl m.length (r.length+1) r (by omega) (by omega)]
     refine aE rfl ?_;refine G.block rfl rfl ?_;refine G.bT func142 rfl ?_;refine aT 2 rfl ?_;refine xo rfl (aq (vs:=[_]) func160 rfl H.Kg rfl (ai.jv (Aq ih (hg.ext e5 (fun b (hb:b=rb)=>by omega)) hrb hs5 (by omega) (by omega)) ((fun _ _ ⟨hc,hp,hx⟩=>dZ hc (by rw[hrow,hcon',hp];rfl) (e5.trans hx))))) ?_;rintro _ h6 ⟨x,r,hp,⟨w,rfl,hnd6⟩,hs6,hx6⟩;have hr6:=fW hrl hp;have hz6:=hx6.size;have hown:∀b,v.ownBlock=some b→h1.size≤b∧b<h5.size:=fun b hb=>hc2.lt hb
     have hc26:=hc2.ext hx6 (fun b hb (k:b=rb)=>by have:=hown b hb;omega);have hc36:∀(i:Nat) (cs:List Value) (x:Nd),css[i]? =some cs→acc[i]? =some x→su.R h6 (fun b=>cT v.ownBlock b∨b<h1.size) cs x:=fun i cs x h1' h2'=>su.mv (hc3 i cs x h1' h2') (Mv.dc hx6 fun b hb hn=>⟨fun(k:b=rb)=>hn (.inr (by show b<_;omega)),hn⟩)
     have hnd6':su.R h6 (fun b=>cT v.ownBlock b∨b<h1.size) (dW x.kind x.set w) x:=cq.mv hnd6 ⟨Nat.le_refl _,fun b hb hn=>⟨rfl,fun k=>by
      have hn:¬b<h5.size:=hn
      rcases k with k|k
      · have:=hown b k.symm;omega
      · omega⟩⟩
     refine xo rfl (aC.cx (cs:=[_,_,_,_,_,_]) underlying124 H.ve rfl rfl (by decide)) ?_;rintro _ _ ⟨rfl,rfl⟩;refine xo rfl (aC.bO underlying124 H.ve rfl rfl (hc26) rfl rfl (cq.one hnd6) (by omega) (by decide) (by omega)) ?_;rintro v7 h7 ⟨ho7,hx7,-,hv7⟩;refine aQ 1 [0,2,3,24] rfl ?_;refine G.aN ?_;have hrb7:¬cT v.ownBlock rb:=fun k=>by have:=hown rb k.symm;omega
     have hr7:¬cT v.ownBlock h.size:=fun k=>by have:=hown _ k.symm;omega
     have e7:Ext (only rb) h h7:=⟨by have:=hx7.size;omega,fun b hb hn=>by rw[hx7.block b (by omega) (fun k=>by have:=hown b k.symm;omega)];exact(e5.trans hx6).block b hb hn⟩
     rw[hp] at hcon';exact ih' (acc++[x],v7,r) _ _ ⟨rfl,rfl,rfl,trivial⟩ ⟨bq.ext hs6 hx7 hrb7,dD.fV hc1 hc36 ho7 hx7 hv7 hnd6',(hkr5.ext hx6 (by show ¬_=_;omega)).ext hx7 hr7,e7,by show r.length+(acc++[x]).length≤_;rw[List.length_append,List.length_singleton];omega,by rw[hcon'];simp only[Option.map_map];congr 1;funext p;simp⟩ (by show r.length<m.length;omega)
   · have hend:jN m=true:=by simpa using hgo
     rw[mE,if_pos hend] at hcon;have hsl:bU su h5 (Dh h1.size) v acc:=hv5.read (fun b hb (k:b<h1.size)=>by omega) (fun b _ k=>k);refine bz rfl rfl ?_;refine br func142 1 rfl ?_;refine xo rfl (aq (vs:=[_,_]) func144 rfl H.Iq rfl (ai.bw (qj 2 hsl))) ?_;rintro _ h6 ⟨⟨w,rfl,hnd6⟩,he6⟩;refine RW.bZ rfl rfl rfl (aC.aB H.cv rfl rfl (hkr5.ax he6) (by first|rfl|(simp;done)|(simp;omega)) (by first|decide|exact of_decide_eq_true rfl|(simp;done)|(simp;omega)) (cq.one hnd6)) ?_;rintro _ h7 ⟨rfl,hk7,hx7,hz7⟩;refine xd [0,2,3,24] rfl ?_;have hk7:bq h7 h.size 126 (dW (cD 2 acc).kind (cD 2 acc).set w):=hk7;have hz6:=he6.size;refine G.cN func142 rfl (.cons (bu.cB H.eX H.cv rfl (hk7.row) (by first|rfl|(simp;done)|(simp;omega))) (.nil)) ?_;exact⟨cD 2 acc,m,by rw[hrow,←hcon];simp,⟨w,rfl,gE hnd6 (by omega) hx7 (fun b _ (hb:b=h.size)=>by omega)⟩,bq.ext (bq.ax hs5 he6) hx7 (by show ¬_=_;omega),jy.only (jy.ax e5 he6) hx7 (Nat.le_refl _)⟩
theorem DP (ih:vL d lim) (hg:Sg h lim) (hrb:lim≤rb) (hs:St h rb l) (hd:l.length≤d) (hl:l.length≤1000000):ai Tryz.prog 110 #[zu rb] h (PR rb h (ew (d+1) l) (Cy h.size)):=by
 have hlt:=hs.lt;have hrl:∀{s x r},ew d s=some (x,r)→r.length≤s.length:=fun h=>kE d h
 have hrows:ew (d+1) l=match yl (ew d) l with|none=>none|some (x,r)=>sC (ew d) [x] r:=ud hrl [] l
 refine ai.of func110 rfl rfl ?_;refine xr func110 rfl ?_;refine xo rfl (aC.aR H.jZ) ?_;rintro _ h1 ⟨rfl,hkr,he1,hz1⟩;refine xd [0,2] rfl ?_;refine br func110 1 rfl ?_;refine xo rfl (aq (vs:=[_]) func142 rfl H.Ir rfl (ai.jv (wQ ih (hg.ext he1 (fun _ k=>k.elim)) hrb (bq.ax hs he1) hd hl) ((fun _ _ ⟨hc,hp,hx⟩=>dZ hc (by rw[hrows,hp]) ((aF.of he1).trans hx))))) ?_;rintro _ h2 ⟨x0,m0,hp0,⟨w0,rfl,hnd2⟩,hs2,hx2⟩;have hkr:bq h1 h.size 126 (dW 0 0 (.slice none 0 0)):=hkr;have hz2:=hx2.size;have hm0:=Ak hrl hp0;have ep:=Ext.push (fun _=>False) h2 (.cells (dW x0.kind x0.set w0).toArray 126);have hv0:dD su (Dh h1.size) (h2.push (.cells (dW x0.kind x0.set w0).toArray 126)) h1.size 126 (.slice (some ⟨h2.size,0,none⟩) 1 1) [x0]:=dD.n8 (e:=su) hnd2 hz2;have hs3:St _ rb m0:=bq.ax hs2 ep;have hkr3:=(hkr.ext hx2 (by show ¬_=_;omega)).ax ep;have e3:=jy.ax ((aF.of he1).trans hx2) ep;rw[hp0] at hrows;simp only at hrows;generalize htg:sC (ew d) [x0] m0=tgt at hrows;refine xo rfl (aC.cx (cs:=[_,_,_,_,_,_]) underlying124 H.ve rfl rfl (by decide)) ?_;rintro _ _ ⟨rfl,rfl⟩;refine aQ 1 [0,2,3] rfl ?_;refine av rfl ?_;refine G.block rfl rfl ?_;refine bE (σ:=List Nd×Value×By) (fun q=>[(0,zu rb),(2,.pointer (some ⟨h.size,0,none⟩)),(3,q.2.1)]) (fun q h'=>St h' rb q.2.2∧dD su (Dh h1.size) h' h1.size 126 q.2.1 q.1∧bq h' h.size 126 (dW 0 0 (.slice none 0 0))∧Ext (only rb) h h'∧(q.2.2.length≤l.length∧q.2.2.length+q.1.length≤l.length+1)∧sC (ew d) q.1 q.2.2=tgt) (fun q=>q.2.2.length) (([x0],.slice (some ⟨h2.size,0,none⟩) 1 1,m0)) rfl ⟨rfl,rfl,rfl,trivial⟩ ⟨hs3,hv0,hkr3,e3,⟨by show m0.length≤_;omega,by show m0.length+1≤_;omega⟩,htg⟩ ?_;rintro⟨acc,v,m⟩ h5 ⟨hs5,hv5,hkr5,e5,⟨hml,hm⟩,hcon⟩ ih'
 try dsimp only
 dsimp only at hs5 hv5 hml hm hcon;refine av rfl ?_;refine br func110 1 rfl ?_;refine xo rfl (aq (vs:=[_,_]) func143 rfl H.C1 rfl (ai.bw (lp 124 hs5 (by omega)))) ?_;rintro _ h6 ⟨hor,hx6⟩;refine xd [0,2,3,8] rfl ?_;have hlt5:=hkr5.lt;have hz5:=e5.size;have hz6:=hx6.size;have hkr6:=hkr5.ext hx6 (by show ¬_=_;omega);have e6:=e5.trans hx6;have hv6:dD su (Dh h1.size) h6 h1.size 126 v acc:=hv5.mv (hx6.mono fun b _ (k:b=rb)=>(by omega:b<h1.size)) (fun b hb (k:b<h1.size)=>by omega) (fun b _ k=>k);obtain⟨css,hc1,hc2,hc3⟩:=id hv6
 rcases hor with ⟨a1,rfl,hs6⟩|⟨a1,rfl,hs6⟩
 · obtain⟨c,t,rfl⟩:=List.exists_cons_of_ne_nil (fun(e:m=[])=>by rw[e] at a1;cases a1);have hs6:St h6 rb t:=hs6;simp only[List.length_cons] at hm hml
   have hcon':tgt=match yl (ew d) t with|none=>none|some (x,r)=>sC (ew d) (acc++[x]) r:=by
    have hG:=ud (rows:=ew d) hrl acc t;rw[←hcon];refine Eq.trans ?_ hG;unfold sC;rw[if_pos a1];rfl
   refine aI rfl rfl (fun _=>?_) (fun hc=>absurd hc (by decide));refine aE rfl ?_;refine G.block rfl rfl ?_;refine G.bT func110 rfl ?_;refine aT 2 rfl ?_;refine xo rfl (aq (vs:=[_]) func142 rfl H.Ir rfl (ai.jv (wQ ih (hg.ext e6 (fun b (hb:b=rb)=>by omega)) hrb hs6 (by omega) (by omega)) ((fun _ _ ⟨hc,hp,hx⟩=>dZ hc (by rw[hrows,hcon',hp]) (e6.trans hx))))) ?_;rintro _ h7 ⟨x,r,hp,⟨w,rfl,hnd7⟩,hs7,hx7⟩;have hr7:=Ak hrl hp;have hz7:=hx7.size;have hown:∀b,v.ownBlock=some b→h1.size≤b∧b<h6.size:=fun b hb=>hc2.lt hb
   have hc27:=hc2.ext hx7 (fun b hb (k:b=rb)=>by have:=hown b hb;omega);have hc37:∀(i:Nat) (cs:List Value) (x:Nd),css[i]? =some cs→acc[i]? =some x→su.R h7 (fun b=>cT v.ownBlock b∨b<h1.size) cs x:=fun i cs x h1' h2'=>su.mv (hc3 i cs x h1' h2') (Mv.dc hx7 fun b hb hn=>⟨fun(k:b=rb)=>hn (.inr (by show b<_;omega)),hn⟩)
   have hnd7':su.R h7 (fun b=>cT v.ownBlock b∨b<h1.size) (dW x.kind x.set w) x:=cq.mv hnd7 ⟨Nat.le_refl _,fun b hb hn=>⟨rfl,fun k=>by
    have hn:¬b<h6.size:=hn
    rcases k with k|k
    · have:=hown b k.symm;omega
    · omega⟩⟩
   refine xo rfl (aC.cx (cs:=[_,_,_,_,_,_]) underlying124 H.ve rfl rfl (by decide)) ?_;rintro _ _ ⟨rfl,rfl⟩;refine xo rfl (aC.bO underlying124 H.ve rfl rfl (hc27) rfl rfl (cq.one hnd7) (by omega) (by decide) (by omega)) ?_;rintro v8 h8 ⟨ho8,hx8,-,hv8⟩;refine aQ 1 [0,2,3,8] rfl ?_;refine G.aN ?_;have hrb8:¬cT v.ownBlock rb:=fun k=>by have:=hown rb k.symm;omega
   have hr8:¬cT v.ownBlock h.size:=fun k=>by have:=hown _ k.symm;omega
   have e8:Ext (only rb) h h8:=⟨by have:=hx8.size;omega,fun b hb hn=>by rw[hx8.block b (by omega) (fun k=>by have:=hown b k.symm;omega)];exact(e6.trans hx7).block b hb hn⟩
   rw[hp] at hcon';exact ih' (acc++[x],v8,r) _ _ ⟨rfl,rfl,rfl,trivial⟩ ⟨bq.ext hs7 hx8 hrb8,dD.fV hc1 hc37 ho8 hx8 hv8 hnd7',(hkr6.ext hx7 (by show ¬_=_;omega)).ext hx8 hr8,e8,⟨by show r.length≤_;omega,by show r.length+(acc++[x]).length≤_;rw[List.length_append,List.length_singleton];omega⟩,hcon'.symm⟩ (by show r.length<(c::t).length;simp only[List.length_cons];omega)
 · refine aI rfl rfl (fun hc=>absurd hc (by decide)) (fun _=>?_);have hsl:bU su h6 (Dh h1.size) v acc:=hv6.read (fun b hb (k:b<h1.size)=>by omega) (fun b _ k=>k);have hfin:tgt=some (cD 3 acc,m):=by rw[←hcon];unfold sC;rw[if_neg a1]
   refine bz rfl rfl ?_;refine br func110 1 rfl ?_;refine xo rfl (aq (vs:=[_,_]) func144 rfl H.Iq rfl (ai.bw (qj 3 hsl))) ?_;rintro _ h7 ⟨⟨w,rfl,hnd7⟩,he7⟩;refine RW.bZ rfl rfl rfl (aC.aB H.cv rfl rfl (hkr6.ax he7) (by first|rfl|(simp;done)|(simp;omega)) (by first|decide|exact of_decide_eq_true rfl|(simp;done)|(simp;omega)) (cq.one hnd7)) ?_;rintro _ h8 ⟨rfl,hk8,hx8,hz8⟩;refine xd [0,2,3,8] rfl ?_;have hk8:bq h8 h.size 126 (dW (cD 3 acc).kind (cD 3 acc).set w):=hk8;have hz7:=he7.size;refine G.cN func110 rfl (.cons (bu.cB H.eX H.cv rfl (hk8.row) (by first|rfl|(simp;done)|(simp;omega))) (.nil)) ?_;exact⟨cD 3 acc,m,by rw[hrows,hfin],⟨w,rfl,gE hnd7 (by omega) hx8 (fun b _ (hb:b=h.size)=>by omega)⟩,bq.ext (bq.ax hs6 he7) hx8 (by show ¬_=_;omega),jy.only (jy.ax e6 he7) hx8 (Nat.le_refl _)⟩
theorem CU (lim:Nat):∀d,vL d lim
 | 0=>fun _ _ l _ _ _ h _=>absurd h (Nat.not_lt_zero _)
 |d+1=>fun _ _ _ hg hrb hs hd hl=>DP (CU lim d) hg hrb hs (by omega) hl
end
end Go.Proofs.YtedocgkapmeceaaGreatDoor
