/- What the proof of the statement leans on (part 18). -/
import Derived.Test.YtmehdcdbeafljaaGreatDoorRows
import Derived.Test.YtmehdcdbeafljaaGreatDoorQq

namespace Go.Proofs.YtmehdcdbeafljaaGreatDoor.H
open Go Go.Lw
theorem iE:bM Tryz.prog 111=some false:=by kernel_rfl
theorem iq:bM Tryz.prog 124=some false:=by kernel_rfl
theorem nQ:bM Tryz.prog 127=some false:=by kernel_rfl
theorem Gl:bM Tryz.prog 128=some false:=by kernel_rfl
theorem IP:bM Tryz.prog 129=some true:=by kernel_rfl
theorem uL:bM Tryz.prog 130=some false:=by kernel_rfl
theorem eS:bM Tryz.prog 132=some true:=by kernel_rfl
theorem LD:bM Tryz.prog 138=some true:=by kernel_rfl
theorem CM:bM Tryz.prog 142=some false:=by kernel_rfl
theorem AK:bM Tryz.prog 144=some true:=by kernel_rfl
theorem pW:bM Tryz.prog 147=some false:=by kernel_rfl
theorem uK:bM Tryz.prog 153=some true:=by kernel_rfl
theorem LC:bM Tryz.prog 188=some true:=by kernel_rfl
theorem CL:bM Tryz.prog 2=some false:=by kernel_rfl
theorem Gk:bM Tryz.prog 203=some false:=by kernel_rfl
theorem LB:bM Tryz.prog 214=some true:=by kernel_rfl
theorem LA:bM Tryz.prog 215=some true:=by kernel_rfl
theorem jm:bM Tryz.prog 23=some false:=by kernel_rfl
theorem bN:bM Tryz.prog 25=some true:=by kernel_rfl
theorem IN:bM Tryz.prog 283=some false:=by kernel_rfl
theorem IM:bM Tryz.prog 287=some true:=by kernel_rfl
theorem cK:bM Tryz.prog 3=some false:=by kernel_rfl
theorem JF:bM Tryz.prog 31=some false:=by kernel_rfl
theorem HE:bM Tryz.prog 38=some false:=by kernel_rfl
theorem uJ:bM Tryz.prog 4=some false:=by kernel_rfl
theorem ij:bM Tryz.prog 41=some true:=by kernel_rfl
theorem yC:bM Tryz.prog 46=some true:=by kernel_rfl
theorem Nn:bM Tryz.prog 5=some false:=by kernel_rfl
theorem JE:bM Tryz.prog 50=some false:=by kernel_rfl
theorem bR:bM Tryz.prog 52=some true:=by kernel_rfl
theorem M9:bM Tryz.prog 54=some true:=by kernel_rfl
theorem HD:bM Tryz.prog 81=some false:=by kernel_rfl
theorem rU:bM Tryz.prog 84=some false:=by kernel_rfl
theorem HC:bM Tryz.prog 87=some false:=by kernel_rfl
theorem M8:bM Tryz.prog 89=some false:=by kernel_rfl
theorem fu:bM Tryz.prog 9=some false:=by kernel_rfl
theorem DX (a0:Option Addr) (n0 c0:Nat) (a2:Int):Tryz.prog.built 116 [(0,.slice a0 n0 c0),(2,.int .i64 a2)]=some #[.slice a0 n0 c0,.int .i64 (0),.int .i64 a2,.bool false,.int .i64 (0)]:=by kernel_rfl
theorem JD  : Tryz.prog.built 126 []=some #[.slice none 0 0,.int .i64 (0)]:=by kernel_rfl
theorem BU  : Tryz.prog.built 132 []=some #[.int .i64 (0),.int .u64 (0),.int .u64 (0),.int .u64 (0),.int .u64 (0),.slice none 0 0]:=by kernel_rfl
theorem qB (a0:Int) (a2:Option Addr) (n2 c2:Nat):Tryz.prog.built 132 [(0,.int .i64 a0),(2,.slice a2 n2 c2)]=some #[.int .i64 a0,.int .u64 (0),.int .u64 (0),.int .u64 (0),.int .u64 (0),.slice a2 n2 c2]:=by kernel_rfl
theorem CK (a0:Int):Tryz.prog.built 132 [(0,.int .i64 a0)]=some #[.int .i64 a0,.int .u64 (0),.int .u64 (0),.int .u64 (0),.int .u64 (0),.slice none 0 0]:=by kernel_rfl
theorem Gf  : Tryz.prog.built 138 []=some #[.int .i64 (0),.int .u64 (0),.int .u64 (0),.int .u64 (0),.int .u64 (0),.slice none 0 0,.int .i64 (0)]:=by kernel_rfl
theorem AI (a0:Int) (a1_0 a1_1 a1_2 a1_3:Value) (a2:Option Addr) (n2 c2:Nat):Tryz.prog.built 138 [(0,.int .i64 a0),(1,.agg #[a1_0,a1_1,a1_2,a1_3]),(2,.slice a2 n2 c2)]=some #[.int .i64 a0,a1_0,a1_1,a1_2,a1_3,.slice a2 n2 c2,.int .i64 (0)]:=by kernel_rfl
theorem DW (a0:Int) (a3:Int):Tryz.prog.built 138 [(0,.int .i64 a0),(3,.int .i64 a3)]=some #[.int .i64 a0,.int .u64 (0),.int .u64 (0),.int .u64 (0),.int .u64 (0),.slice none 0 0,.int .i64 a3]:=by kernel_rfl
theorem yA (a2:Option Addr) (n2 c2:Nat):Tryz.prog.built 138 [(2,.slice a2 n2 c2)]=some #[.int .i64 (0),.int .u64 (0),.int .u64 (0),.int .u64 (0),.int .u64 (0),.slice a2 n2 c2,.int .i64 (0)]:=by kernel_rfl
theorem JC  : Tryz.prog.built 144 []=some #[.string ⟨#[]⟩,.int .i64 (0),.int .i64 (0)]:=by kernel_rfl
theorem Ge  : Tryz.prog.built 149 []=some #[.slice none 0 0,.slice none 0 0]:=by kernel_rfl
theorem rI (a0:Int) (a1:ByteArray) (a2:Int):Tryz.prog.built 188 [(0,.int .i64 a0),(1,.string a1),(2,.int .i64 a2)]=some #[.int .i64 a0,.string a1,.int .i64 a2]:=by kernel_rfl
theorem gU  : Tryz.prog.built 193 []=some #[]:=by kernel_rfl
theorem Hx (a0:ByteArray):Tryz.prog.built 196 [(0,.string a0)]=some #[.string a0]:=by kernel_rfl
theorem Gd  : Tryz.prog.built 25 []=some #[.int .i64 (0),.string ⟨#[]⟩,.slice none 0 0]:=by kernel_rfl
theorem kE (a0:Int) (a1:ByteArray):Tryz.prog.built 25 [(0,.int .i64 a0),(1,.string a1)]=some #[.int .i64 a0,.string a1,.slice none 0 0]:=by kernel_rfl
theorem lu (a0:Int) (a1:ByteArray) (a2:Option Addr) (n2 c2:Nat):Tryz.prog.built 25 [(0,.int .i64 a0),(1,.string a1),(2,.slice a2 n2 c2)]=some #[.int .i64 a0,.string a1,.slice a2 n2 c2]:=by kernel_rfl
theorem AH (a0:Int) (a2:Option Addr) (n2 c2:Nat):Tryz.prog.built 25 [(0,.int .i64 a0),(2,.slice a2 n2 c2)]=some #[.int .i64 a0,.string ⟨#[]⟩,.slice a2 n2 c2]:=by kernel_rfl
theorem JB (a0:Int):Tryz.prog.built 25 [(0,.int .i64 a0)]=some #[.int .i64 a0,.string ⟨#[]⟩,.slice none 0 0]:=by kernel_rfl
theorem Ly  : Tryz.prog.built 41 []=some #[.int .i64 (0),.int .i64 (0)]:=by kernel_rfl
theorem Gc (a0:Int) (a1:Int):Tryz.prog.built 41 [(0,.int .i64 a0),(1,.int .i64 a1)]=some #[.int .i64 a0,.int .i64 a1]:=by kernel_rfl
theorem JA (a0:Int):Tryz.prog.built 41 [(0,.int .i64 a0)]=some #[.int .i64 a0,.int .i64 (0)]:=by kernel_rfl
theorem Lx  : Tryz.prog.built 46 []=some #[.int .i64 (0),.int .i64 (0),.int .i64 (0)]:=by kernel_rfl
theorem uE (a0:Int) (a1:Int) (a2:Int):Tryz.prog.built 46 [(0,.int .i64 a0),(1,.int .i64 a1),(2,.int .i64 a2)]=some #[.int .i64 a0,.int .i64 a1,.int .i64 a2]:=by kernel_rfl
theorem eo  : Tryz.prog.built 52 []=some #[.int .i64 (0),.int .i64 (0),.string ⟨#[]⟩,.string ⟨#[]⟩,.int .i64 (0),.string ⟨#[]⟩,.slice none 0 0,.slice none 0 0]:=by kernel_rfl
theorem fP (a0:Int) (a1:Int):Tryz.prog.built 52 [(0,.int .i64 a0),(1,.int .i64 a1)]=some #[.int .i64 a0,.int .i64 a1,.string ⟨#[]⟩,.string ⟨#[]⟩,.int .i64 (0),.string ⟨#[]⟩,.slice none 0 0,.slice none 0 0]:=by kernel_rfl
theorem AG (a0:Int) (a2:ByteArray):Tryz.prog.built 52 [(0,.int .i64 a0),(2,.string a2)]=some #[.int .i64 a0,.int .i64 (0),.string a2,.string ⟨#[]⟩,.int .i64 (0),.string ⟨#[]⟩,.slice none 0 0,.slice none 0 0]:=by kernel_rfl
theorem yz (a0:Int) (a2:ByteArray) (a4_0 a4_1 a4_2:Value) (a5:Option Addr) (n5 c5:Nat):Tryz.prog.built 52 [(0,.int .i64 a0),(2,.string a2),(4,.agg #[a4_0,a4_1,a4_2]),(5,.slice a5 n5 c5)]=some #[.int .i64 a0,.int .i64 (0),.string a2,.string ⟨#[]⟩,a4_0,a4_1,a4_2,.slice a5 n5 c5]:=by kernel_rfl
theorem Jz (a0:Int):Tryz.prog.built 52 [(0,.int .i64 a0)]=some #[.int .i64 a0,.int .i64 (0),.string ⟨#[]⟩,.string ⟨#[]⟩,.int .i64 (0),.string ⟨#[]⟩,.slice none 0 0,.slice none 0 0]:=by kernel_rfl
theorem uD (a0:ByteArray) (a1_0 a1_1 a1_2 a1_3 a1_4 a1_5 a1_6 a1_7:Value):Tryz.prog.built 54 [(0,.string a0),(1,.agg #[a1_0,a1_1,a1_2,a1_3,a1_4,a1_5,a1_6,a1_7])]=some #[.string a0,a1_0,a1_1,a1_2,a1_3,a1_4,a1_5,a1_6,a1_7]:=by kernel_rfl
theorem qA (a0:ByteArray) (a1:ByteArray) (a2:ByteArray) (a3:ByteArray) (a4:ByteArray) (a5:ByteArray):Tryz.prog.built 76 [(0,.string a0),(1,.string a1),(2,.string a2),(3,.string a3),(4,.string a4),(5,.string a5)]=some #[.string a0,.string a1,.string a2,.string a3,.string a4,.string a5]:=by kernel_rfl
theorem Lv  : Tryz.prog.built 83 []=some #[.slice none 0 0]:=by kernel_rfl
theorem Lu  : Tryz.prog.built 99 []=some #[.int .i64 (0)]:=by kernel_rfl
theorem kC:Tryz.prog.concrete 193=true:=by kernel_rfl
set_option maxRecDepth 100000 in
theorem FV:fG Tryz.prog 127 1 24:=⟨⟨_,_,rfl,rfl,rfl,rfl,rfl⟩,by decide⟩
set_option maxRecDepth 100000 in
theorem um:fG Tryz.prog 132 6 64:=⟨⟨_,_,rfl,rfl,rfl,rfl,rfl⟩,by decide⟩
set_option maxRecDepth 100000 in
theorem IE:fG Tryz.prog 138 7 72:=⟨⟨_,_,rfl,rfl,rfl,rfl,rfl⟩,by decide⟩
set_option maxRecDepth 100000 in
theorem CA:fG Tryz.prog 153 256 2048:=⟨⟨_,_,rfl,rfl,rfl,rfl,rfl⟩,by decide⟩
set_option maxRecDepth 100000 in
theorem Cz:fG Tryz.prog 188 3 32:=⟨⟨_,_,rfl,rfl,rfl,rfl,rfl⟩,by decide⟩
set_option maxRecDepth 100000 in
theorem kZ:fG Tryz.prog 25 3 48:=⟨⟨_,_,rfl,rfl,rfl,rfl,rfl⟩,by decide⟩
set_option maxRecDepth 100000 in
theorem pP:fG Tryz.prog 3 1 8:=⟨⟨_,_,rfl,rfl,rfl,rfl,rfl⟩,by decide⟩
set_option maxRecDepth 100000 in
theorem Nk:fG Tryz.prog 4 1 1:=⟨⟨_,_,rfl,rfl,rfl,rfl,rfl⟩,by decide⟩
set_option maxRecDepth 100000 in
theorem Lg:fG Tryz.prog 46 3 24:=⟨⟨_,_,rfl,rfl,rfl,rfl,rfl⟩,by decide⟩
set_option maxRecDepth 100000 in
theorem M5:fG Tryz.prog 5 1 1:=⟨⟨_,_,rfl,rfl,rfl,rfl,rfl⟩,by decide⟩
set_option maxRecDepth 100000 in
theorem BI:fG Tryz.prog 54 9 136:=⟨⟨_,_,rfl,rfl,rfl,rfl,rfl⟩,by decide⟩
set_option maxRecDepth 100000 in
theorem Lf:fG Tryz.prog 89 1 8:=⟨⟨_,_,rfl,rfl,rfl,rfl,rfl⟩,by decide⟩
set_option maxRecDepth 100000 in
theorem rO:fG Tryz.prog 9 1 16:=⟨⟨_,_,rfl,rfl,rfl,rfl,rfl⟩,by decide⟩
theorem mixed:Tryz.prog.follows .mixedOrders=true:=by kernel_rfl
theorem K5:(Tryz.f10.name == "runtime.NumGoroutine")=false:=by decide +kernel
theorem K4:(Tryz.f100.name == "runtime.NumGoroutine")=false:=by decide +kernel
theorem K3:(Tryz.f101.name == "runtime.NumGoroutine")=false:=by decide +kernel
theorem K2:(Tryz.f102.name == "runtime.NumGoroutine")=false:=by decide +kernel
theorem K1:(Tryz.f103.name == "runtime.NumGoroutine")=false:=by decide +kernel
theorem K0:(Tryz.f107.name == "runtime.NumGoroutine")=false:=by decide +kernel
theorem KZ:(Tryz.f108.name == "runtime.NumGoroutine")=false:=by decide +kernel
theorem Fg:(Tryz.f109.name == "runtime.NumGoroutine")=false:=by decide +kernel
theorem KY:(Tryz.f110.name == "runtime.NumGoroutine")=false:=by decide +kernel
theorem KX:(Tryz.f111.name == "runtime.NumGoroutine")=false:=by decide +kernel
theorem Iw:(Tryz.f112.name == "runtime.NumGoroutine")=false:=by decide +kernel
theorem Iv:(Tryz.f113.name == "runtime.NumGoroutine")=false:=by decide +kernel
theorem KW:(Tryz.f116.name == "runtime.NumGoroutine")=false:=by decide +kernel
theorem Iu:(Tryz.f117.name == "runtime.NumGoroutine")=false:=by decide +kernel
theorem zT:(Tryz.f118.name == "runtime.NumGoroutine")=false:=by decide +kernel
theorem KV:(Tryz.f119.name == "runtime.NumGoroutine")=false:=by decide +kernel
theorem Is:(Tryz.f120.name == "runtime.NumGoroutine")=false:=by decide +kernel
theorem KU:(Tryz.f121.name == "runtime.NumGoroutine")=false:=by decide +kernel
theorem KT:(Tryz.f125.name == "runtime.NumGoroutine")=false:=by decide +kernel
theorem Ir:(Tryz.f127.name == "runtime.NumGoroutine")=false:=by decide +kernel
theorem vU:(Tryz.f128.name == "runtime.NumGoroutine")=false:=by decide +kernel
theorem Iq:(Tryz.f129.name == "runtime.NumGoroutine")=false:=by decide +kernel
theorem KS:(Tryz.f13.name == "runtime.NumGoroutine")=false:=by decide +kernel
theorem Ip:(Tryz.f130.name == "runtime.NumGoroutine")=false:=by decide +kernel
theorem KR:(Tryz.f131.name == "runtime.NumGoroutine")=false:=by decide +kernel
theorem KQ:(Tryz.f132.name == "runtime.NumGoroutine")=false:=by decide +kernel
theorem Io:(Tryz.f137.name == "runtime.NumGoroutine")=false:=by decide +kernel
theorem Cr:(Tryz.f138.name == "runtime.NumGoroutine")=false:=by decide +kernel
theorem Im:(Tryz.f139.name == "runtime.NumGoroutine")=false:=by decide +kernel
theorem Il:(Tryz.f141.name == "runtime.NumGoroutine")=false:=by decide +kernel
theorem Cq:(Tryz.f144.name == "runtime.NumGoroutine")=false:=by decide +kernel
theorem KP:(Tryz.f145.name == "runtime.NumGoroutine")=false:=by decide +kernel
theorem KO:(Tryz.f146.name == "runtime.NumGoroutine")=false:=by decide +kernel
theorem KN:(Tryz.f147.name == "runtime.NumGoroutine")=false:=by decide +kernel
theorem KM:(Tryz.f15.name == "runtime.NumGoroutine")=false:=by decide +kernel
theorem KL:(Tryz.f156.name == "runtime.NumGoroutine")=false:=by decide +kernel
theorem M0:(Tryz.f16.name == "runtime.NumGoroutine")=false:=by decide +kernel
theorem KK:(Tryz.f160.name == "runtime.NumGoroutine")=false:=by decide +kernel
theorem Ff:(Tryz.f161.name == "runtime.NumGoroutine")=false:=by decide +kernel
theorem Fe:(Tryz.f162.name == "runtime.NumGoroutine")=false:=by decide +kernel
theorem sX:(Tryz.f163.name == "runtime.NumGoroutine")=false:=by decide +kernel
theorem KJ:(Tryz.f169.name == "runtime.NumGoroutine")=false:=by decide +kernel
theorem KI:(Tryz.f17.name == "runtime.NumGoroutine")=false:=by decide +kernel
theorem KH:(Tryz.f172.name == "runtime.NumGoroutine")=false:=by decide +kernel
theorem Ik:(Tryz.f179.name == "runtime.NumGoroutine")=false:=by decide +kernel
theorem zS:(Tryz.f181.name == "runtime.NumGoroutine")=false:=by decide +kernel
theorem KG:(Tryz.f184.name == "runtime.NumGoroutine")=false:=by decide +kernel
theorem Ij:(Tryz.f185.name == "runtime.NumGoroutine")=false:=by decide +kernel
theorem sW:(Tryz.f186.name == "runtime.NumGoroutine")=false:=by decide +kernel
theorem KF:(Tryz.f188.name == "runtime.NumGoroutine")=false:=by decide +kernel
theorem KE:(Tryz.f189.name == "runtime.NumGoroutine")=false:=by decide +kernel
theorem KD:(Tryz.f196.name == "runtime.NumGoroutine")=false:=by decide +kernel
theorem Ii:(Tryz.f197.name == "runtime.NumGoroutine")=false:=by decide +kernel
theorem KC:(Tryz.f198.name == "runtime.NumGoroutine")=false:=by decide +kernel
theorem vT:(Tryz.f199.name == "runtime.NumGoroutine")=false:=by decide +kernel
theorem Ih:(Tryz.f200.name == "runtime.NumGoroutine")=false:=by decide +kernel
theorem KB:(Tryz.f201.name == "runtime.NumGoroutine")=false:=by decide +kernel
theorem Ig:(Tryz.f205.name == "runtime.NumGoroutine")=false:=by decide +kernel
theorem Ie:(Tryz.f206.name == "runtime.NumGoroutine")=false:=by decide +kernel
theorem Ic:(Tryz.f207.name == "runtime.NumGoroutine")=false:=by decide +kernel
theorem Fc:(Tryz.f208.name == "runtime.NumGoroutine")=false:=by decide +kernel
theorem Ib:(Tryz.f210.name == "runtime.NumGoroutine")=false:=by decide +kernel
theorem Fb:(Tryz.f212.name == "runtime.NumGoroutine")=false:=by decide +kernel
theorem KA:(Tryz.f213.name == "runtime.NumGoroutine")=false:=by decide +kernel
theorem Kz:(Tryz.f214.name == "runtime.NumGoroutine")=false:=by decide +kernel
theorem Ky:(Tryz.f23.name == "runtime.NumGoroutine")=false:=by decide +kernel
theorem GU:(Tryz.f25.name == "runtime.NumGoroutine")=false:=by decide +kernel
theorem MZ:(Tryz.f27.name == "runtime.NumGoroutine")=false:=by decide +kernel
theorem MY:(Tryz.f28.name == "runtime.NumGoroutine")=false:=by decide +kernel
theorem MX:(Tryz.f29.name == "runtime.NumGoroutine")=false:=by decide +kernel
theorem MW:(Tryz.f30.name == "runtime.NumGoroutine")=false:=by decide +kernel
theorem Jo:(Tryz.f32.name == "runtime.NumGoroutine")=false:=by decide +kernel
theorem Kx:(Tryz.f34.name == "runtime.NumGoroutine")=false:=by decide +kernel
theorem Fa:(Tryz.f35.name == "runtime.NumGoroutine")=false:=by decide +kernel
theorem n7:(Tryz.f36.name == "runtime.NumGoroutine")=false:=by decide +kernel
theorem Kw:(Tryz.f41.name == "runtime.NumGoroutine")=false:=by decide +kernel
theorem Kv:(Tryz.f42.name == "runtime.NumGoroutine")=false:=by decide +kernel
theorem iZ:(Tryz.f43.name == "runtime.NumGoroutine")=false:=by decide +kernel
theorem vq:(Tryz.f44.name == "runtime.NumGoroutine")=false:=by decide +kernel
theorem MV:(Tryz.f45.name == "runtime.NumGoroutine")=false:=by decide +kernel
theorem MU:(Tryz.f46.name == "runtime.NumGoroutine")=false:=by decide +kernel
theorem MT:(Tryz.f47.name == "runtime.NumGoroutine")=false:=by decide +kernel
theorem Dn:(Tryz.f48.name == "runtime.NumGoroutine")=false:=by decide +kernel
theorem Bo:(Tryz.f49.name == "runtime.NumGoroutine")=false:=by decide +kernel
theorem MS:(Tryz.f50.name == "runtime.NumGoroutine")=false:=by decide +kernel
theorem MR:(Tryz.f51.name == "runtime.NumGoroutine")=false:=by decide +kernel
theorem GS:(Tryz.f52.name == "runtime.NumGoroutine")=false:=by decide +kernel
theorem MQ:(Tryz.f53.name == "runtime.NumGoroutine")=false:=by decide +kernel
theorem MP:(Tryz.f54.name == "runtime.NumGoroutine")=false:=by decide +kernel
theorem Ku:(Tryz.f55.name == "runtime.NumGoroutine")=false:=by decide +kernel
theorem MO:(Tryz.f56.name == "runtime.NumGoroutine")=false:=by decide +kernel
theorem MN:(Tryz.f57.name == "runtime.NumGoroutine")=false:=by decide +kernel
theorem MM:(Tryz.f61.name == "runtime.NumGoroutine")=false:=by decide +kernel
theorem ML:(Tryz.f62.name == "runtime.NumGoroutine")=false:=by decide +kernel
theorem Kt:(Tryz.f63.name == "runtime.NumGoroutine")=false:=by decide +kernel
theorem MK:(Tryz.f64.name == "runtime.NumGoroutine")=false:=by decide +kernel
theorem MJ:(Tryz.f65.name == "runtime.NumGoroutine")=false:=by decide +kernel
theorem MI:(Tryz.f66.name == "runtime.NumGoroutine")=false:=by decide +kernel
theorem Ks:(Tryz.f67.name == "runtime.NumGoroutine")=false:=by decide +kernel
theorem Kr:(Tryz.f68.name == "runtime.NumGoroutine")=false:=by decide +kernel
theorem MH:(Tryz.f69.name == "runtime.NumGoroutine")=false:=by decide +kernel
theorem vp:(Tryz.f70.name == "runtime.NumGoroutine")=false:=by decide +kernel
theorem MG:(Tryz.f71.name == "runtime.NumGoroutine")=false:=by decide +kernel
theorem Jn:(Tryz.f72.name == "runtime.NumGoroutine")=false:=by decide +kernel
theorem MF:(Tryz.f73.name == "runtime.NumGoroutine")=false:=by decide +kernel
theorem ME:(Tryz.f74.name == "runtime.NumGoroutine")=false:=by decide +kernel
theorem MD:(Tryz.f75.name == "runtime.NumGoroutine")=false:=by decide +kernel
theorem MC:(Tryz.f76.name == "runtime.NumGoroutine")=false:=by decide +kernel
theorem MB:(Tryz.f77.name == "runtime.NumGoroutine")=false:=by decide +kernel
theorem MA:(Tryz.f78.name == "runtime.NumGoroutine")=false:=by decide +kernel
theorem Mz:(Tryz.f86.name == "runtime.NumGoroutine")=false:=by decide +kernel
theorem My:(Tryz.f87.name == "runtime.NumGoroutine")=false:=by decide +kernel
theorem Kq:(Tryz.f88.name == "runtime.NumGoroutine")=false:=by decide +kernel
theorem Bn:(Tryz.f89.name == "runtime.NumGoroutine")=false:=by decide +kernel
theorem Jm:(Tryz.f90.name == "runtime.NumGoroutine")=false:=by decide +kernel
theorem Kp:(Tryz.f94.name == "runtime.NumGoroutine")=false:=by decide +kernel
theorem Mx:(Tryz.f95.name == "runtime.NumGoroutine")=false:=by decide +kernel
theorem Jl:(Tryz.f97.name == "runtime.NumGoroutine")=false:=by decide +kernel
theorem Ko:(Tryz.f98.name == "runtime.NumGoroutine")=false:=by decide +kernel
theorem Mw:(Tryz.f99.name == "runtime.NumGoroutine")=false:=by decide +kernel
theorem iA:dc Tryz.prog 111=some 1:=by kernel_rfl
theorem gy:dc Tryz.prog 124=some 1:=by kernel_rfl
theorem gK:dc Tryz.prog 127=some 1:=by kernel_rfl
theorem sB:dc Tryz.prog 128=some 1:=by kernel_rfl
theorem lG:dc Tryz.prog 129=some 4:=by kernel_rfl
theorem zm:dc Tryz.prog 130=some 1:=by kernel_rfl
theorem cv:dc Tryz.prog 132=some 6:=by kernel_rfl
theorem lF:dc Tryz.prog 138=some 7:=by kernel_rfl
theorem EC:dc Tryz.prog 142=some 1:=by kernel_rfl
theorem j8:dc Tryz.prog 144=some 3:=by kernel_rfl
theorem jZ:dc Tryz.prog 147=some 1:=by kernel_rfl
theorem jY:dc Tryz.prog 153=some 256:=by kernel_rfl
theorem jX:dc Tryz.prog 188=some 3:=by kernel_rfl
theorem Cb:dc Tryz.prog 2=some 1:=by kernel_rfl
theorem zl:dc Tryz.prog 203=some 1:=by kernel_rfl
theorem HZ:dc Tryz.prog 214=some 2:=by kernel_rfl
theorem J6:dc Tryz.prog 215=some 12:=by kernel_rfl
theorem eX:dc Tryz.prog 23=some 1:=by kernel_rfl
theorem aY:dc Tryz.prog 25=some 3:=by kernel_rfl
theorem Ca:dc Tryz.prog 287=some 256:=by kernel_rfl
theorem bV:dc Tryz.prog 3=some 1:=by kernel_rfl
theorem EB:dc Tryz.prog 31=some 1:=by kernel_rfl
theorem zj:dc Tryz.prog 38=some 1:=by kernel_rfl
theorem lN:dc Tryz.prog 4=some 1:=by kernel_rfl
theorem eu:dc Tryz.prog 41=some 2:=by kernel_rfl
theorem kN:dc Tryz.prog 46=some 3:=by kernel_rfl
theorem Ng:dc Tryz.prog 5=some 1:=by kernel_rfl
theorem Mn:dc Tryz.prog 50=some 1:=by kernel_rfl
theorem aW:dc Tryz.prog 52=some 8:=by kernel_rfl
theorem I9:dc Tryz.prog 54=some 9:=by kernel_rfl
theorem Mm:dc Tryz.prog 76=some 6:=by kernel_rfl
theorem CZ:dc Tryz.prog 81=some 1:=by kernel_rfl
theorem Ml:dc Tryz.prog 87=some 1:=by kernel_rfl
theorem Mk:dc Tryz.prog 89=some 1:=by kernel_rfl
theorem eG:dc Tryz.prog 9=some 1:=by kernel_rfl
theorem jU:(Tryz.prog.info? 132).bind (·.zero)=some (.agg #[.int .i64 (0),.int .u64 (0),.int .u64 (0),.int .u64 (0),.int .u64 (0),.slice none 0 0]):=by kernel_rfl
theorem yN:(Tryz.prog.info? 144).bind (·.zero)=some (.agg #[.string ⟨#[]⟩,.int .i64 (0),.int .i64 (0)]):=by kernel_rfl
theorem B6:(Tryz.prog.info? 153).bind (·.zero)=some (.agg (Array.replicate 256 (.int .i64 (0)))):=by kernel_rfl
theorem JU:(Tryz.prog.info? 188).bind (·.zero)=some (.agg #[.int .i64 (0),.string ⟨#[]⟩,.int .i64 (0)]):=by kernel_rfl
theorem JT:(Tryz.prog.info? 205).bind (·.zero)=some (.agg #[.pointer none,.slice none 0 0]):=by kernel_rfl
theorem JS:(Tryz.prog.info? 214).bind (·.zero)=some (.agg #[.int .u8 (0),.int .u8 (0)]):=by kernel_rfl
theorem fL:(Tryz.prog.info? 25).bind (·.zero)=some (.agg #[.int .i64 (0),.string ⟨#[]⟩,.slice none 0 0]):=by kernel_rfl
theorem HW:(Tryz.prog.info? 287).bind (·.zero)=some (.agg (Array.replicate 256 (.bool false))):=by kernel_rfl
theorem Nc:(Tryz.prog.info? 3).bind (·.zero)=some (.int .i64 (0)):=by kernel_rfl
theorem JR:(Tryz.prog.info? 31).bind (·.zero)=some (.int .i64 (0)):=by kernel_rfl
theorem Nb:(Tryz.prog.info? 4).bind (·.zero)=some (.bool false):=by kernel_rfl
theorem yM:(Tryz.prog.info? 41).bind (·.zero)=some (.agg #[.int .i64 (0),.int .i64 (0)]):=by kernel_rfl
theorem Ec:(Tryz.prog.info? 46).bind (·.zero)=some (.agg #[.int .i64 (0),.int .i64 (0),.int .i64 (0)]):=by kernel_rfl
theorem gw:(Tryz.prog.info? 52).bind (·.zero)=some (.agg #[.int .i64 (0),.int .i64 (0),.string ⟨#[]⟩,.string ⟨#[]⟩,.int .i64 (0),.string ⟨#[]⟩,.slice none 0 0,.slice none 0 0]):=by kernel_rfl
theorem Mc:(Tryz.prog.info? 54).bind (·.zero)=some (.agg #[.string ⟨#[]⟩,.int .i64 (0),.int .i64 (0),.string ⟨#[]⟩,.string ⟨#[]⟩,.int .i64 (0),.string ⟨#[]⟩,.slice none 0 0,.slice none 0 0]):=by kernel_rfl
theorem Mb:(Tryz.prog.info? 76).bind (·.zero)=some (.agg #[.string ⟨#[]⟩,.string ⟨#[]⟩,.string ⟨#[]⟩,.string ⟨#[]⟩,.string ⟨#[]⟩,.string ⟨#[]⟩]):=by kernel_rfl
theorem Ma:(Tryz.prog.info? 87).bind (·.zero)=some (.slice none 0 0):=by kernel_rfl
end Go.Proofs.YtmehdcdbeafljaaGreatDoor.H
namespace Go.Proofs.YtmehdcdbeafljaaGreatDoor
open Go.Proofs.Tryz
open Go Go.Lw
set_option maxRecDepth 20000
section
variable {rb n m d lim:Nat}{h h':aA}{c a:UInt8}{l r:By}{x:Nd}{M:Nat->Prop}
def sS:Value:=.iface 193 (.agg #[])
def B3 (c:List PanicEntry):Prop:=c=[{ v:=sS,recovered:=false }]
def St (h:aA) (rb:Nat) (l:By):Prop:=bh h rb 196 [.string (bs l)]
abbrev yK (rb:Nat):Value:=.pointer (some ⟨rb,0,none⟩)
abbrev only (rb:Nat):Nat->Prop:=fun b=>b=rb
def PR {α:Type}(rb:Nat) (h:aA) (p:Option (α×By)) (Φ:α->Value->aA->Prop):Ending->aA->Prop :=
 D5 (fun v h'=>∃x r,p=some (x,r)/\Φ x v h'/\St h' rb r/\Ext (only rb) h h') (fun ch h'=>B3 ch/\p=none/\Ext (only rb) h h')
theorem dY {α:Type}{p:Option (α×By)}{Φ:α->Value->aA->Prop}{c:List PanicEntry}(hc:B3 c) (hp:p=none) (hx:Ext (only rb) h h'):PR rb h p Φ (.panicked c) h':=⟨hc,hp,hx⟩
theorem HG {Φ:Value->aA->Prop}{X:List PanicEntry->aA->Prop}{c:List PanicEntry}(k:X c h):D5 Φ X (.panicked c) h:=k
theorem St.cell {h:aA}{rb:Nat}{l:By}(k:St h rb l):cellAt h ⟨rb,0,none⟩=some (.string (bs l)):=bh.cell k (i:=0) rfl
theorem St.lt {h:aA}{rb:Nat}{l:By}(k:St h rb l):rb<h.size:=bh.lt k
def Es:By->Option (UInt8×By)| []=>none|c::r=>some (c,r)
theorem iT (h:Es l=none):l=[]:=by cases l with|nil=>rfl|cons c r=>cases h
theorem fV (h:Es l=some (c,r)):l=c::r:=by cases l with|nil=>cases h|cons d t=>cases h;rfl
theorem sY (hs:St h rb l):ah Tryz.prog 185 #[yK rb] h (cM fun r h'=>r= .int .u8 ((l.head?.getD 0).toNat:Nat)/\h'=h):=by
 refine ah.of func185 rfl rfl ?_;refine bf func185 1 [0,2] rfl ?_;refine av rfl ?_;refine bl func185 2 rfl ?_;refine xp rfl (af (off:=0) underlying196 rfl rfl H.eG rfl) ?_;refine xp rfl (ai H.fu rfl hs.cell) ?_;refine xp rfl (aj.bS rfl rfl) ?_;refine xd [0,2,7] rfl ?_;refine aM rfl rfl (fun he=>?_) (fun he=>?_)
 · have hl:l=[]:=bZ he;subst hl;refine bf func185 1 [0,2,7] rfl ?_;refine G.ret func185 rfl rfl ?_;exact⟨_,rfl,rfl,rfl⟩
 · obtain⟨c,r,rfl⟩:=List.exists_cons_of_ne_nil (fun(e:l=[])=>he (by rw[e];rfl));refine aB rfl ?_;refine bl func185 2 rfl ?_;refine xp rfl (af (off:=0) underlying196 rfl rfl H.eG rfl) ?_;refine xp rfl (ai H.fu rfl hs.cell) ?_;refine xp rfl (aj.dy underlying9 rfl rfl 0 rfl (iD rfl)) ?_;refine aN 1 [0,2,7] rfl ?_;refine G.ret func185 rfl rfl ?_;exact⟨_,rfl,rfl,rfl⟩
theorem fU (hs:St h rb l) (hl:l.length<=1000000):ah Tryz.prog 186 #[yK rb] h (PR rb h (Es l) fun c v _=>v= .int .u8 (c.toNat:Nat)):=by
 refine ah.of func186 rfl rfl ?_;refine bf func186 1 [0,2] rfl ?_;refine av rfl ?_;refine bl func186 2 rfl ?_;refine xp rfl (af (off:=0) underlying196 rfl rfl H.eG rfl) ?_;refine xp rfl (ai H.fu rfl hs.cell) ?_;refine xp rfl (aj.bS rfl rfl) ?_;refine xd [0,2,8] rfl ?_;refine aM rfl rfl (fun he=>?_) (fun he=>?_)
 · have hl:l=[]:=bZ he;subst hl;refine G.cz func186 rfl ?_;refine xp rfl (aG (H.gU ) rfl) ?_;refine xp rfl (bH H.kC rfl) ?_;refine RW.bB rfl rfl rfl (dI (Φ:=fun _ _=>False) rfl (dY rfl rfl (Ext.refl _ _))) ?_;rintro _ _ hpn;exact hpn.elim
 · obtain⟨c,r,rfl⟩:=List.exists_cons_of_ne_nil (fun(e:l=[])=>he (by rw[e];rfl));have hz:(bs (c::r)).size=r.length+1:=by rw[bY];rfl
   have hd:=nh (c::r) 1;simp only[List.length_cons] at hl;refine aB rfl ?_;refine bl func186 2 rfl ?_;refine xp rfl (af (off:=0) underlying196 rfl rfl H.eG rfl) ?_;refine xp rfl (ai H.fu rfl hs.cell) ?_;refine xp rfl (aj.dy underlying9 rfl rfl 0 rfl (iD rfl)) ?_;refine aN 1 [0,2,3,8] rfl ?_;refine bl func186 3 rfl ?_;refine xp rfl (af (off:=0) underlying196 rfl rfl H.eG rfl) ?_;refine xp rfl (ai H.fu rfl hs.cell) ?_;refine xp rfl (aj.gP underlying9 rfl rfl 1 rfl (by omega)) ?_;refine cI 1 rfl rfl (af (off:=0) underlying196 rfl rfl H.eG rfl) ?_;refine RW.bB rfl rfl rfl (az.bA H.eG rfl rfl hs (by first|decide|exact of_decide_eq_true rfl|(simp;done)|(simp;omega)) rfl) ?_;rintro _ h1 ⟨rfl,hk,hx,hz1⟩;refine xd [0,2,3,8] rfl ?_;refine bf func186 2 [0,2,3,8] rfl ?_;refine G.ret func186 rfl rfl ?_;exact⟨c,r,rfl,rfl,by rw[hd] at hk;exact hk,hx⟩
theorem kO (c:UInt8) (hs:St h rb l) (hl:l.length<=1000000):ah Tryz.prog 138 #[yK rb,.int .u8 (c.toNat:Nat)] h (cM fun v h' =>
 ((l.head? =some c/\v= .bool true/\St h' rb l.tail)\/(l.head? ≠some c/\v= .bool false/\St h' rb l))/\Ext (only rb) h h'):=by
 refine ah.of func138 rfl rfl ?_;refine bf func138 1 [0,1,4] rfl ?_;refine av rfl ?_;refine av rfl ?_;refine G.bw [(18,.bool (decide (l.head? ≠some c)))] [(0,_),(1,_),(4,_)] ⟨rfl,rfl,rfl,trivial⟩ func138 rfl ?_ ?_
 · refine cI 2 rfl rfl (af (off:=0) underlying196 rfl rfl H.eG rfl) ?_;refine xp rfl (ai H.fu rfl hs.cell) ?_;refine xp rfl (aj.bS rfl rfl) ?_;refine aV 1 rfl ?_;refine aL (d:=10) rfl (fun he=>?_) (fun he=>?_)
   · have hl:l=[]:=bZ (of_decide_eq_true he);refine aV 8 rfl ?_;refine aD rfl ?_;exact⟨rfl,aF rfl (by subst hl;simp),rfl,rfl,rfl,trivial⟩
   · obtain⟨d,r,rfl⟩:=List.exists_cons_of_ne_nil (fun(e:l=[])=>(of_decide_eq_false he) (by rw[e];rfl));refine cI 2 rfl rfl (af (off:=0) underlying196 rfl rfl H.eG rfl) ?_;refine xp rfl (ai H.fu rfl hs.cell) ?_;refine xp rfl (aj.dy underlying9 rfl rfl 0 rfl (iD rfl)) ?_;refine aV 3 rfl ?_;refine aD rfl ?_;exact⟨rfl,aF rfl (by simp only[List.head?_cons,Option.some.injEq,ne_eq];exact J2 d c),rfl,rfl,rfl,trivial⟩
 · refine aM rfl rfl (fun hn=>?_) (fun hn=>?_)
   · refine bf func138 1 [0,1,4,18] rfl ?_;refine G.ret func138 rfl rfl ?_;exact⟨_,rfl,.inr ⟨hn,rfl,hs⟩,Ext.refl _ _⟩
   · have hn:=Classical.not_not.1 hn;obtain⟨d,r,rfl⟩:=List.exists_cons_of_ne_nil (fun(e:l=[])=>by rw[e] at hn;cases hn);have hz:(bs (d::r)).size=r.length+1:=by rw[bY];rfl
     have hd:=nh (d::r) 1;simp only[List.length_cons] at hl;refine aB rfl ?_;refine bl func138 3 rfl ?_;refine xp rfl (af (off:=0) underlying196 rfl rfl H.eG rfl) ?_;refine xp rfl (ai H.fu rfl hs.cell) ?_;refine xp rfl (aj.gP underlying9 rfl rfl 1 rfl (by omega)) ?_;refine cI 1 rfl rfl (af (off:=0) underlying196 rfl rfl H.eG rfl) ?_;refine RW.bB rfl rfl rfl (az.bA H.eG rfl rfl hs (by first|decide|exact of_decide_eq_true rfl|(simp;done)|(simp;omega)) rfl) ?_;rintro _ h1 ⟨rfl,hk,hx,hz1⟩;refine xd [0,1,4,18] rfl ?_;refine bf func138 1 [0,1,4,18] rfl ?_;refine G.ret func138 rfl rfl ?_;exact⟨_,rfl,.inl ⟨hn,rfl,by rw[hd] at hk;exact hk⟩,hx⟩
theorem sZ (c:UInt8) (hs:St h rb l) (hl:l.length<=1000000):ah Tryz.prog 197 #[yK rb,.int .u8 (c.toNat:Nat)] h (PR rb h (if l.head? =some c then some ((),l.tail) else none) fun _ _ _=>True):=by
 refine ah.of func197 rfl rfl ?_;refine bl func197 2 rfl ?_;refine xo rfl (aq (vs:=[_,_]) func138 rfl H.Cr rfl (ah.bq (kO c hs hl))) ?_;rintro _ h1 ⟨hor,hx⟩
 rcases hor with ⟨h1,rfl,h2⟩|⟨h1,rfl,h2⟩
 · refine aN 1 [0,1,7] rfl ?_;refine aJ rfl rfl (fun hc=>absurd hc (by decide)) (fun _=>?_);refine aB rfl ?_;refine G.xV func197 rfl ?_;exact⟨(),_,if_pos h1,trivial,h2,hx⟩
 · refine aN 1 [0,1,7] rfl ?_;refine aJ rfl rfl (fun _=>?_) (fun hc=>absurd hc (by decide));refine G.cz func197 rfl ?_;refine xp rfl (aG (H.gU ) rfl) ?_;refine xp rfl (bH H.kC rfl) ?_;refine RW.bB rfl rfl rfl (dI (Φ:=fun _ _=>False) rfl (dY rfl (if_neg h1) hx)) ?_;rintro _ _ hpn;exact hpn.elim
theorem lR (x:UInt8):ah Tryz.prog 208 #[.string ⟨#[40,41,91,93,124,42,43,63,46,92,45,94]⟩,.int .u8 (x.toNat:Nat)] h (cM fun r h'=>r= .int .i64 (Lib.indexByte fO x)/\h'=h) :=
 (lI _ _).ret fun _ _ ⟨ho,he⟩=>⟨by rw[ho];simp[fO],he⟩
theorem jA:∀x:UInt8,(0<=Lib.indexByte fO x)↔x∈fO:=by
 have h:∀n:Fin 256,(0<=Lib.indexByte fO (UInt8.ofNat n.val))↔(UInt8.ofNat n.val)∈fO:=by decide +kernel
 intro x;have:=h ⟨x.toNat,x.toNat_lt⟩;simpa using this
def yf:By:=[48,49,50,51,52,53,54,55,56,57,97,98,99,100,101,102]
theorem ye (x:UInt8):ah Tryz.prog 208 #[.string ⟨#[48,49,50,51,52,53,54,55,56,57,97,98,99,100,101,102]⟩,.int .u8 (x.toNat:Nat)] h (cM fun r h'=>r= .int .i64 (Lib.indexByte yf x)/\h'=h) :=
 (lI _ _).ret fun _ _ ⟨ho,he⟩=>⟨by rw[ho];simp[yf],he⟩
theorem GX:∀n:Fin 256,IntKind.u8.wrap ((BitVec.ofInt IntKind.u8.bits (n.val:Int) |||BitVec.ofInt IntKind.u8.bits 32).toNat)=(((UInt8.ofNat n.val) ||| 32).toNat:Nat):=by decide +kernel
theorem low (x:UInt8):IntKind.u8.wrap ((BitVec.ofInt IntKind.u8.bits (x.toNat:Int) |||BitVec.ofInt IntKind.u8.bits 32).toNat)=((x ||| 32).toNat:Nat):=by
 have:=GX ⟨x.toNat,x.toNat_lt⟩;simpa using this
theorem Hs:∀n:Fin 256,kV (UInt8.ofNat n.val)=if Lib.indexByte yf ((UInt8.ofNat n.val) ||| 32)<0\/n.val<48 then none else some (Lib.indexByte yf ((UInt8.ofNat n.val) ||| 32)).toNat:=by decide +kernel
theorem NQ (x:UInt8):kV x=if Lib.indexByte yf (x ||| 32)<0\/x.toNat<48 then none else some (Lib.indexByte yf (x ||| 32)).toNat:=by
 have:=Hs ⟨x.toNat,x.toNat_lt⟩;simpa using this
theorem DG {x:UInt8}(h:kV x=some n):n<16:=by
 unfold kV at h;split at h
 · cases h;omega
 · split at h
   · cases h;omega
   · split at h
     · cases h;omega
     · cases h
theorem rD (x:UInt8):ah Tryz.prog 207 #[.int .u8 (x.toNat:Nat)] h (D5 (fun v h'=>∃n:Nat,kV x=some n/\n<16/\v= .int .u8 n/\h'=h) (fun ch h'=>B3 ch/\kV x=none/\h'=h)):=by
 have hd:=NQ x;refine ah.of func207 rfl rfl ?_;refine bf func207 1 [0,2] rfl ?_;refine bl func207 1 rfl ?_;refine xp rfl (aj.yu rfl rfl) ?_;refine xo rfl (aq (vs:=[_,_]) func208 rfl H.Fc rfl (ah.bq ((low x▸ye (x ||| 32))))) ?_;rintro _ _ ⟨rfl,rfl⟩;refine aN 1 [0,2,3] rfl ?_;refine av rfl ?_;refine av rfl ?_;refine G.bw [(12,.bool (decide (Lib.indexByte yf (x ||| 32)<0\/x.toNat<48)))] [(0,_),(2,_),(3,_)] ⟨rfl,rfl,rfl,trivial⟩ func207 rfl ?_ ?_
 · refine aV 3 rfl ?_;refine aL (d:=9) rfl (fun hg=>?_) (fun hg=>?_)
   · refine aV 3 rfl ?_;refine aD rfl ?_;exact⟨rfl,aF rfl (by have:=of_decide_eq_true hg;simp[this]),rfl,rfl,rfl,trivial⟩
   · refine aV 3 rfl ?_;refine aD rfl ?_;exact⟨rfl,aF rfl (by have:=of_decide_eq_false hg;simp only[decide_eq_decide];omega),rfl,rfl,rfl,trivial⟩
 · refine aM rfl rfl (fun hn=>?_) (fun hn=>?_)
   · rw[if_pos hn] at hd;refine G.cz func207 rfl ?_;refine xp rfl (aG (H.gU ) rfl) ?_;refine xp rfl (bH H.kC rfl) ?_;refine RW.bB rfl rfl rfl (dI (Φ:=fun _ _=>False) rfl (HG ⟨rfl,hd,rfl⟩)) ?_;rintro _ _ hpn;exact hpn.elim
   · rw[if_neg hn] at hd;have h16:=DG hd;refine aB rfl ?_;refine bl func207 1 rfl ?_;refine xp rfl (aj.CD underlying3 underlying5 rfl) ?_;refine aN 1 [0,2,3,12] rfl ?_;refine G.ret func207 rfl rfl ?_;refine⟨_,hd,h16,?_,rfl⟩
     show Value.int .u8 _=_
     congr 1
     have:IntKind.u8.wrap (Lib.indexByte yf (x ||| 32))=Lib.indexByte yf (x ||| 32):=wrap_u8 (by omega);rw[this];omega
theorem FF:∀m n:Fin 16,IntKind.u8.wrap ((BitVec.ofInt IntKind.u8.bits (IntKind.u8.wrap ((m.val:Int)*2 ^ min (4:Int).toNat IntKind.u8.bits)) |||BitVec.ofInt IntKind.u8.bits (n.val:Int)).toNat)=((UInt8.ofNat (m.val*16+n.val)).toNat:Nat):=by decide +kernel
theorem M4 (hm:m<16) (hn:n<16):IntKind.u8.wrap ((BitVec.ofInt IntKind.u8.bits (IntKind.u8.wrap ((m:Int)*2 ^ min (4:Int).toNat IntKind.u8.bits)) |||BitVec.ofInt IntKind.u8.bits (n:Int)).toNat)=((UInt8.ofNat (m*16+n)).toNat:Nat):=FF ⟨m,hm⟩ ⟨n,hn⟩
theorem Js {x:UInt8}(t:By) (h:kV x=none):pN (120::x::t)=none:=by
 unfold pN;cases t with
 |nil=>rfl
 |cons y t=>simp[h]
theorem nN (hs:St h rb l) (hl:l.length<=1000000):ah Tryz.prog 200 #[yK rb] h (PR rb h (pN l) fun c v _=>v= .int .u8 (c.toNat:Nat)):=by
 refine ah.of func200 rfl rfl ?_;refine bf func200 1 [0,2] rfl ?_;refine av rfl ?_;refine bl func200 1 rfl ?_;refine xo rfl (aq (vs:=[_]) func186 rfl H.sW rfl (ah.jv (fU hs hl) ((fun _ _ ⟨hc,hp,hx⟩=>dY hc (by rw[iT hp];rfl) hx)))) ?_;rintro _ h1 ⟨c,r,hp,rfl,hs1,hx1⟩;refine aN 1 [0,2,3] rfl ?_;refine G.block rfl rfl ?_;refine bf func200 3 [0,2,3,7] rfl ?_;obtain rfl:=fV hp;simp only[List.length_cons] at hl;refine aM rfl rfl (fun e1=>?_) (fun e1=>?_)
 · have e1:c=110:=(dh rfl).1 e1;refine bf func200 1 [0,2,3,7] rfl ?_;refine G.ret func200 rfl rfl ?_;exact⟨10,r,by unfold pN;simp[e1],rfl,hs1,hx1⟩
 · have e1:¬c=110:=fun e=>e1 ((dh rfl).2 e)
   refine bf func200 3 [0,2,3,7,10] rfl ?_;refine aM rfl rfl (fun e2=>?_) (fun e2=>?_)
   · have e2:c=116:=(dh rfl).1 e2;refine bf func200 1 [0,2,3,7,10] rfl ?_;refine G.ret func200 rfl rfl ?_;exact⟨9,r,by unfold pN;simp[e2],rfl,hs1,hx1⟩
   · have e2:¬c=116:=fun e=>e2 ((dh rfl).2 e)
     refine bf func200 3 [0,2,3,7,10,13] rfl ?_;refine aM rfl rfl (fun e3=>?_) (fun e3=>?_)
     · have e3:c=114:=(dh rfl).1 e3;refine bf func200 1 [0,2,3,7,10,13] rfl ?_;refine G.ret func200 rfl rfl ?_;exact⟨13,r,by unfold pN;simp[e3],rfl,hs1,hx1⟩
     · have e3:¬c=114:=fun e=>e3 ((dh rfl).2 e)
       refine bf func200 3 [0,2,3,7,10,13,16] rfl ?_;refine aM rfl rfl (fun e4=>?_) (fun e4=>?_)
       · have e4:c=120:=(dh rfl).1 e4;subst e4;refine bl func200 1 rfl ?_;refine xo rfl (aq (vs:=[_]) func186 rfl H.sW rfl (ah.jv (fU hs1 (by omega)) ((fun _ _ ⟨hc,hp,hx⟩=>dY hc (by rw[iT hp];rfl) (hx1.trans hx))))) ?_;rintro _ h2 ⟨x,r2,hp2,rfl,hs2,hx2⟩;refine xo rfl (aq (vs:=[_]) func207 rfl H.Ic rfl (ah.jv (rD x) ((fun _ h' ⟨hc,hq,hh⟩=>dY hc (by obtain rfl:=fV hp2;exact Js _ hq) (by subst hh;exact hx1.trans hx2))))) ?_;rintro _ _ ⟨m,hm,hm16,rfl,rfl⟩;refine aN 1 [0,2,3,4,7,10,13,16] rfl ?_;refine bl func200 1 rfl ?_;refine xp rfl (CO rfl rfl (by omega)) ?_;refine aV 1 rfl ?_;obtain rfl:=fV hp2;simp only[List.length_cons] at hl;refine xo rfl (aq (vs:=[_]) func186 rfl H.sW rfl (ah.jv (fU hs2 (by omega)) ((fun _ _ ⟨hc,hp,hx⟩=>dY hc (by rw[iT hp];rfl) ((hx1.trans hx2).trans hx))))) ?_;rintro _ h3 ⟨y,r3,hp3,rfl,hs3,hx3⟩;refine xo rfl (aq (vs:=[_]) func207 rfl H.Ic rfl (ah.jv (rD y) ((fun _ h' ⟨hc,hq,hh⟩=>dY hc (by obtain rfl:=fV hp3;unfold pN;simp[hm,hq]) (by subst hh;exact(hx1.trans hx2).trans hx3))))) ?_;rintro _ _ ⟨n,hn,hn16,rfl,rfl⟩;refine xp rfl (aj.yu rfl rfl) ?_;refine aN 1 [0,2,3,4,7,10,13,16] rfl ?_;obtain rfl:=fV hp3;refine G.ret func200 rfl rfl ?_;exact⟨UInt8.ofNat (m*16+n),r3,by unfold pN;simp[hm,hn],by show Value.int _ _=_;rw[M4 hm16 hn16],hs3,(hx1.trans hx2).trans hx3⟩
       · have e4:¬c=120:=fun e=>e4 ((dh rfl).2 e)
         refine bl func200 1 rfl ?_;refine xo rfl (aq (vs:=[_,_]) func208 rfl H.Fc rfl (ah.bq (lR c))) ?_;rintro _ _ ⟨rfl,rfl⟩;refine aN 2 [0,2,3,7,10,13,16,28] rfl ?_;refine aM rfl rfl (fun e5=>?_) (fun e5=>?_)
         · have e5:=(jA c).1 e5;refine bf func200 2 [0,2,3,7,10,13,16,28] rfl ?_;refine G.ret func200 rfl rfl ?_;exact⟨c,r,by unfold pN;simp[e1,e2,e3,e4,e5],rfl,hs1,hx1⟩
         · have e5:¬c∈fO:=fun e=>e5 ((jA c).2 e)
           refine aB rfl ?_;refine G.aR ?_;refine G.cz func200 rfl ?_;refine xp rfl (aG (H.gU ) rfl) ?_;refine xp rfl (bH H.kC rfl) ?_;refine RW.bB rfl rfl rfl (dI (Φ:=fun _ _=>False) rfl (dY rfl (by unfold pN;simp[e1,e2,e3,e4,e5]) hx1)) ?_;rintro _ _ hpn;exact hpn.elim
theorem pn (hs:St h rb l) (hl:l.length<=1000000):ah Tryz.prog 206 #[yK rb] h (PR rb h (oq l) fun c v _=>v= .int .u8 (c.toNat:Nat)):=by
 refine ah.of func206 rfl rfl ?_;refine bf func206 1 [0,2] rfl ?_;refine bl func206 1 rfl ?_;refine xo rfl (aq (vs:=[_]) func186 rfl H.sW rfl (ah.jv (fU hs hl) ((fun _ _ ⟨hc,hp,hx⟩=>dY hc (by rw[iT hp];rfl) hx)))) ?_;rintro _ h1 ⟨c,r,hp,rfl,hs1,hx1⟩;refine aN 1 [0,2,3] rfl ?_;refine av rfl ?_;refine G.block rfl rfl ?_;refine bf func206 3 [0,2,3,6] rfl ?_;obtain rfl:=fV hp;simp only[List.length_cons] at hl;refine aM rfl rfl (fun e1=>?_) (fun e1=>?_)
 · have e1:c=92:=(dh rfl).1 e1;refine bl func206 1 rfl ?_;refine xo rfl (aq (vs:=[_]) func200 rfl H.Ih rfl (ah.jv (nN hs1 (by omega)) ((fun _ _ ⟨hc,hp,hx⟩=>dY hc (by unfold oq;simp[e1,hp]) (hx1.trans hx))))) ?_;rintro _ h2 ⟨d,r2,hp2,rfl,hs2,hx2⟩;refine aN 1 [0,2,3,6] rfl ?_;refine G.ret func206 rfl rfl ?_;exact⟨d,r2,by unfold oq;simp[e1,hp2],rfl,hs2,hx1.trans hx2⟩
 · have e1:¬c=92:=fun e=>e1 ((dh rfl).2 e)
   refine bl func206 1 rfl ?_;refine xo rfl (aq (vs:=[_,_]) func208 rfl H.Fc rfl (ah.bq (lR c))) ?_;rintro _ _ ⟨rfl,rfl⟩;refine aN 2 [0,2,3,6,11] rfl ?_;refine aM rfl rfl (fun e5=>?_) (fun e5=>?_)
   · have e5:=(jA c).1 e5;refine G.cz func206 rfl ?_;refine xp rfl (aG (H.gU ) rfl) ?_;refine xp rfl (bH H.kC rfl) ?_;refine RW.bB rfl rfl rfl (dI (Φ:=fun _ _=>False) rfl (dY rfl (by unfold oq;simp[e1,e5]) hx1)) ?_;rintro _ _ hpn;exact hpn.elim
   · have e5:¬c∈fO:=fun e=>e5 ((jA c).2 e)
     refine aB rfl ?_;refine G.aR ?_;refine bf func206 2 [0,2,3,6,11] rfl ?_;refine G.ret func206 rfl rfl ?_;exact⟨c,r,by unfold oq;simp[e1,e5],rfl,hs1,hx1⟩
theorem Fj (k s:Nat) (v:Value) (i:Nat) (hi:i<256):(dU k s v).set (1+i / 64*1) (.int .u64 ((A3 s (i / 64) ||| 2 ^ (i%64):Nat):Int))=dU k (s |||(1 <<< i)) v:=by
 have h4:i / 64<4:=by omega
 have hw:=Ed s i;have hs:∀q,q≠i / 64->eP (s |||(1 <<< i)) q=eP s q:=fun q hq=>by unfold eP;rw[Ee s i q hq]
 have he:eP (s |||(1 <<< i)) (i / 64)= .int .u64 ((A3 s (i / 64) ||| 2 ^ (i%64):Nat):Int):=by unfold eP;rw[hw]
 rw[<-he];generalize i / 64=q at *;unfold dU
 match q,h4 with
 | 0,_=>rw[hs 1 (by decide),hs 2 (by decide),hs 3 (by decide)];rfl
 | 1,_=>rw[hs 0 (by decide),hs 2 (by decide),hs 3 (by decide)];rfl
 | 2,_=>rw[hs 0 (by decide),hs 1 (by decide),hs 3 (by decide)];rfl
 | 3,_=>rw[hs 0 (by decide),hs 1 (by decide),hs 2 (by decide)];rfl
theorem Fi (k s:Nat) (v:Value) (q:Nat) (hq:q<4):(dU k s v)[1+q*1]? =some (eP s q):=by
 match q,hq with
 | 0,_=>rfl
 | 1,_=>rfl
 | 2,_=>rfl
 | 3,_=>rfl
theorem Ji {w i:Nat}(hw:w<18446744073709551616):IntKind.u64.wrap ((BitVec.ofInt IntKind.u64.bits (w:Int) |||BitVec.ofInt IntKind.u64.bits (IntKind.u64.wrap (1*2 ^ min (((i:Int)).tmod 64).toNat IntKind.u64.bits))).toNat:Int)=((w ||| 2 ^ (i%64):Nat):Int):=by
 have h1:((i:Int)).tmod 64=((i%64:Nat):Int):=by rw[Int.tmod_eq_emod_of_nonneg (by omega)];omega
 have hb:i%64<64:=Nat.mod_lt _ (by decide);have h2:2 ^ (i%64)<2 ^ 64:=Nat.pow_lt_pow_right (by decide) hb;rw[h1,Kb,Mr hw h2]
theorem Bf (s i n:Nat) (h:0<n):vN s i n=vN (s |||(1 <<< i)) (i+1) (n-1):=by
 cases n with
 |zero=>omega
 |succ n=>rfl
theorem gO {nb k s:Nat}{v:Value}(hk:bh h nb 132 (dU k s v)) (a b:UInt8):ah Tryz.prog 199 #[.pointer (some ⟨nb,1,none⟩),.int .u8 (a.toNat:Nat),.int .u8 (b.toNat:Nat)] h (cM fun _ h' =>
 bh h' nb 132 (dU k (nD s a b) v)/\Ext (only nb) h h'):=by
 have ha:=a.toNat_lt;have hb:=b.toNat_lt;refine ah.of func199 rfl rfl ?_;refine bl func199 1 rfl ?_;refine xp rfl (aj.BM underlying5 underlying3 rfl (wrap_i64 ⟨by omega,by omega⟩)) ?_;refine aN 1 [0,1,2,6] rfl ?_;refine G.block rfl rfl ?_;refine bO (σ:=Nat×Nat) (fun q=>[(0,.pointer (some ⟨nb,1,none⟩)),(2,.int .u8 (b.toNat:Nat)),(6,.int .i64 (q.1:Nat))]) (fun q h'=>bh h' nb 132 (dU k q.2 v)/\Ext (only nb) h h'/\q.1<=256/\vN q.2 q.1 (b.toNat+1-q.1)=nD s a b) (fun q=>b.toNat+1-q.1) ((a.toNat,s)) rfl ⟨rfl,rfl,rfl,trivial⟩ ⟨hk,Ext.refl _ _,by show a.toNat<=256;omega,rfl⟩ ?_;rintro⟨i,s'⟩ h1 ⟨hk1,hx1,hi,hsp⟩ ih
 try dsimp only
 dsimp only at hk1 hi hsp;refine av rfl ?_;refine bl func199 2 rfl ?_;refine xp rfl (aj.BM underlying5 underlying3 rfl (wrap_i64 ⟨by omega,by omega⟩)) ?_;refine aN 1 [0,2,6,12] rfl ?_;refine aM rfl rfl (fun hle=>?_) (fun hle=>?_)
 · have hi255:i<=b.toNat:=by omega
   rw[Bf _ _ _ (by omega)] at hsp;have hq:i / 64<4:=by omega
   have hdiv:IntKind.i64.wrap (((i:Int)).tdiv 64)=((i / 64:Nat):Int):=by
    rw[Int.tdiv_eq_ediv_of_nonneg (by omega),wrap_i64 ⟨by omega,by omega⟩];omega
   have hw:=A2 s' (i / 64);have hset:=Fj k s' v i (by omega);have hk1':bh h1 nb 132 [.int .i64 k,eP s' 0,eP s' 1,eP s' 2,eP s' 3,v]:=hk1;refine aB rfl ?_;refine av rfl ?_;refine G.block rfl rfl ?_;refine bQ (fun b=>Array.size h1<=b) (fun i=>Nat.blt i 12) (sz:=13) (listed:= #[false,false,false,false,false,false,false,false,false,false,false,false,false]) func199 H.mixed rfl rfl rfl ?_;refine cu 0 1 (by kernel_rfl) rfl ?_;refine cu 1 3 (by kernel_rfl) rfl ?_;refine bP 2 7 (by kernel_rfl) rfl (fun h' e=>qa rfl rfl (by decide)) ?_;refine cu 3 15 (by kernel_rfl) rfl ?_;refine bP 4 31 (by kernel_rfl) rfl (fun h' e=>aj.cQ underlying129 H.sB rfl rfl (i / 64) hdiv hq) ?_;refine bP 5 63 (by kernel_rfl) rfl (fun h' e=>ai H.Gl rfl (e.old (hk1.cell (Fi k s' v _ hq)))) ?_;refine cu 6 127 (by kernel_rfl) rfl ?_;refine bP 7 255 (by kernel_rfl) rfl (fun h' e=>yF rfl rfl (by decide)) ?_;refine bP 8 511 (by kernel_rfl) rfl (fun h' e=>CO rfl rfl (by rw[Int.tmod_eq_emod_of_nonneg (by omega)];omega)) ?_;refine bP 9 1023 (by kernel_rfl) rfl (fun h' e=>aj.yu rfl rfl) ?_;refine dZ 10 2047 (by kernel_rfl) rfl (aj.bq (aO rfl)) ?_;rintro _ hq_ ⟨rfl,hqe_⟩;replace hqe_:=hqe_.symm;subst hqe_;refine⟨fun _=>Ext.refl _ _,?_⟩;refine bP 11 4095 (by kernel_rfl) rfl (fun h' e=>aj.cQ underlying129 H.sB rfl rfl (i / 64) hdiv hq) ?_;refine jG 12 8191 (by kernel_rfl) rfl (az.bA H.sB rfl rfl hk1' (by first|decide|exact of_decide_eq_true rfl|(simp;done)|(simp;omega)) rfl) ?_;rintro _ h2 ⟨rfl,hk2,hx2,hz2⟩;refine⟨fun hk=>(nomatch hk),?_⟩;refine bu (by kernel_rfl) ?_;refine xu [0,2,6,12] rfl ?_;refine G.aR ?_;refine G.cz func199 rfl ?_;refine cI 1 rfl rfl (aj.bJ rfl rfl ⟨by omega,by omega⟩) ?_;refine aN 1 [0,2,6,12] rfl ?_;rw[Ji hw,show [.int .i64 (k:Int),eP s' 0,eP s' 1,eP s' 2,eP s' 3,v]=dU k s' v from rfl,hset] at hk2;exact ih (i+1,s' |||(1 <<< i)) _ _ ⟨rfl,rfl,rfl,trivial⟩ ⟨hk2,hx1.trans hx2,by show i+1<=256;omega,by show vN _ (i+1) (b.toNat+1-(i+1))=_;rw[<-hsp];rfl⟩ (by show b.toNat+1-(i+1)<b.toNat+1-i;omega)
 · have h0:b.toNat+1-i=0:=by omega
   rw[h0] at hsp;refine bD rfl rfl ?_;refine G.xV func199 rfl ?_;exact⟨_,rfl,by rw[<-hsp];exact hk1,hx1⟩
theorem DH (s:Nat) (b:UInt8):ah Tryz.prog 103 #[.agg (uj s).toArray,.int .u8 (b.toNat:Nat)] h (cM fun r h'=>r= .bool (s.testBit b.toNat)/\aC h h'):=by
 have hb:=b.toNat_lt;have hq:b.toNat / 64<4:=by omega
 have hdiv:IntKind.u8.wrap (((b.toNat:Int)).tdiv 64)=((b.toNat / 64:Nat):Int):=by
  rw[Int.tdiv_eq_ediv_of_nonneg (by omega),wrap_u8 (by omega)];omega
 have hmod:((b.toNat:Int)).tmod 64=((b.toNat%64:Nat):Int):=by rw[Int.tmod_eq_emod_of_nonneg (by omega)];omega
 have hm64:b.toNat%64<64:=Nat.mod_lt _ (by decide)
 have hword:∀q,q<4->(uj s)[0+q*1]? =some (eP s q):=fun q hq=>by
  match q,hq with
  | 0,_=>rfl
  | 1,_=>rfl
  | 2,_=>rfl
  | 3,_=>rfl
 refine ah.of func103 rfl rfl ?_;refine xr func103 rfl ?_;refine xo rfl (az.eR rfl) ?_;rintro _ h1 ⟨rfl,hk,he,hz⟩;refine aN 1 [0,1,2,4] rfl ?_;refine bl func103 1 rfl ?_;refine xp rfl (qa rfl rfl (by decide)) ?_;have hk:bh h1 h.size 129 (uj s):=hk;refine xp rfl (aj.cQ underlying129 H.sB rfl rfl (b.toNat / 64) hdiv hq) ?_;refine xp rfl (ai H.Gl rfl (hk.cell (hword _ hq))) ?_;refine cI 1 rfl rfl (yF rfl rfl (by decide)) ?_;refine xp rfl (HK rfl rfl (by rw[hmod];omega)) ?_;refine xp rfl (aj.F7 rfl rfl) ?_;refine aN 2 [0,1,2,4] rfl ?_;refine G.ret func103 rfl rfl ?_;refine⟨_,rfl,?_,he⟩;rw[hmod,J8 _ _ hm64,M7 (Nat.lt_of_le_of_lt (Nat.shiftRight_le _ _) (A2 s _)),GF];cases s.testBit b.toNat<;>rfl
theorem jz.only {h0:aA}{g:Nat}(e:Ext M h0 h) (x:Ext (fun b=>b=g) h h') (hg:h0.size<=g):Ext M h0 h' :=
 ⟨Nat.le_trans e.size x.size,fun b hb hm=>by rw[x.block b (Nat.lt_of_lt_of_le hb e.size) (by omega)];exact e.block b hb hm⟩
theorem jz.ax {h0:aA}(e:Ext M h0 h) (x:aC h h'):Ext M h0 h':=e.trans (aC.of x)
theorem sF:∀(n m acc:Nat) (s:By),s.length<n->s.length<m->lH n acc s=lH m acc s
 | 0,_,_,_,h,_=>by omega
 |_,0,_,_,_,h=>by omega
 |n+1,m+1,acc,s,hn,hm=>by
  rw[lH,lH];cases hf:fk s with
  |none=>rfl
  |some p =>
   obtain⟨⟨a,b⟩,r⟩:=p;have hlen:=mz hf;simp only;split
   · rfl
   · exact sF n m _ _ (by omega) (by omega)
def nO (first:Bool) (acc:Nat) (l:By):Option (Nat×By):=if first=false/\l.head? =some 93 then some (acc,l.tail) else lH (l.length+1) acc l
theorem oC {first:Bool}{acc:Nat}(h:¬(first=false/\l.head? =some 93)) (hf:fk l=none):nO first acc l=none:=by
 unfold nO;rw[if_neg h,lH,hf]
theorem ur {first:Bool}{acc:Nat}{b:UInt8}(h:¬(first=false/\l.head? =some 93)) (hf:fk l=some ((a,b),r)):nO first acc l=nO false (nD acc a b) r:=by
 have hlen:=mz hf;unfold nO;rw[if_neg h,lH,hf];simp only[true_and];split
 · simp
 · rename_i hne
   rw[if_neg (fun e=>by
    cases r with
    |nil=>cases e
    |cons c t=>simp at e;subst e;exact hne t rfl)]
   exact sF _ _ _ _ (by omega) (by omega)
theorem Le (h:oq l=none):fk l=none:=by unfold fk;rw[h]
theorem Ld (h:oq l=some (a,r)) (hr:r.head? ≠some 45):fk l=some ((a,a),r):=by
 unfold fk;rw[h];simp only;split
 · exact absurd rfl hr
 · rfl
theorem Lc (h:oq l=some (a,r)) (hr:r.head? =some 45) (hb:oq r.tail=none):fk l=none:=by
 unfold fk;rw[h];cases r with
 |nil=>cases hr
 |cons c t=>simp at hr;subst hr;simp at hb;simp[hb]
theorem Lb {r':By}{b:UInt8}(h:oq l=some (a,r)) (hr:r.head? =some 45) (hb:oq r.tail=some (b,r')):fk l=if b.toNat<a.toNat then none else some ((a,b),r'):=by
 unfold fk;rw[h];cases r with
 |nil=>cases hr
 |cons c t=>simp at hr;subst hr;simp at hb;simp[hb]
theorem vD (l:By):ig l=(nO true 0 (if l.head? =some 94 then l.tail else l)).map fun p=>(.mk 1 (if l.head? =some 94 then l9 p.1 else p.1) [],p.2):=by
 unfold ig nO;split
 · simp
 · rename_i hne
   have h1:l.head? ≠some 94:=fun e=>by
    cases l with
    |nil=>cases e
    |cons c t=>simp at e;subst e;exact hne t rfl
   simp[h1]
theorem GC (s q:Nat) (hq:q<4):A3 (l9 s) q=18446744073709551615 ^^^ A3 s q:=by
 apply Nat.eq_of_testBit_eq
 intro i;rw[kL,Nat.testBit_xor,kL];unfold l9;rw[Nat.testBit_xor,show Gi=2 ^ 256-1 from rfl,Nat.testBit_two_pow_sub_one,show (18446744073709551615:Nat)=2 ^ 64-1 from rfl,Nat.testBit_two_pow_sub_one]
 by_cases hi:i<64
 · have:64*q+i<256:=by omega
   simp[hi,this]
 · simp[hi]
theorem JV {x:Nat}(hx:x<18446744073709551616):IntKind.u64.wrap ((BitVec.ofInt IntKind.u64.bits (if IntKind.u64.signed then -1 else IntKind.u64.max) ^^^ BitVec.ofInt IntKind.u64.bits (x:Int)).toNat:Int)=((18446744073709551615 ^^^ x:Nat):Int):=by
 have e:(BitVec.ofInt IntKind.u64.bits (if IntKind.u64.signed then -1 else IntKind.u64.max) ^^^ BitVec.ofInt IntKind.u64.bits (x:Int)).toNat=18446744073709551615 ^^^ x:=by
  rw[BitVec.toNat_xor]
  have h1:(BitVec.ofInt IntKind.u64.bits (x:Int)).toNat=x:=by
   show (BitVec.ofInt 64 (x:Int)).toNat=x
   simp only[BitVec.toNat_ofInt];omega
  rw[h1];rfl
 rw[e];have:18446744073709551615 ^^^ x<2 ^ 64:=Nat.xor_lt_two_pow (by decide) hx;exact mU ⟨by omega,by omega⟩
def zV (s q i:Nat):Value:=if i<q then eP (l9 s) i else eP s i
def Jp (s q:Nat):List Value:=[.int .i64 1,zV s q 0,zV s q 1,zV s q 2,zV s q 3,.slice none 0 0]
theorem Fh (s q:Nat) (hq:q<4):(Jp s q)[1+q*1]? =some (eP s q):=by
 match q,hq with
 | 0,_=>rfl
 | 1,_=>rfl
 | 2,_=>rfl
 | 3,_=>rfl
theorem GV (s q:Nat) (hq:q<4):(Jp s q).set (1+q*1) (.int .u64 ((18446744073709551615 ^^^ A3 s q:Nat):Int))=Jp s (q+1):=by
 rw[<-GC s q hq]
 match q,hq with
 | 0,_=>rfl
 | 1,_=>rfl
 | 2,_=>rfl
 | 3,_=>rfl
abbrev CI (n:Nat):Nat->Prop:=fun b=>b<n
def BX (n:Nat) (x:Nd) (v:Value) (h':aA):Prop:=∃w,v= .agg (dU x.kind x.set w).toArray/\cm h' (CI n) (dU x.kind x.set w) x
theorem fI (h:aA) (O:Nat->Prop) (k s:Nat):cm h O (dU k s (.slice none 0 0)) (.mk k s []):=.of k s (bX.nil _ _ _)
theorem vC (hs:St h rb l) (hl:l.length<=1000000):ah Tryz.prog 198 #[yK rb] h (PR rb h (ig l) (BX h.size)):=by
 have hlt:=hs.lt;have hbr:=vD l;refine ah.of func198 rfl rfl ?_;refine xr func198 rfl ?_;refine xo rfl (az.aQ H.jU) ?_;rintro _ h1 ⟨rfl,hkr,he1,hz1⟩;refine xd [0,2] rfl ?_;refine xr func198 rfl ?_;refine xp rfl (aG (H.CK _) rfl) ?_;refine xo rfl (az.aQ H.jU) ?_;rintro _ h2 ⟨rfl,hk2,he2,hz2⟩;refine RW.bB rfl rfl rfl (az.au H.cv rfl rfl hk2 (by first|rfl|(simp;done)|(simp;omega)) (by first|decide|exact of_decide_eq_true rfl|(simp;done)|(simp;omega)) (by first|decide|simp[Value.oneCell'])) ?_;rintro _ h3 ⟨rfl,hk3,hx3,hz3⟩;have hk3:bh h3 h1.size 132 (dU 1 0 (.slice none 0 0)):=hk3;have hkr:bh h1 h.size 132 (dU 0 0 (.slice none 0 0)):=hkr;have e3:aC h h3:=aC.only (he1.trans he2) hx3 (by omega);have hkr3:bh h3 h.size 132 (dU 0 0 (.slice none 0 0)):=(hkr.ax he2).ext hx3 (by show ¬_=_;omega);have hs3:St h3 rb l:=bh.ax hs e3;refine xd [0,2,3] rfl ?_;refine bl func198 1 rfl ?_;refine xo rfl (aq (vs:=[_,_]) func138 rfl H.Cr rfl (ah.bq (kO 94 hs3 hl))) ?_;rintro _ h4 ⟨hor,hx4⟩
 obtain⟨nt,l1,rfl,hnt,hl1,hs4⟩:∃(nt:Bool) (l1:By),_=Value.bool nt/\nt=decide (l.head? =some 94)/\l1=(if l.head? =some 94 then l.tail else l)/\St h4 rb l1:=by
  rcases hor with ⟨a1,a2,a3⟩|⟨a1,a2,a3⟩
  · exact⟨true,_,a2,by simp[a1],by rw[if_pos a1],a3⟩
  · exact⟨false,_,a2,by simp[a1],by rw[if_neg a1],a3⟩
 rw[<-hl1] at hbr;have hl1l:l1.length<=1000000:=by rw[hl1];split;(have:l.tail.length<=l.length:=by simp);omega;exact hl
 have hkr4:=hkr3.ext hx4 (by show ¬_=_;omega);have hk4:=hk3.ext hx4 (by show ¬_=_;omega);have e4:Ext (only rb) h h4:=(aC.of e3).trans hx4;have hz4:=hx4.size;generalize htg:nO true 0 l1=tgt at hbr;refine aN 1 [0,2,3,4] rfl ?_;refine av rfl ?_;refine bf func198 1 [0,2,3,4,5] rfl ?_;refine G.block rfl rfl ?_;refine bO (σ:=Bool×Nat×By) (fun q=>[(0,yK rb),(2,.pointer (some ⟨h.size,0,none⟩)),(3,.pointer (some ⟨h1.size,0,none⟩)),(4,.bool nt),(5,.bool q.1)]) (fun q h'=>St h' rb q.2.2/\bh h' h1.size 132 (dU 1 q.2.1 (.slice none 0 0))/\bh h' h.size 132 (dU 0 0 (.slice none 0 0))/\Ext (only rb) h h'/\q.2.2.length<=1000000/\nO q.1 q.2.1 q.2.2=tgt) (fun q=>q.2.2.length) ((true,0,l1)) rfl ⟨rfl,rfl,rfl,rfl,rfl,trivial⟩ ⟨hs4,hk4,hkr4,e4,hl1l,htg⟩ ?_;rintro⟨first,acc,m⟩ h5 ⟨hs5,hk5,hkr5,e5,hm,hcon⟩ ih
 try dsimp only
 dsimp only at hs5 hk5 hm hcon;refine av rfl ?_;refine av rfl ?_;refine G.bw [(17,.bool (decide (¬(first=false/\m.head? =some 93))))] [(0,_),(2,_),(3,_),(4,_),(5,_)] ⟨rfl,rfl,rfl,rfl,rfl,trivial⟩ func198 rfl ?_ ?_
 · refine aV 2 rfl ?_;refine aL (d:=13) rfl (fun hf=>?_) (fun hf=>?_)
   · refine aV 4 rfl ?_;refine aD rfl ?_;exact⟨rfl,aF rfl (by simp[hf]),rfl,rfl,rfl,rfl,rfl,trivial⟩
   · refine aV 1 rfl ?_;refine xo rfl (aq (vs:=[_]) func185 rfl H.Ij rfl (ah.bq (sY hs5))) ?_;rintro _ _ ⟨rfl,rfl⟩;refine aV 2 rfl ?_;refine aD rfl ?_;exact⟨rfl,aF rfl (by cases m with|nil=>simp|cons c t=>simp only[hf,List.head?_cons,Option.getD_some,Option.some.injEq,true_and];exact decide_eq_decide.2 (not_congr (dh rfl))),rfl,rfl,rfl,rfl,rfl,trivial⟩
 · refine aM rfl rfl (fun hgo=>?_) (fun hgo=>?_)
   · refine aB rfl ?_;refine av rfl ?_;refine G.block rfl rfl ?_;refine bl func198 1 rfl ?_;refine xo rfl (aq (vs:=[_]) func206 rfl H.Ie rfl (ah.jv (pn hs5 hm) ((fun _ _ ⟨hc,hp,hx⟩=>dY hc (by rw[hbr,<-hcon,oC hgo (Le hp)];rfl) (e5.trans hx))))) ?_;rintro _ h6 ⟨a,r,ha,rfl,hs6,hx6⟩;have hrl:=pq ha;have hk6:=hk5.ext hx6 (by show ¬_=_;omega);have hkr6:=hkr5.ext hx6 (by show ¬_=_;omega);have e6:=e5.trans hx6;refine aN 1 [0,2,3,4,5,6,17] rfl ?_;refine bf func198 2 [0,2,3,4,5,6,7,17] rfl ?_;refine av rfl ?_;refine bl func198 1 rfl ?_;refine xo rfl (aq (vs:=[_,_]) func138 rfl H.Cr rfl (ah.bq (kO 45 hs6 (by omega)))) ?_;rintro _ h7 ⟨hor7,hx7⟩;have hk7:=hk6.ext hx7 (by show ¬_=_;omega);have hkr7:=hkr6.ext hx7 (by show ¬_=_;omega);have e7:=e6.trans hx7
     rcases hor7 with ⟨a1,rfl,hs7⟩|⟨a1,rfl,hs7⟩
     · have htl:r.tail.length<=r.length:=by simp
       refine xd [0,2,3,4,5,6,7,17,22] rfl ?_;refine aJ rfl rfl (fun _=>?_) (fun hc=>absurd hc (by decide));refine G.cz func198 rfl ?_;refine aV 1 rfl ?_;refine xo rfl (aq (vs:=[_]) func206 rfl H.Ie rfl (ah.jv (pn hs7 (by omega)) ((fun _ _ ⟨hc,hp,hx⟩=>dY hc (by rw[hbr,<-hcon,oC hgo (Lc ha a1 hp)];rfl) (e7.trans hx))))) ?_;rintro _ h8 ⟨b,r8,hb,rfl,hs8,hx8⟩;have hbl:=pq hb;have hk8:=hk7.ext hx8 (by show ¬_=_;omega);have hkr8:=hkr7.ext hx8 (by show ¬_=_;omega);have e8:=e7.trans hx8;have hf4:=Lb ha a1 hb;refine aN 1 [0,2,3,4,5,6,7,17,22] rfl ?_;refine av rfl ?_;refine bf func198 3 [0,2,3,4,5,6,7,17,22,27] rfl ?_;refine aM rfl rfl (fun hlow=>?_) (fun hlow=>?_)
       · rw[if_pos (by omega)] at hf4;refine G.cz func198 rfl ?_;refine xp rfl (aG (H.gU ) rfl) ?_;refine xp rfl (bH H.kC rfl) ?_;refine RW.bB rfl rfl rfl (dI (Φ:=fun _ _=>False) rfl (dY rfl (by rw[hbr,<-hcon,oC hgo hf4];rfl) e8)) ?_;rintro _ _ hpn;exact hpn.elim
       · rw[if_neg (by omega)] at hf4;refine aB rfl ?_;refine G.cz func198 rfl ?_;refine xp rfl (af (off:=1) underlying132 rfl rfl H.lG rfl) ?_;refine aV 2 rfl ?_;refine xo rfl (aq (vs:=[_,_,_]) func199 rfl H.vT rfl (ah.bq (gO hk8 a b))) ?_;rintro _ h9 ⟨hk9,hx9⟩;refine xd [0,2,3,4,5,6,7,17,22,27] rfl ?_;refine G.aR ?_;refine G.cz func198 rfl ?_;refine aN 1 [0,2,3,4,5,6,7,17,22,27] rfl ?_;have hsp:=ur (acc:=acc) hgo hf4;exact ih (false,nD acc a b,r8) _ _ ⟨rfl,rfl,rfl,rfl,rfl,trivial⟩ ⟨bh.ext hs8 hx9 (by show ¬_=_;omega),hk9,hkr8.ext hx9 (by show ¬_=_;omega),jz.only e8 hx9 (by omega),by show r8.length<=_;omega,by rw[<-hcon,hsp]⟩ (by show r8.length<m.length;omega)
     · have hf2:=Ld ha a1;refine xd [0,2,3,4,5,6,7,17,22] rfl ?_;refine aJ rfl rfl (fun hc=>absurd hc (by decide)) (fun _=>?_);refine aB rfl ?_;refine av rfl ?_;refine bf func198 3 [0,2,3,4,5,6,7,17,22,27] rfl ?_;refine aJ rfl rfl (fun hc=>absurd hc (by simp)) (fun _=>?_);refine aB rfl ?_;refine G.cz func198 rfl ?_;refine xp rfl (af (off:=1) underlying132 rfl rfl H.lG rfl) ?_;refine aV 2 rfl ?_;refine xo rfl (aq (vs:=[_,_,_]) func199 rfl H.vT rfl (ah.bq (gO hk7 a a))) ?_;rintro _ h9 ⟨hk9,hx9⟩;refine xd [0,2,3,4,5,6,7,17,22,27] rfl ?_;refine G.aR ?_;refine G.cz func198 rfl ?_;refine aN 1 [0,2,3,4,5,6,7,17,22,27] rfl ?_;have hsp:=ur (acc:=acc) hgo hf2;exact ih (false,nD acc a a,r) _ _ ⟨rfl,rfl,rfl,rfl,rfl,trivial⟩ ⟨bh.ext hs7 hx9 (by show ¬_=_;omega),hk9,hkr7.ext hx9 (by show ¬_=_;omega),jz.only e7 hx9 (by omega),by show r.length<=_;omega,by rw[<-hcon,hsp]⟩ (by show r.length<m.length;omega)
   · have hgo:=Classical.not_not.1 hgo;have htgt:tgt=some (acc,m.tail):=by rw[<-hcon];unfold nO;rw[if_pos hgo]
     refine bD rfl rfl ?_;refine bl func198 1 rfl ?_;refine xo rfl (aq (vs:=[_,_]) func197 rfl H.Ii rfl (ah.jv (sZ 93 hs5 hm) ((fun _ _ ⟨hc,hp,hx⟩=>absurd hp (by rw[if_pos hgo.2];simp))))) ?_;rintro _ h6 ⟨_,r,hp,_,hs6,hx6⟩;refine xd [0,2,3,4,5,17] rfl ?_;refine av rfl ?_;refine bf func198 1 [0,2,3,4,5,17,36] rfl ?_;refine G.block rfl rfl ?_;rw[if_pos hgo.2] at hp;cases hp;have hk6:=hk5.ext hx6 (by show ¬_=_;omega);have hkr6:=hkr5.ext hx6 (by show ¬_=_;omega);have e6:=e5.trans hx6;have hk6:bh h6 h1.size 132 (Jp acc 0):=hk6;refine bO (σ:=Nat) (fun q=>[(2,.pointer (some ⟨h.size,0,none⟩)),(3,.pointer (some ⟨h1.size,0,none⟩)),(4,.bool nt),(36,.int .i64 (q:Nat))]) (fun q h'=>q<=4/\St h' rb m.tail/\bh h' h1.size 132 (Jp acc (if nt then q else 0))/\bh h' h.size 132 (dU 0 0 (.slice none 0 0))/\Ext (only rb) h h') (fun q=>4-q) (0) rfl ⟨rfl,rfl,rfl,rfl,trivial⟩ ⟨by omega,hs6,by cases nt<;>exact hk6,hkr6,e6⟩ ?_;rintro q h7 ⟨hq,hs7,hk7,hkr7,e7⟩ ih;refine bf func198 1 [2,3,4,36,37] rfl ?_;refine av rfl ?_;refine aM rfl rfl (fun hq4=>?_) (fun hq4=>?_)
     · have hq4':q<4:=by omega
       refine aB rfl ?_;refine av rfl ?_;refine G.block rfl rfl ?_;refine bf func198 2 [2,3,4,8,36,37] rfl ?_;refine bf func198 1 [2,3,4,8,36,37,39] rfl ?_;refine aJ rfl rfl (fun hb=>?_) (fun hb=>?_)
       · rw[if_pos hb] at hk7;have hk7':bh h7 h1.size 132 [.int .i64 1,zV acc q 0,zV acc q 1,zV acc q 2,zV acc q 3,.slice none 0 0]:=hk7;refine G.cz func198 rfl ?_;refine cI 2 rfl rfl (af (off:=1) underlying132 rfl rfl H.lG rfl) ?_;refine xp rfl (aj.cQ underlying129 H.sB rfl rfl q rfl hq4') ?_;refine xp rfl (ai H.Gl rfl (hk7.cell (Fh acc q hq4'))) ?_;refine xp rfl (aj.Lh rfl) ?_;refine xp rfl (af (off:=1) underlying132 rfl rfl H.lG rfl) ?_;refine xp rfl (aj.cQ underlying129 H.sB rfl rfl q rfl hq4') ?_;refine RW.bB rfl rfl rfl (az.bA H.sB rfl rfl hk7' (by first|decide|exact of_decide_eq_true rfl|(simp;done)|(simp;omega)) rfl) ?_;rintro _ h8 ⟨rfl,hk8,hx8,hz8⟩;refine xd [2,3,4,8,36,37,39] rfl ?_;refine G.aR ?_;refine G.cz func198 rfl ?_;refine xp rfl (aj.bJ rfl rfl ⟨by omega,by omega⟩) ?_;refine aN 1 [2,3,4,8,36,37,39] rfl ?_;have hk8:bh h8 h1.size 132 (Jp acc (q+1)):=by rw[<-GV acc q hq4',<-JV (A2 acc q)];exact hk8
         exact ih (q+1) _ _ ⟨rfl,rfl,rfl,rfl,trivial⟩ ⟨by omega,bh.ext hs7 hx8 (by show ¬_=_;omega),by rw[if_pos hb];exact hk8,hkr7.ext hx8 (by show ¬_=_;omega),jz.only e7 hx8 (by omega)⟩ (by omega)
       · rw[if_neg (by rw[hb];decide)] at hk7;refine aB rfl ?_;refine G.aR ?_;refine G.cz func198 rfl ?_;refine xp rfl (aj.bJ rfl rfl ⟨by omega,by omega⟩) ?_;refine aN 1 [2,3,4,8,36,37,39] rfl ?_;exact ih (q+1) _ _ ⟨rfl,rfl,rfl,rfl,trivial⟩ ⟨by omega,hs7,by rw[if_neg (by rw[hb];decide)];exact hk7,hkr7,e7⟩ (by omega)
     · obtain rfl:q=4:=by omega
       have hfin:Jp acc (if nt then 4 else 0)=dU 1 (if l.head? =some 94 then l9 acc else acc) (.slice none 0 0):=by
        subst hnt
        by_cases hd:l.head? =some 94<;>simp[hd]<;>rfl
       rw[hfin] at hk7;have hbr2:ig l=some (.mk 1 (if l.head? =some 94 then l9 acc else acc) [],m.tail):=by rw[hbr,htgt];rfl
       generalize (if l.head? =some 94 then l9 acc else acc)=fs at hk7 hbr2;refine bD rfl rfl ?_;refine xr func198 rfl ?_;refine xp rfl (aj.aE H.eS H.cv rfl hk7.row (by first|rfl|(simp;done)|(simp;omega))) ?_;refine RW.bB rfl rfl rfl (az.au H.cv rfl rfl hkr7 (by first|rfl|(simp;done)|(simp;omega)) (by first|decide|exact of_decide_eq_true rfl|(simp;done)|(simp;omega)) (cm.one (fI h7 (only rb) 1 fs))) ?_;rintro _ h8 ⟨rfl,hk8,hx8,hz8⟩;refine xd [2,3,4,36,37] rfl ?_;have hk8:bh h8 h.size 132 (dU 1 fs (.slice none 0 0)):=hk8;refine G.br func198 rfl (.cons (aI.bp H.eS H.cv rfl (hk8.row) (by first|rfl|(simp;done)|(simp;omega))) (.nil)) ?_;exact⟨_,m.tail,hbr2,⟨_,rfl,fI _ _ _ _⟩,bh.ext hs7 hx8 (by show ¬_=_;omega),jz.only e7 hx8 (Nat.le_refl _)⟩
theorem gH {cs:List Value}(k:cm h (CI m) cs x) (hn:n<=m) (e:Ext M h h') (hM:∀b,b<h.size->M b->b<m):cm h' (CI n) cs x :=
 k.mv (Mv.cY e fun b hb ho=>⟨fun hm=>ho (hM b hb hm),fun k=>ho (Nat.lt_of_lt_of_le k hn)⟩)
theorem EX {cs ds:List Value}(h:cs.length=ds.length):over cs 0 ds=ds:=by
 unfold over;rw[List.drop_of_length_le (by omega)];simp
theorem pH {O:Nat->Prop}{v:Value}{xs:List Nd}(kind:Nat) (hv:bX ry h O v xs):ah Tryz.prog 139 #[.int .i64 (kind:Nat),v] h (cM fun r h'=>(∃w,r= .agg (dU (cG kind xs).kind (cG kind xs).set w).toArray/\cm h' O (dU (cG kind xs).kind (cG kind xs).set w) (cG kind xs))/\aC h h'):=by
 obtain⟨oa,n,c,rfl,hsl⟩:=hv.open;have hn:=hsl.len;refine ah.of func139 rfl rfl ?_;refine xr func139 rfl ?_;refine xo rfl (az.aQ H.jU) ?_;rintro _ h1 ⟨rfl,hk,he,hz⟩;refine xd [0,1,4] rfl ?_;refine av rfl ?_;refine bl func139 1 rfl ?_;refine xp rfl (aj.aS underlying130 rfl) ?_;refine xd [0,1,4,6] rfl ?_;refine G.block rfl rfl ?_;refine bf func139 2 [0,1,4,6,7] rfl ?_;have hk:bh h1 h.size 132 (dU 0 0 (.slice none 0 0)):=hk;have hsl1:=hsl.mv (Mv.ax he);have hv1:=hv.ax he;refine aM rfl rfl (fun e0=>?_) (fun e0=>?_)
 · obtain rfl:n=0:=by omega
   have hx:xs=[]:=List.eq_nil_of_length_eq_zero hn;subst hx;refine xr func139 rfl ?_;refine xp rfl (aG (H.BU ) rfl) ?_;refine RW.bB rfl rfl rfl (az.au H.cv rfl rfl hk (by first|rfl|(simp;done)|(simp;omega)) (by first|decide|exact of_decide_eq_true rfl|(simp;done)|(simp;omega)) (by first|decide|simp[Value.oneCell'])) ?_;rintro _ h2 ⟨rfl,hk2,hx2,hz2⟩;refine xd [0,1,4,6,7] rfl ?_;have hk2:bh h2 h.size 132 (dU 0 0 (.slice none 0 0)):=hk2;refine G.br func139 rfl (.cons (aI.bp H.eS H.cv rfl (hk2.row) (by first|rfl|(simp;done)|(simp;omega))) (.nil)) ?_;exact⟨_,rfl,⟨_,rfl,fI _ _ 0 0⟩,aC.only he hx2 (Nat.le_refl _)⟩
 · refine bf func139 2 [0,1,4,6,7,10] rfl ?_;refine aM rfl rfl (fun e1=>?_) (fun e1=>?_)
   · obtain rfl:n=1:=by omega
     obtain⟨x,rfl⟩:=List.length_eq_one_iff.1 hn;obtain⟨b,o,cs,ha,ho,hr,hR⟩:=hsl.get 0 x rfl;have hr:=he.rowAt (fun k=>k) hr;obtain⟨w,rfl,hw⟩:=cm.open hR;refine bl func139 1 rfl ?_;refine xp rfl (aj.aH underlying130 H.cv rfl rfl 0 rfl ha (by decide)) ?_;refine xp rfl (aj.aE H.eS H.cv rfl hr (by first|rfl|(simp;done)|(simp;omega))) ?_;refine RW.bB rfl rfl rfl (az.au H.cv rfl rfl hk (by first|rfl|(simp;done)|(simp;omega)) (by first|decide|exact of_decide_eq_true rfl|(simp;done)|(simp;omega)) (ry.one hR)) ?_;rintro _ h2 ⟨rfl,hk2,hx2,hz2⟩;refine xd [0,1,4,6,7,10] rfl ?_;have hk2:bh h2 h.size 132 (dU x.kind x.set w):=hk2;refine G.br func139 rfl (.cons (aI.bp H.eS H.cv rfl (hk2.row) (by first|rfl|(simp;done)|(simp;omega))) (.nil)) ?_;exact⟨_,rfl,⟨w,rfl,cm.ax hR (aC.only he hx2 (Nat.le_refl _))⟩,aC.only he hx2 (Nat.le_refl _)⟩
   · refine aB rfl ?_;refine G.aR ?_;refine bl func139 2 rfl ?_;refine xp rfl (aG (H.qB _ _ _ _) rfl) ?_;refine RW.bB rfl rfl rfl (az.au H.cv rfl rfl hk (by first|rfl|(simp;done)|(simp;omega)) (by first|decide|exact of_decide_eq_true rfl|(simp;done)|(simp;omega)) (by first|decide|simp[Value.oneCell'])) ?_;rintro _ h2 ⟨rfl,hk2,hx2,hz2⟩;refine xd [0,1,4,6,7,10] rfl ?_;have hk2:bh h2 h.size 132 (dU kind 0 (.slice oa n c)):=hk2;refine G.br func139 rfl (.cons (aI.bp H.eS H.cv rfl (hk2.row) (by first|rfl|(simp;done)|(simp;omega))) (.nil)) ?_
     have hj:cG kind xs= .mk kind 0 xs:=by
      unfold cG;split
      · simp at hn;omega
      · simp at hn;omega
      · rfl
     rw[hj];exact⟨_,rfl,⟨.slice oa n c,rfl,cm.of kind 0 (hv.ax (aC.only he hx2 (Nat.le_refl _)))⟩,aC.only he hx2 (Nat.le_refl _)⟩
def Sg (h:aA) (lim:Nat):Prop:=∃m,10<lim/\m<lim/\cellAt h ⟨10,0,none⟩=some (.map (some m)) /\
 ∃l:List (Int×Int),fJ (Value.int .u8) (Value.int .i64) h m l/\∀c:UInt8,((kJ (c.toNat:Int) l).map (Value.int .i64)).getD (Value.int .i64 0)=Value.int .i64 (dJ c:Nat)
theorem Sg.ext {h h':aA}{lim:Nat}(k:Sg h lim){M:Nat->Prop}(e:Ext M h h') (hM:∀b,M b->lim<=b):Sg h' lim:=by
 obtain⟨m,h1,h2,h3,l,h4,h5⟩:=k;exact⟨m,h1,h2,e.cell (fun k=>absurd (hM _ k) (by show ¬lim<=10;omega)) h3,l,h4.ext e (fun k=>by have:=hM _ k;omega),h5⟩
def uR (d lim:Nat):Prop:=∀(h:aA) (rb:Nat) (l:By),Sg h lim->lim<=rb->St h rb l->l.length<d->l.length<=1000000 ->
 ah Tryz.prog 94 #[yK rb] h (PR rb h (ei d l) (BX h.size))
theorem BV (ih:uR d lim) (hg:Sg h lim) (hrb:lim<=rb) (hs:St h rb l) (hd:l.length<=d) (hl:l.length<=1000000):ah Tryz.prog 184 #[yK rb] h (PR rb h (fF (ei d) l) (BX h.size)):=by
 have hlt:=hs.lt;refine ah.of func184 rfl rfl ?_;refine xr func184 rfl ?_;refine xo rfl (az.aQ H.jU) ?_;rintro _ h1 ⟨rfl,hkr,he1,hz1⟩;refine xd [0,2] rfl ?_;refine xr func184 rfl ?_;refine xp rfl (aG (H.CK _) rfl) ?_;refine xo rfl (az.aQ H.jU) ?_;rintro _ h2 ⟨rfl,hk2,he2,hz2⟩;refine RW.bB rfl rfl rfl (az.au H.cv rfl rfl hk2 (by first|rfl|(simp;done)|(simp;omega)) (by first|decide|exact of_decide_eq_true rfl|(simp;done)|(simp;omega)) (by first|decide|simp[Value.oneCell'])) ?_;rintro _ h3 ⟨rfl,hk3,hx3,hz3⟩;have hk3:bh h3 h1.size 132 (dU 1 0 (.slice none 0 0)):=hk3;have hkr:bh h1 h.size 132 (dU 0 0 (.slice none 0 0)):=hkr;have e3:aC h h3:=aC.only (he1.trans he2) hx3 (by omega);have hkr3:bh h3 h.size 132 (dU 0 0 (.slice none 0 0)):=(hkr.ax he2).ext hx3 (by show ¬_=_;omega);have hs3:St h3 rb l:=bh.ax hs e3;refine xd [0,2,3] rfl ?_;refine av rfl ?_;refine bl func184 1 rfl ?_;refine xo rfl (aq (vs:=[_]) func186 rfl H.sW rfl (ah.jv (fU hs3 hl) ((fun _ _ ⟨hc,hp,hx⟩=>dY hc (by rw[iT hp];rfl) ((aC.of e3).trans hx))))) ?_;rintro _ h4 ⟨c,r,hp,rfl,hs4,hx4⟩;obtain rfl:=fV hp;simp only[List.length_cons] at hl hd;have hkr4:=hkr3.ext hx4 (by show ¬_=_;omega);have hk4:=hk3.ext hx4 (by show ¬_=_;omega);have e4:Ext (only rb) h h4:=(aC.of e3).trans hx4;have hz4:=hx4.size;have hg4:Sg h4 lim:=hg.ext e4 (fun b (hb:b=rb)=>by omega);refine aN 1 [0,2,3,4] rfl ?_;refine bf func184 1 [0,2,3,4,8] rfl ?_;refine G.block rfl rfl ?_;refine bf func184 2 [0,2,3,4,8,13] rfl ?_
 have fin:∀(x:Nd) (w:Value) (m:By) (h':aA) (ρ':Env),Sub [(0,yK rb),(2,.pointer (some ⟨h.size,0,none⟩)),(3,.pointer (some ⟨h1.size,0,none⟩))] ρ'->bh h' h1.size 132 (dU x.kind x.set w)->bh h' h.size 132 (dU 0 0 (.slice none 0 0))->St h' rb m->cm h' (CI (h.size+1)) (dU x.kind x.set w) x->Ext (only rb) h h'->fF (ei d) (c::r)=some (x,m)->G Tryz.prog 184 f184 [.code [1,1,1]] ρ' h' (PR rb h (fF (ei d) (c::r)) (BX h.size)):=by
  rintro x w m hh ρ' hsub hkx hkrr hst hnd hee hat;refine G.sub (ρ':=[(0,yK rb),(2,.pointer (some ⟨h.size,0,none⟩)),(3,.pointer (some ⟨h1.size,0,none⟩))]) hsub ?_;refine xr func184 rfl ?_;refine xp rfl (aj.aE H.eS H.cv rfl hkx.row (by first|rfl|(simp;done)|(simp;omega))) ?_;refine RW.bB rfl rfl rfl (az.au H.cv rfl rfl hkrr (by first|rfl|(simp;done)|(simp;omega)) (by first|decide|exact of_decide_eq_true rfl|(simp;done)|(simp;omega)) (cm.one hnd)) ?_;rintro _ h9 ⟨rfl,hk9,hx9,hz9⟩;refine xd [0,2,3] rfl ?_;have hk9:bh h9 h.size 132 (dU x.kind x.set w):=hk9;refine G.br func184 rfl (.cons (aI.bp H.eS H.cv rfl (hk9.row) (by first|rfl|(simp;done)|(simp;omega))) (.nil)) ?_;exact⟨x,m,hat,⟨w,rfl,gH hnd (Nat.le_succ _) hx9 (fun b _ (hb:b=h.size)=>by omega)⟩,bh.ext hst hx9 (by show ¬_=_;omega),jz.only hee hx9 (Nat.le_refl _)⟩
 refine aM rfl rfl (fun c1=>?_) (fun c1=>?_)
 · have c1:c=40:=(dh rfl).1 c1;subst c1;refine bl func184 1 rfl ?_;refine xo rfl (aq (vs:=[_]) func94 rfl H.Kp rfl (ah.jv (ih h4 rb r hg4 hrb hs4 (by omega) (by omega)) ((fun _ _ ⟨hc,hp,hx⟩=>dY hc (by unfold fF;simp[hp]) (e4.trans hx))))) ?_;rintro _ h5 ⟨x,r5,hp5,⟨w,rfl,hnd5⟩,hs5,hx5⟩;have hk5:=hk4.ext hx5 (by show ¬_=_;omega);have hkr5:=hkr4.ext hx5 (by show ¬_=_;omega);have hr5:=ko d hp5;refine RW.bB rfl rfl rfl (az.au H.cv rfl rfl hk5 (by first|rfl|(simp;done)|(simp;omega)) (by first|decide|exact of_decide_eq_true rfl|(simp;done)|(simp;omega)) (cm.one hnd5)) ?_;rintro _ h6 ⟨rfl,hk6,hx6,hz6⟩;refine xd [0,2,3,4,8,13] rfl ?_;refine G.cz func184 rfl ?_;refine aV 1 rfl ?_;have hk6:bh h6 h1.size 132 (dU x.kind x.set w):=hk6;have hs6:St h6 rb r5:=bh.ext hs5 hx6 (by show ¬_=_;omega);have hnd6:cm h6 (CI (h.size+1)) (dU x.kind x.set w) x:=gH hnd5 (by omega) hx6 (fun b _ (hb:b=h1.size)=>by omega);have e6:=jz.only (e4.trans hx5) hx6 (by omega);refine xo rfl (aq (vs:=[_,_]) func197 rfl H.Ii rfl (ah.jv (sZ 41 hs6 (by omega)) ((fun _ _ ⟨hc,hp,hx⟩=>dY hc (by unfold fF;simp only[if_true,hp5];split;rename_i t ht;cases ht;simp at hp;rfl) (e6.trans hx))))) ?_;rintro _ h7 ⟨_,r7,hp7,_,hs7,hx7⟩;refine xd [0,2,3,4,8,13] rfl ?_;refine G.aR ?_
   have hcl:r5=41::r7:=by
    split at hp7
    · rename_i hh;cases hp7;cases r5 with|nil=>cases hh|cons a b=>simp at hh;subst hh;rfl
    · cases hp7
   subst hcl;exact fin x w r7 _ _ ⟨rfl,rfl,rfl,trivial⟩ (hk6.ext hx7 (by show ¬_=_;omega)) ((hkr5.ext hx6 (by show ¬_=_;omega)).ext hx7 (by show ¬_=_;omega)) hs7 (gH hnd6 (Nat.le_refl _) hx7 (fun b _ (hb:b=rb)=>by omega)) (e6.trans hx7) (by unfold fF;simp[hp5])
 · have c1:¬c=40:=fun e=>c1 ((dh rfl).2 e)
   refine bf func184 2 [0,2,3,4,8,13,19] rfl ?_;refine aM rfl rfl (fun c2=>?_) (fun c2=>?_)
   · have c2:c=91:=(dh rfl).1 c2;refine G.cz func184 rfl ?_;refine aV 1 rfl ?_;refine xo rfl (aq (vs:=[_]) func198 rfl H.KC rfl (ah.jv (vC hs4 (by omega)) ((fun _ _ ⟨hc,hp,hx⟩=>dY hc (by unfold fF;simp[c2,hp]) (e4.trans hx))))) ?_;rintro _ h5 ⟨x,r5,hp5,⟨w,rfl,hnd5⟩,hs5,hx5⟩;have hk5:=hk4.ext hx5 (by show ¬_=_;omega);have hkr5:=hkr4.ext hx5 (by show ¬_=_;omega);refine RW.bB rfl rfl rfl (az.au H.cv rfl rfl hk5 (by first|rfl|(simp;done)|(simp;omega)) (by first|decide|exact of_decide_eq_true rfl|(simp;done)|(simp;omega)) (cm.one hnd5)) ?_;rintro _ h6 ⟨rfl,hk6,hx6,hz6⟩;refine xd [0,2,3,4,8,13,19] rfl ?_;refine G.aR ?_;have hk6:bh h6 h1.size 132 (dU x.kind x.set w):=hk6;exact fin x w r5 _ _ ⟨rfl,rfl,rfl,trivial⟩ hk6 (hkr5.ext hx6 (by show ¬_=_;omega)) (bh.ext hs5 hx6 (by show ¬_=_;omega)) (gH hnd5 (by omega) hx6 (fun b _ (hb:b=h1.size)=>by omega)) (jz.only (e4.trans hx5) hx6 (by omega)) (by unfold fF;simp[c2,hp5])
   · have c2:¬c=91:=fun e=>c2 ((dh rfl).2 e)
     refine bf func184 2 [0,2,3,4,8,13,19,23] rfl ?_;refine aM rfl rfl (fun c3=>?_) (fun c3=>?_)
     · have c3:c=46:=(dh rfl).1 c3;refine xr func184 rfl ?_;refine xp rfl (af (off:=1) underlying132 rfl rfl H.lG rfl) ?_;refine xo rfl (aq (vs:=[_,_,_]) func199 rfl H.vT rfl (ah.bq (gO hk4 0 9))) ?_;rintro _ h5 ⟨hk5,hx5⟩;refine xd [0,2,3,4,8,13,19,23] rfl ?_;refine G.cz func184 rfl ?_;refine xp rfl (af (off:=1) underlying132 rfl rfl H.lG rfl) ?_;refine xo rfl (aq (vs:=[_,_,_]) func199 rfl H.vT rfl (ah.bq (gO hk5 11 255))) ?_;rintro _ h6 ⟨hk6,hx6⟩;refine xd [0,2,3,4,8,13,19,23] rfl ?_;refine G.aR ?_;have hx56:=hx5.trans hx6;exact fin IF (.slice none 0 0) r _ _ ⟨rfl,rfl,rfl,trivial⟩ hk6 (hkr4.ext hx56 (by show ¬_=_;omega)) (bh.ext hs4 hx56 (by show ¬_=_;omega)) (fI _ _ _ _) (jz.only e4 hx56 (by omega)) (by unfold fF;simp[c3])
     · have c3:¬c=46:=fun e=>c3 ((dh rfl).2 e)
       refine bf func184 2 [0,2,3,4,8,13,19,23,29] rfl ?_;refine aM rfl rfl (fun c4=>?_) (fun c4=>?_)
       · have c4:c=92:=(dh rfl).1 c4;refine bl func184 1 rfl ?_;refine xo rfl (aq (vs:=[_]) func200 rfl H.Ih rfl (ah.jv (nN hs4 (by omega)) ((fun _ _ ⟨hc,hp,hx⟩=>dY hc (by unfold fF;simp[c4,hp]) (e4.trans hx))))) ?_;rintro _ h5 ⟨b,r5,hp5,rfl,hs5,hx5⟩;have hk5:=hk4.ext hx5 (by show ¬_=_;omega);have hkr5:=hkr4.ext hx5 (by show ¬_=_;omega);refine aN 1 [0,2,3,4,8,13,19,23,29] rfl ?_;refine G.cz func184 rfl ?_;refine xp rfl (af (off:=1) underlying132 rfl rfl H.lG rfl) ?_;refine aV 2 rfl ?_;refine xo rfl (aq (vs:=[_,_,_]) func199 rfl H.vT rfl (ah.bq (gO hk5 b b))) ?_;rintro _ h6 ⟨hk6,hx6⟩;refine xd [0,2,3,4,8,13,19,23,29] rfl ?_;refine G.aR ?_;exact fin (yo b) (.slice none 0 0) r5 _ _ ⟨rfl,rfl,rfl,trivial⟩ hk6 (hkr5.ext hx6 (by show ¬_=_;omega)) (bh.ext hs5 hx6 (by show ¬_=_;omega)) (fI _ _ _ _) (jz.only (e4.trans hx5) hx6 (by omega)) (by unfold fF;simp[c4,hp5])
       · have c4:¬c=92:=fun e=>c4 ((dh rfl).2 e)
         refine av rfl ?_;refine bf func184 2 [0,2,3,4,8,13,19,23,29,37] rfl ?_;refine aM rfl rfl (fun d41=>?_) (fun d41=>?_)
         · have d41:c=41:=(dh rfl).1 d41;refine aB rfl ?_;refine aJ rfl rfl (fun _=>?_) (fun hc=>absurd hc (by rw[d41];decide));refine G.cz func184 rfl ?_;refine xp rfl (aG (H.gU ) rfl) ?_;refine xp rfl (bH H.kC rfl) ?_;refine RW.bB rfl rfl rfl (dI (Φ:=fun _ _=>False) rfl (dY rfl (by unfold fF;simp[d41]) e4)) ?_;rintro _ _ hpn;exact hpn.elim
         · have d41:¬c=41:=fun e=>d41 ((dh rfl).2 e)
           refine bf func184 2 [0,2,3,4,8,13,19,23,29,37] rfl ?_;refine aM rfl rfl (fun d93=>?_) (fun d93=>?_)
           · have d93:c=93:=(dh rfl).1 d93;refine aB rfl ?_;refine aJ rfl rfl (fun _=>?_) (fun hc=>absurd hc (by rw[d93];decide));refine G.cz func184 rfl ?_;refine xp rfl (aG (H.gU ) rfl) ?_;refine xp rfl (bH H.kC rfl) ?_;refine RW.bB rfl rfl rfl (dI (Φ:=fun _ _=>False) rfl (dY rfl (by unfold fF;simp[d93]) e4)) ?_;rintro _ _ hpn;exact hpn.elim
           · have d93:¬c=93:=fun e=>d93 ((dh rfl).2 e)
             refine bf func184 2 [0,2,3,4,8,13,19,23,29,37] rfl ?_;refine aM rfl rfl (fun d124=>?_) (fun d124=>?_)
             · have d124:c=124:=(dh rfl).1 d124;refine aB rfl ?_;refine aJ rfl rfl (fun _=>?_) (fun hc=>absurd hc (by rw[d124];decide));refine G.cz func184 rfl ?_;refine xp rfl (aG (H.gU ) rfl) ?_;refine xp rfl (bH H.kC rfl) ?_;refine RW.bB rfl rfl rfl (dI (Φ:=fun _ _=>False) rfl (dY rfl (by unfold fF;simp[d124]) e4)) ?_;rintro _ _ hpn;exact hpn.elim
             · have d124:¬c=124:=fun e=>d124 ((dh rfl).2 e)
               refine bf func184 2 [0,2,3,4,8,13,19,23,29,37] rfl ?_;refine aM rfl rfl (fun d42=>?_) (fun d42=>?_)
               · have d42:c=42:=(dh rfl).1 d42;refine aB rfl ?_;refine aJ rfl rfl (fun _=>?_) (fun hc=>absurd hc (by rw[d42];decide));refine G.cz func184 rfl ?_;refine xp rfl (aG (H.gU ) rfl) ?_;refine xp rfl (bH H.kC rfl) ?_;refine RW.bB rfl rfl rfl (dI (Φ:=fun _ _=>False) rfl (dY rfl (by unfold fF;simp[d42]) e4)) ?_;rintro _ _ hpn;exact hpn.elim
               · have d42:¬c=42:=fun e=>d42 ((dh rfl).2 e)
                 refine bf func184 2 [0,2,3,4,8,13,19,23,29,37] rfl ?_;refine aM rfl rfl (fun d43=>?_) (fun d43=>?_)
                 · have d43:c=43:=(dh rfl).1 d43;refine aB rfl ?_;refine aJ rfl rfl (fun _=>?_) (fun hc=>absurd hc (by rw[d43];decide));refine G.cz func184 rfl ?_;refine xp rfl (aG (H.gU ) rfl) ?_;refine xp rfl (bH H.kC rfl) ?_;refine RW.bB rfl rfl rfl (dI (Φ:=fun _ _=>False) rfl (dY rfl (by unfold fF;simp[d43]) e4)) ?_;rintro _ _ hpn;exact hpn.elim
                 · have d43:¬c=43:=fun e=>d43 ((dh rfl).2 e)
                   refine G.cz func184 rfl ?_;refine aN 2 [0,2,3,4,8,13,19,23,29,37] rfl ?_;refine aM rfl rfl (fun d63=>?_) (fun d63=>?_)
                   · have d63:c=63:=(dh rfl).1 d63;refine G.cz func184 rfl ?_;refine xp rfl (aG (H.gU ) rfl) ?_;refine xp rfl (bH H.kC rfl) ?_;refine RW.bB rfl rfl rfl (dI (Φ:=fun _ _=>False) rfl (dY rfl (by unfold fF;simp[d63]) e4)) ?_;rintro _ _ hpn;exact hpn.elim
                   · have d63:¬c=63:=fun e=>d63 ((dh rfl).2 e)
                     refine G.cz func184 rfl ?_;refine xp rfl (af (off:=1) underlying132 rfl rfl H.lG rfl) ?_;refine aV 2 rfl ?_;refine xo rfl (aq (vs:=[_,_,_]) func199 rfl H.vT rfl (ah.bq (gO hk4 c c))) ?_;rintro _ h6 ⟨hk6,hx6⟩;refine xd [0,2,3,4,8,13,19,23,29,37] rfl ?_;refine G.aR ?_;exact fin (yo c) (.slice none 0 0) r _ _ ⟨rfl,rfl,rfl,trivial⟩ hk6 (hkr4.ext hx6 (by show ¬_=_;omega)) (bh.ext hs4 hx6 (by show ¬_=_;omega)) (fI _ _ _ _) (jz.only e4 hx6 (by omega)) (by unfold fF;simp[c1,c2,c3,c4,d41,d93,d124,d42,d43,d63])
theorem wZ {ρ:Env}{dst:Option Nat}{ty:TypeId}{pos:String}{after:Array Edge}{guard:Option (Nat×Bool)}{x y:Operand}{l:List (Int×Int)}
 (hx:bW ρ x=some (.map (some m))) (hy:bW ρ y=some (.int .u8 (c.toNat:Nat))) (hm:fJ (Value.int .u8) (Value.int .i64) h m l) (hv:∀c:UInt8,((kJ (c.toNat:Int) l).map (Value.int .i64)).getD (Value.int .i64 0)=Value.int .i64 (dJ c:Nat)) :
 aj Tryz.prog ⟨dst,.lookup 283 x y false,ty,pos,after,guard⟩ ρ h (.int .i64 (dJ c:Nat)):=by
 have:=aj.lookup (P:=Tryz.prog) (ρ:=ρ) (h:=h) (dst:=dst) (ty:=ty) (pos:=pos) (after:=after) (guard:=guard) (js.int .u8) underlying283 underlying5 (z:=.int .i64 0) (et:=3) (by kernel_rfl) hx hy rfl hm
 rwa [hv c] at this
theorem zB (h:0<dJ c):eY x (c::r)=eY (.mk (dJ c) 0 [x]) r:=by
 rw[eY,if_neg (by omega)]
theorem zA {m:By}(h:dJ (m.head?.getD 0)=0):eY x m=(x,m):=by
 cases m with
 |nil=>rfl
 |cons c r=>rw[eY,if_pos (by simpa using h)]
theorem zM (ih:uR d lim) (hg:Sg h lim) (hrb:lim<=rb) (hs:St h rb l) (hd:l.length<=d) (hl:l.length<=1000000):ah Tryz.prog 169 #[yK rb] h (PR rb h (fX (ei d) l) (BX h.size)):=by
 have hlt:=hs.lt;refine ah.of func169 rfl rfl ?_;refine xr func169 rfl ?_;refine xo rfl (az.aQ H.jU) ?_;rintro _ h1 ⟨rfl,hkr,he1,hz1⟩;refine xd [0,2] rfl ?_;refine bl func169 1 rfl ?_;refine xo rfl (aq (vs:=[_]) func184 rfl H.KG rfl (ah.jv (BV ih (hg.ext he1 (fun _ k=>k.elim)) hrb (bh.ax hs he1) hd hl) ((fun _ _ ⟨hc,hp,hx⟩=>dY hc (by unfold fX;rw[hp];rfl) ((aC.of he1).trans hx))))) ?_;rintro _ h2 ⟨x0,m0,hp0,⟨w0,rfl,hnd2⟩,hs2,hx2⟩;refine xo rfl (az.aQ H.jU) ?_;rintro _ h3 ⟨rfl,hk3,he3,hz3⟩;refine RW.bB rfl rfl rfl (az.au H.cv rfl rfl hk3 (by first|rfl|(simp;done)|(simp;omega)) (by first|decide|exact of_decide_eq_true rfl|(simp;done)|(simp;omega)) (cm.one hnd2)) ?_;rintro _ h4 ⟨rfl,hk4,hx4,hz4⟩;have hz2:=hx2.size;have hkr:bh h1 h.size 132 (dU 0 0 (.slice none 0 0)):=hkr;have hk4:bh h4 h2.size 132 (dU x0.kind x0.set w0):=hk4;have e2:Ext (only rb) h h2:=(aC.of he1).trans hx2;have hkr2:=hkr.ext hx2 (by show ¬_=_;omega);have e24:aC h2 h4:=aC.only he3 hx4 (Nat.le_refl _);have hnd4:cm h4 (fun b=>b<h.size+1\/b=h2.size) (dU x0.kind x0.set w0) x0:=hnd2.mv (Mv.cY e24 fun b hb hn=>⟨fun k=>k,fun k=>by have:¬b<h1.size:=hn;omega⟩);have hm0:=wD (fun h=>ko d h) hp0;have hpc:fX (ei d) l=some (eY x0 m0):=by unfold fX;rw[hp0];rfl
 generalize htg:eY x0 m0=tgt at hpc;generalize hnb:h2.size=nb at hk4 hnd4 hs2;have hnb1:h.size+1<=nb:=by omega
 refine xd [0,2,3] rfl ?_;refine av rfl ?_;refine G.block rfl rfl ?_;refine bO (σ:=Nd×Value×By) (fun q=>[(0,yK rb),(2,.pointer (some ⟨h.size,0,none⟩)),(3,.pointer (some ⟨nb,0,none⟩))]) (fun q h'=>St h' rb q.2.2/\bh h' nb 132 (dU q.1.kind q.1.set q.2.1)/\bh h' h.size 132 (dU 0 0 (.slice none 0 0))/\Ext (only rb) h h'/\cm h' (fun b=>b<h.size+1\/b=nb) (dU q.1.kind q.1.set q.2.1) q.1/\q.2.2.length<=1000000/\eY q.1 q.2.2=tgt) (fun q=>q.2.2.length) ((x0,w0,m0)) rfl ⟨rfl,rfl,rfl,trivial⟩ ⟨bh.ax hs2 e24,hk4,hkr2.ax e24,jz.ax e2 e24,hnd4,by show m0.length<=_;omega,htg⟩ ?_;rintro⟨x,w,m⟩ h5 ⟨hs5,hk5,hkr5,e5,hnd5,hm,hsg⟩ ih
 try dsimp only
 dsimp only at hs5 hk5 hnd5 hm hsg;have hg5:Sg h5 lim:=hg.ext e5 (fun b (hb:b=rb)=>by omega);obtain⟨mp,hm1,hm2,hcell,lm,hmap,hval⟩:=hg5;refine av rfl ?_;refine av rfl ?_;refine G.gF func169 H.mixed rfl (by kernel_rfl) ?_;refine RQ.ay rfl rfl rfl rfl (ai H.IN rfl hcell) ?_;refine RQ.ay rfl rfl rfl rfl (aP rfl) ?_;refine RQ.IG (vs:=[_]) rfl rfl rfl rfl rfl func185 rfl H.Ij rfl (sY hs5) ?_;refine RQ.ay rfl rfl rfl rfl (wZ rfl rfl hmap hval) ?_;refine RQ.ay rfl rfl rfl rfl (CQ rfl rfl) ?_;refine dw rfl ?_;refine xu [0,2,3,10] rfl ?_;refine aM rfl rfl (fun hgo=>?_) (fun hgo=>?_)
 · have hgo:0<dJ (m.head?.getD 0):=by omega
   obtain⟨c,r,rfl⟩:=List.exists_cons_of_ne_nil (fun(e:m=[])=>by rw[e] at hgo;revert hgo;decide);have hgo:0<dJ c:=hgo;rw[zB hgo] at hsg;simp only[List.length_cons] at hm;have hlt5:=hk5.lt;have hltr:=hkr5.lt
   have hn1:¬((⟨10,0,none⟩:Addr).block=rb\/Array.size h5<=(⟨10,0,none⟩:Addr).block):=by
    show ¬(10=rb\/Array.size h5<=10);omega
   have hn2:¬(nb=rb\/Array.size h5<=nb):=by omega
   have hn3:¬(mp=rb\/Array.size h5<=mp):=by omega
   have hO5:¬(h5.size<h.size+1\/h5.size=nb):=by have:=hkr5.lt;omega
   refine aB rfl ?_;refine G.block rfl rfl ?_;refine bQ (fun b=>b=rb\/Array.size h5<=b) (fun i=>Nat.blt i 7) (sz:=8) (listed:= #[false,false,false,false,false,false,false,false]) func169 H.mixed rfl rfl rfl ?_;refine bP 0 1 (by kernel_rfl) rfl (fun h' e=>ai H.IN rfl (e.cell hn1 hcell)) ?_;refine cu 1 3 (by kernel_rfl) rfl ?_;refine bP 4 19 (by kernel_rfl) rfl (fun h' e=>aj.aE H.eS H.cv rfl (e.rowAt hn2 hk5.row) (by first|rfl|(simp;done)|(simp;omega))) ?_;refine RD.J4 2 5 (li:= #[true,true,true,false,true,false,false,false]) (lj:= #[true,true,false,false,true,true,false,false]) rfl rfl (by kernel_rfl) rfl rfl rfl rfl rfl rfl (aq (vs:=[_]) func186 rfl H.sW rfl (ah.jv (fU hs5 (by simp only[List.length_cons];omega)) ((fun _ _ ⟨_,hp,_⟩=>by cases hp)))) (az.cE (cs:=[_,_,_,_,_,_]) underlying130 H.um rfl rfl (by decide)) (by kernel_rfl) (by kernel_rfl) ?_ ?_
   · rintro _ h6 ⟨_,_,hp6,rfl,hs6,hx6⟩;refine⟨fun _=>hx6.mono (fun _ _ k=>.inl k),?_⟩;cases hp6;have hmap6:=hmap.ext hx6 (by show ¬_=_;omega);have hz6:=hx6.size;have hk6:=hk5.ext hx6 (by show ¬_=_;omega);have hnd6:cm h6 (fun b=>b<h.size+1\/b=nb) (dU x.kind x.set w) x:=hnd5.mv (Mv.cY hx6 fun b hb hn=>⟨fun(k:b=rb)=>hn (.inl (by omega)),hn⟩);refine bP 3 31 (by kernel_rfl) rfl (fun h' e=>wZ rfl rfl (hmap6.ext e hn3) hval) ?_;refine dZ 5 63 (by kernel_rfl) rfl (az.cE (cs:=[_,_,_,_,_,_]) underlying130 H.um rfl rfl (by decide)) ?_;rintro _ _ ⟨rfl,rfl⟩;refine⟨fun _=>by first|exact Ext.push _ _ _|assumption,?_⟩;refine bP 6 127 (by kernel_rfl) rfl (fun h' e=>aG (H.qB _ _ _ _) rfl) ?_;have hsl:=bX.nH (e:=ry) (t:=132) hnd6 (show ¬(h6.size<h.size+1\/h6.size=nb) by omega);have ep:=Ext.push (fun _=>False) h6 (.cells (dU x.kind x.set w).toArray 132);have hk7:=hk6.ax ep;have hs7:St _ rb r:=bh.ax hs6 ep;have hkr7:=(hkr5.ext hx6 (by show ¬_=_;omega)).ax ep;have e7:=jz.ax (e5.trans hx6) ep;refine jG 7 255 (by kernel_rfl) rfl (az.au H.cv rfl rfl hk7 (by first|rfl|(simp;done)|(simp;omega)) (by first|decide|exact of_decide_eq_true rfl|(simp;done)|(simp;omega)) (cm.one (cm.of (dJ c) 0 hsl))) ?_;rintro _ h8 ⟨rfl,hk8,hx8,hz8⟩;refine⟨fun hk=>(nomatch hk),?_⟩;refine bu (by kernel_rfl) ?_;refine xu [0,2,3,10] rfl ?_;refine G.aR ?_;have hk8:bh h8 nb 132 (dU (dJ c) 0 (.slice (some ⟨h6.size,0,none⟩) 1 1)):=hk8;exact ih (.mk (dJ c) 0 [x],.slice (some ⟨h6.size,0,none⟩) 1 1,r) _ _ ⟨rfl,rfl,rfl,trivial⟩ ⟨bh.ext hs7 hx8 (by show ¬_=_;omega),hk8,hkr7.ext hx8 (by show ¬_=_;omega),jz.only e7 hx8 (by omega),(cm.of (dJ c) 0 hsl).mv (Mv.cY hx8 fun b hb hn=>⟨fun(k:b=nb)=>hn (.inr k),hn⟩),by show r.length<=_;omega,hsg⟩ (by show r.length<(c::r).length;simp)
   · rintro _ _ ⟨rfl,rfl⟩;refine⟨fun _=>by first|exact Ext.push _ _ _|assumption,?_⟩;have hsl:=bX.nH (e:=ry) (t:=132) hnd5 hO5;have ep:=Ext.push (fun _=>False) h5 (.cells (dU x.kind x.set w).toArray 132);refine dZ 2 55 (by kernel_rfl) rfl (aq (vs:=[_]) func186 rfl H.sW rfl (ah.jv (fU (bh.ax hs5 ep) (by simp only[List.length_cons];omega)) ((fun _ _ ⟨_,hp,_⟩=>by cases hp)))) ?_;rintro _ h6 ⟨_,_,hp6,rfl,hs6,hx6⟩;refine⟨fun _=>hx6.mono (fun _ _ k=>.inl k),?_⟩;cases hp6;have hmap6:=(hmap.ext ep (fun k=>k)).ext hx6 (by show ¬_=_;omega);have hz6:=hx6.size;have hzp:(h5.push (.cells (dU x.kind x.set w).toArray 132)).size=h5.size+1:=by simp
     have hk6:=(hk5.ax ep).ext hx6 (by show ¬_=_;omega);have hkr6:=(hkr5.ax ep).ext hx6 (by show ¬_=_;omega);have hn4:¬(mp=rb\/Array.size h5<=mp):=hn3;refine bP 3 63 (by kernel_rfl) rfl (fun h' e=>wZ rfl rfl (hmap6.ext e hn4) hval) ?_;refine bP 6 127 (by kernel_rfl) rfl (fun h' e=>aG (H.qB _ _ _ _) rfl) ?_;have hsl6:bX ry h6 (fun b=>b<h.size+1\/b=nb) (.slice (some ⟨h5.size,0,none⟩) 1 1) [x]:=hsl.mv (Mv.cY hx6 fun b hb hn=>⟨fun(k:b=rb)=>hn (.inl (by omega)),hn⟩);refine jG 7 255 (by kernel_rfl) rfl (az.au H.cv rfl rfl hk6 (by first|rfl|(simp;done)|(simp;omega)) (by first|decide|exact of_decide_eq_true rfl|(simp;done)|(simp;omega)) (cm.one (cm.of (dJ c) 0 hsl6))) ?_;rintro _ h8 ⟨rfl,hk8,hx8,hz8⟩;refine⟨fun hk=>(nomatch hk),?_⟩;refine bu (by kernel_rfl) ?_;refine xu [0,2,3,10] rfl ?_;refine G.aR ?_;have hk8:bh h8 nb 132 (dU (dJ c) 0 (.slice (some ⟨h5.size,0,none⟩) 1 1)):=hk8;exact ih (.mk (dJ c) 0 [x],.slice (some ⟨h5.size,0,none⟩) 1 1,r) _ _ ⟨rfl,rfl,rfl,trivial⟩ ⟨bh.ext hs6 hx8 (by show ¬_=_;omega),hk8,hkr6.ext hx8 (by show ¬_=_;omega),jz.only ((jz.ax e5 ep).trans hx6) hx8 (by omega),(cm.of (dJ c) 0 hsl6).mv (Mv.cY hx8 fun b hb hn=>⟨fun(k:b=nb)=>hn (.inr k),hn⟩),by show r.length<=_;omega,hsg⟩ (by show r.length<(c::r).length;simp)
 · rw[zA (by omega)] at hsg;refine bD rfl rfl ?_;refine xr func169 rfl ?_;refine xp rfl (aj.aE H.eS H.cv rfl hk5.row (by first|rfl|(simp;done)|(simp;omega))) ?_;refine RW.bB rfl rfl rfl (az.au H.cv rfl rfl hkr5 (by first|rfl|(simp;done)|(simp;omega)) (by first|decide|exact of_decide_eq_true rfl|(simp;done)|(simp;omega)) (cm.one hnd5)) ?_;rintro _ h6 ⟨rfl,hk6,hx6,hz6⟩;refine xd [0,2,3,10] rfl ?_;have hk6:bh h6 h.size 132 (dU x.kind x.set w):=hk6;refine G.br func169 rfl (.cons (aI.bp H.eS H.cv rfl (hk6.row) (by first|rfl|(simp;done)|(simp;omega))) (.nil)) ?_;exact⟨x,m,by rw[hpc,<-hsg],⟨w,rfl,hnd5.mv (Mv.cY hx6 fun b hb hn=>⟨fun(k:b=h.size)=>hn (.inl (by omega)),fun(k:b<h.size)=>hn (.inl (by omega))⟩)⟩,bh.ext hs5 hx6 (by show ¬_=_;omega),jz.only e5 hx6 (Nat.le_refl _)⟩
theorem vP (ih:uR d lim) (hg:Sg h lim) (hrb:lim<=rb) (hs:St h rb l) (hd:l.length<=d) (hl:l.length<=1000000):ah Tryz.prog 137 #[yK rb] h (PR rb h (xj (ei d) l) (BX h.size)):=by
 have hlt:=hs.lt;have hrl:∀{s x r},ei d s=some (x,r)->r.length<=s.length:=fun h=>ko d h
 refine ah.of func137 rfl rfl ?_;refine xr func137 rfl ?_;refine xo rfl (az.aQ H.jU) ?_;rintro _ h1 ⟨rfl,hkr,he1,hz1⟩;refine xd [0,2] rfl ?_;refine bf func137 1 [0,2,3] rfl ?_;refine av rfl ?_;refine G.block rfl rfl ?_;have hkr:bh h1 h.size 132 (dU 0 0 (.slice none 0 0)):=hkr;generalize htg:lV (ei d) (l.length+1) l=tgt;have hrow:xj (ei d) l=tgt.map fun p=>(cG 2 p.1,p.2):=by unfold xj;rw[htg]
 have htg0:tgt.map (fun p=>(([]:List Nd)++p.1,p.2))=tgt:=by cases tgt<;>rfl
 refine bO (σ:=List Nd×Value×By) (fun q=>[(0,yK rb),(2,.pointer (some ⟨h.size,0,none⟩)),(3,q.2.1)]) (fun q h'=>St h' rb q.2.2/\dx ry (CI h1.size) h' h1.size 132 q.2.1 q.1/\bh h' h.size 132 (dU 0 0 (.slice none 0 0))/\Ext (only rb) h h'/\q.2.2.length+q.1.length<=l.length/\(lV (ei d) (q.2.2.length+1) q.2.2).map (fun p=>(q.1++p.1,p.2))=tgt) (fun q=>q.2.2.length) (([],.slice none 0 0,l)) rfl ⟨rfl,rfl,rfl,trivial⟩ ⟨bh.ax hs he1,dx.nil _ _ _ _ _,hkr,aC.of he1,by show l.length+0<=_;omega,by rw[htg];exact htg0⟩ ?_;rintro⟨acc,v,m⟩ h5 ⟨hs5,hv5,hkr5,e5,hm,hcon⟩ ih'
 try dsimp only
 dsimp only at hs5 hv5 hm hcon;refine av rfl ?_;refine av rfl ?_;refine G.bw [(24,.bool (!jK m))] [(0,_),(2,_),(3,_)] ⟨rfl,rfl,rfl,trivial⟩ func137 rfl ?_ ?_
 · refine cI 2 rfl rfl (af (off:=0) underlying196 rfl rfl H.eG rfl) ?_;refine xp rfl (ai H.fu rfl hs5.cell) ?_;refine xp rfl (aj.n8 rfl rfl) ?_;refine aV 1 rfl ?_;refine aL (d:=9) rfl (fun he=>?_) (fun he=>?_)
   · have hne:¬bs m=⟨#[]⟩:=of_decide_eq_true he;obtain⟨c,r,rfl⟩:=List.exists_cons_of_ne_nil (fun(e:m=[])=>hne (by rw[e];rfl));refine cI 2 rfl rfl (af (off:=0) underlying196 rfl rfl H.eG rfl) ?_;refine xp rfl (ai H.fu rfl hs5.cell) ?_;refine xp rfl (aj.dy underlying9 rfl rfl 0 rfl (iD rfl)) ?_;refine aV 3 rfl ?_;refine aL (d:=17) rfl (fun h124=>?_) (fun h124=>?_)
     · have h124:¬c=124:=fun e=>(of_decide_eq_true h124) ((dh rfl).2 e)
       refine cI 2 rfl rfl (af (off:=0) underlying196 rfl rfl H.eG rfl) ?_;refine xp rfl (ai H.fu rfl hs5.cell) ?_;refine xp rfl (aj.dy underlying9 rfl rfl 0 rfl (iD rfl)) ?_;refine aV 2 rfl ?_;refine aD rfl ?_;exact⟨rfl,aF rfl (by simp only[jK];rw[show (c ==124)=false by simpa using h124,Bool.false_or,show (c ==41)=decide (c=41) by rw[Bool.eq_iff_iff];simp,<-decide_not];exact decide_eq_decide.2 (not_congr (dh rfl))),rfl,rfl,rfl,trivial⟩
     · have h124:c=124:=(dh rfl).1 (Classical.not_not.1 (of_decide_eq_false h124));refine aV 7 rfl ?_;refine aD rfl ?_;exact⟨rfl,aF rfl (by simp[jK,h124]),rfl,rfl,rfl,trivial⟩
   · have hne:bs m=⟨#[]⟩:=Classical.not_not.1 (of_decide_eq_false he);obtain rfl:m=[]:=bZ hne;refine aV 15 rfl ?_;refine aD rfl ?_;exact⟨rfl,aF rfl (by rfl),rfl,rfl,rfl,trivial⟩
 · obtain⟨css,hc1,hc2,hc3⟩:=id hv5;have hlt5:=hkr5.lt;have hz5:=e5.size;refine aJ rfl rfl (fun hgo=>?_) (fun hgo=>?_)
   · have hend:jK m=false:=by simpa using hgo
     have hcon':tgt=(match fX (ei d) m with|none=>none|some (x,r)=>((lV (ei d) (r.length+1) r).map fun p=>(x::p.1,p.2)).map (fun p=>(acc++p.1,p.2))):=by
      rw[<-hcon,lV,if_neg (by rw[hend];decide)];cases hp:fX (ei d) m with
      |none=>rfl
      |some q =>
       obtain⟨x,r⟩:=q;have:=fW hrl hp;simp only;rw[vQ hrl m.length (r.length+1) r (by omega) (by omega)]
     refine aB rfl ?_;refine G.block rfl rfl ?_;refine G.cz func137 rfl ?_;refine aV 2 rfl ?_;refine xo rfl (aq (vs:=[_]) func169 rfl H.KJ rfl (ah.jv (zM ih (hg.ext e5 (fun b (hb:b=rb)=>by omega)) hrb hs5 (by omega) (by omega)) ((fun _ _ ⟨hc,hp,hx⟩=>dY hc (by rw[hrow,hcon',hp];rfl) (e5.trans hx))))) ?_;rintro _ h6 ⟨x,r,hp,⟨w,rfl,hnd6⟩,hs6,hx6⟩;have hr6:=fW hrl hp;have hz6:=hx6.size;have hown:∀b,v.ownBlock=some b->h1.size<=b/\b<h5.size:=fun b hb=>hc2.lt hb
     have hc26:=hc2.ext hx6 (fun b hb (k:b=rb)=>by have:=hown b hb;omega);have hc36:∀(i:Nat) (cs:List Value) (x:Nd),css[i]? =some cs->acc[i]? =some x->ry.R h6 (fun b=>cV v.ownBlock b\/b<h1.size) cs x:=fun i cs x h1' h2'=>ry.mv (hc3 i cs x h1' h2') (Mv.cY hx6 fun b hb hn=>⟨fun(k:b=rb)=>hn (.inr (by show b<_;omega)),hn⟩)
     have hnd6':ry.R h6 (fun b=>cV v.ownBlock b\/b<h1.size) (dU x.kind x.set w) x:=cm.mv hnd6 ⟨Nat.le_refl _,fun b hb hn=>⟨rfl,fun k=>by
      have hn:¬b<h5.size:=hn
      rcases k with k|k
      · have:=hown b k.symm;omega
      · omega⟩⟩
     refine xo rfl (az.cE (cs:=[_,_,_,_,_,_]) underlying130 H.um rfl rfl (by decide)) ?_;rintro _ _ ⟨rfl,rfl⟩;refine xo rfl (az.bU underlying130 H.um rfl rfl (hc26) rfl rfl (cm.one hnd6) (by omega) (by decide) (by omega)) ?_;rintro v7 h7 ⟨ho7,hx7,-,hv7⟩;refine aN 1 [0,2,3,24] rfl ?_;refine G.aR ?_;have hrb7:¬cV v.ownBlock rb:=fun k=>by have:=hown rb k.symm;omega
     have hr7:¬cV v.ownBlock h.size:=fun k=>by have:=hown _ k.symm;omega
     have e7:Ext (only rb) h h7:=⟨by have:=hx7.size;omega,fun b hb hn=>by rw[hx7.block b (by omega) (fun k=>by have:=hown b k.symm;omega)];exact(e5.trans hx6).block b hb hn⟩
     rw[hp] at hcon';exact ih' (acc++[x],v7,r) _ _ ⟨rfl,rfl,rfl,trivial⟩ ⟨bh.ext hs6 hx7 hrb7,dx.gz hc1 hc36 ho7 hx7 hv7 hnd6',(hkr5.ext hx6 (by show ¬_=_;omega)).ext hx7 hr7,e7,by show r.length+(acc++[x]).length<=_;rw[List.length_append,List.length_singleton];omega,by rw[hcon'];simp only[Option.map_map];congr 1;funext p;simp⟩ (by show r.length<m.length;omega)
   · have hend:jK m=true:=by simpa using hgo
     rw[lV,if_pos hend] at hcon;have hsl:bX ry h5 (CI h1.size) v acc:=hv5.read (fun b hb (k:b<h1.size)=>by omega) (fun b _ k=>k);refine bD rfl rfl ?_;refine bl func137 1 rfl ?_;refine xo rfl (aq (vs:=[_,_]) func139 rfl H.Im rfl (ah.bq (pH 2 hsl))) ?_;rintro _ h6 ⟨⟨w,rfl,hnd6⟩,he6⟩;refine RW.bB rfl rfl rfl (az.au H.cv rfl rfl (hkr5.ax he6) (by first|rfl|(simp;done)|(simp;omega)) (by first|decide|exact of_decide_eq_true rfl|(simp;done)|(simp;omega)) (cm.one hnd6)) ?_;rintro _ h7 ⟨rfl,hk7,hx7,hz7⟩;refine xd [0,2,3,24] rfl ?_;have hk7:bh h7 h.size 132 (dU (cG 2 acc).kind (cG 2 acc).set w):=hk7;have hz6:=he6.size;refine G.br func137 rfl (.cons (aI.bp H.eS H.cv rfl (hk7.row) (by first|rfl|(simp;done)|(simp;omega))) (.nil)) ?_;exact⟨cG 2 acc,m,by rw[hrow,<-hcon];simp,⟨w,rfl,gH hnd6 (by omega) hx7 (fun b _ (hb:b=h.size)=>by omega)⟩,bh.ext (bh.ax hs5 he6) hx7 (by show ¬_=_;omega),jz.only (jz.ax e5 he6) hx7 (Nat.le_refl _)⟩
theorem Dc (ih:uR d lim) (hg:Sg h lim) (hrb:lim<=rb) (hs:St h rb l) (hd:l.length<=d) (hl:l.length<=1000000):ah Tryz.prog 94 #[yK rb] h (PR rb h (ei (d+1) l) (BX h.size)):=by
 have hlt:=hs.lt;have hrl:∀{s x r},ei d s=some (x,r)->r.length<=s.length:=fun h=>ko d h
 have hrows:ei (d+1) l=match xj (ei d) l with|none=>none|some (x,r)=>rF (ei d) [x] r:=sO hrl [] l
 refine ah.of func94 rfl rfl ?_;refine xr func94 rfl ?_;refine xo rfl (az.aQ H.jU) ?_;rintro _ h1 ⟨rfl,hkr,he1,hz1⟩;refine xd [0,2] rfl ?_;refine bl func94 1 rfl ?_;refine xo rfl (aq (vs:=[_]) func137 rfl H.Io rfl (ah.jv (vP ih (hg.ext he1 (fun _ k=>k.elim)) hrb (bh.ax hs he1) hd hl) ((fun _ _ ⟨hc,hp,hx⟩=>dY hc (by rw[hrows,hp]) ((aC.of he1).trans hx))))) ?_;rintro _ h2 ⟨x0,m0,hp0,⟨w0,rfl,hnd2⟩,hs2,hx2⟩;have hkr:bh h1 h.size 132 (dU 0 0 (.slice none 0 0)):=hkr;have hz2:=hx2.size;have hm0:=zH hrl hp0;have ep:=Ext.push (fun _=>False) h2 (.cells (dU x0.kind x0.set w0).toArray 132);have hv0:dx ry (CI h1.size) (h2.push (.cells (dU x0.kind x0.set w0).toArray 132)) h1.size 132 (.slice (some ⟨h2.size,0,none⟩) 1 1) [x0]:=dx.nH (e:=ry) hnd2 hz2;have hs3:St _ rb m0:=bh.ax hs2 ep;have hkr3:=(hkr.ext hx2 (by show ¬_=_;omega)).ax ep;have e3:=jz.ax ((aC.of he1).trans hx2) ep;rw[hp0] at hrows;simp only at hrows;generalize htg:rF (ei d) [x0] m0=tgt at hrows;refine xo rfl (az.cE (cs:=[_,_,_,_,_,_]) underlying130 H.um rfl rfl (by decide)) ?_;rintro _ _ ⟨rfl,rfl⟩;refine aN 1 [0,2,3] rfl ?_;refine av rfl ?_;refine G.block rfl rfl ?_;refine bO (σ:=List Nd×Value×By) (fun q=>[(0,yK rb),(2,.pointer (some ⟨h.size,0,none⟩)),(3,q.2.1)]) (fun q h'=>St h' rb q.2.2/\dx ry (CI h1.size) h' h1.size 132 q.2.1 q.1/\bh h' h.size 132 (dU 0 0 (.slice none 0 0))/\Ext (only rb) h h'/\(q.2.2.length<=l.length/\q.2.2.length+q.1.length<=l.length+1)/\rF (ei d) q.1 q.2.2=tgt) (fun q=>q.2.2.length) (([x0],.slice (some ⟨h2.size,0,none⟩) 1 1,m0)) rfl ⟨rfl,rfl,rfl,trivial⟩ ⟨hs3,hv0,hkr3,e3,⟨by show m0.length<=_;omega,by show m0.length+1<=_;omega⟩,htg⟩ ?_;rintro⟨acc,v,m⟩ h5 ⟨hs5,hv5,hkr5,e5,⟨hml,hm⟩,hcon⟩ ih'
 try dsimp only
 dsimp only at hs5 hv5 hml hm hcon;refine av rfl ?_;refine bl func94 1 rfl ?_;refine xo rfl (aq (vs:=[_,_]) func138 rfl H.Cr rfl (ah.bq (kO 124 hs5 (by omega)))) ?_;rintro _ h6 ⟨hor,hx6⟩;refine xd [0,2,3,8] rfl ?_;have hlt5:=hkr5.lt;have hz5:=e5.size;have hz6:=hx6.size;have hkr6:=hkr5.ext hx6 (by show ¬_=_;omega);have e6:=e5.trans hx6;have hv6:dx ry (CI h1.size) h6 h1.size 132 v acc:=hv5.mv (hx6.mono fun b _ (k:b=rb)=>(by omega:b<h1.size)) (fun b hb (k:b<h1.size)=>by omega) (fun b _ k=>k);obtain⟨css,hc1,hc2,hc3⟩:=id hv6
 rcases hor with ⟨a1,rfl,hs6⟩|⟨a1,rfl,hs6⟩
 · obtain⟨c,t,rfl⟩:=List.exists_cons_of_ne_nil (fun(e:m=[])=>by rw[e] at a1;cases a1);have hs6:St h6 rb t:=hs6;simp only[List.length_cons] at hm hml
   have hcon':tgt=match xj (ei d) t with|none=>none|some (x,r)=>rF (ei d) (acc++[x]) r:=by
    have hG:=sO (rows:=ei d) hrl acc t;rw[<-hcon];refine Eq.trans ?_ hG;unfold rF;rw[if_pos a1];rfl
   refine aJ rfl rfl (fun _=>?_) (fun hc=>absurd hc (by decide));refine aB rfl ?_;refine G.block rfl rfl ?_;refine G.cz func94 rfl ?_;refine aV 2 rfl ?_;refine xo rfl (aq (vs:=[_]) func137 rfl H.Io rfl (ah.jv (vP ih (hg.ext e6 (fun b (hb:b=rb)=>by omega)) hrb hs6 (by omega) (by omega)) ((fun _ _ ⟨hc,hp,hx⟩=>dY hc (by rw[hrows,hcon',hp]) (e6.trans hx))))) ?_;rintro _ h7 ⟨x,r,hp,⟨w,rfl,hnd7⟩,hs7,hx7⟩;have hr7:=zH hrl hp;have hz7:=hx7.size;have hown:∀b,v.ownBlock=some b->h1.size<=b/\b<h6.size:=fun b hb=>hc2.lt hb
   have hc27:=hc2.ext hx7 (fun b hb (k:b=rb)=>by have:=hown b hb;omega);have hc37:∀(i:Nat) (cs:List Value) (x:Nd),css[i]? =some cs->acc[i]? =some x->ry.R h7 (fun b=>cV v.ownBlock b\/b<h1.size) cs x:=fun i cs x h1' h2'=>ry.mv (hc3 i cs x h1' h2') (Mv.cY hx7 fun b hb hn=>⟨fun(k:b=rb)=>hn (.inr (by show b<_;omega)),hn⟩)
   have hnd7':ry.R h7 (fun b=>cV v.ownBlock b\/b<h1.size) (dU x.kind x.set w) x:=cm.mv hnd7 ⟨Nat.le_refl _,fun b hb hn=>⟨rfl,fun k=>by
    have hn:¬b<h6.size:=hn
    rcases k with k|k
    · have:=hown b k.symm;omega
    · omega⟩⟩
   refine xo rfl (az.cE (cs:=[_,_,_,_,_,_]) underlying130 H.um rfl rfl (by decide)) ?_;rintro _ _ ⟨rfl,rfl⟩;refine xo rfl (az.bU underlying130 H.um rfl rfl (hc27) rfl rfl (cm.one hnd7) (by omega) (by decide) (by omega)) ?_;rintro v8 h8 ⟨ho8,hx8,-,hv8⟩;refine aN 1 [0,2,3,8] rfl ?_;refine G.aR ?_;have hrb8:¬cV v.ownBlock rb:=fun k=>by have:=hown rb k.symm;omega
   have hr8:¬cV v.ownBlock h.size:=fun k=>by have:=hown _ k.symm;omega
   have e8:Ext (only rb) h h8:=⟨by have:=hx8.size;omega,fun b hb hn=>by rw[hx8.block b (by omega) (fun k=>by have:=hown b k.symm;omega)];exact(e6.trans hx7).block b hb hn⟩
   rw[hp] at hcon';exact ih' (acc++[x],v8,r) _ _ ⟨rfl,rfl,rfl,trivial⟩ ⟨bh.ext hs7 hx8 hrb8,dx.gz hc1 hc37 ho8 hx8 hv8 hnd7',(hkr6.ext hx7 (by show ¬_=_;omega)).ext hx8 hr8,e8,⟨by show r.length<=_;omega,by show r.length+(acc++[x]).length<=_;rw[List.length_append,List.length_singleton];omega⟩,hcon'.symm⟩ (by show r.length<(c::t).length;simp only[List.length_cons];omega)
 · refine aJ rfl rfl (fun hc=>absurd hc (by decide)) (fun _=>?_);have hsl:bX ry h6 (CI h1.size) v acc:=hv6.read (fun b hb (k:b<h1.size)=>by omega) (fun b _ k=>k);have hfin:tgt=some (cG 3 acc,m):=by rw[<-hcon];unfold rF;rw[if_neg a1]
   refine bD rfl rfl ?_;refine bl func94 1 rfl ?_;refine xo rfl (aq (vs:=[_,_]) func139 rfl H.Im rfl (ah.bq (pH 3 hsl))) ?_;rintro _ h7 ⟨⟨w,rfl,hnd7⟩,he7⟩;refine RW.bB rfl rfl rfl (az.au H.cv rfl rfl (hkr6.ax he7) (by first|rfl|(simp;done)|(simp;omega)) (by first|decide|exact of_decide_eq_true rfl|(simp;done)|(simp;omega)) (cm.one hnd7)) ?_;rintro _ h8 ⟨rfl,hk8,hx8,hz8⟩;refine xd [0,2,3,8] rfl ?_;have hk8:bh h8 h.size 132 (dU (cG 3 acc).kind (cG 3 acc).set w):=hk8;have hz7:=he7.size;refine G.br func94 rfl (.cons (aI.bp H.eS H.cv rfl (hk8.row) (by first|rfl|(simp;done)|(simp;omega))) (.nil)) ?_;exact⟨cG 3 acc,m,by rw[hrows,hfin],⟨w,rfl,gH hnd7 (by omega) hx8 (fun b _ (hb:b=h.size)=>by omega)⟩,bh.ext (bh.ax hs6 he7) hx8 (by show ¬_=_;omega),jz.only (jz.ax e6 he7) hx8 (Nat.le_refl _)⟩
theorem Ci (lim:Nat):∀d,uR d lim
 | 0=>fun _ _ l _ _ _ h _=>absurd h (Nat.not_lt_zero _)
 |d+1=>fun _ _ _ hg hrb hs hd hl=>Dc (Ci lim d) hg hrb hs (by omega) hl
end
end Go.Proofs.YtmehdcdbeafljaaGreatDoor
namespace Go.Proofs.YtmehdcdbeafljaaGreatDoor
open Go.Proofs.Tryz
open Go Go.Lw Go.RowKit
set_option maxRecDepth 20000
section
variable {h:aA}{nb eb:Nat}
abbrev vI:List Value:=dU 0 0 (.slice none 0 0)
theorem BP {cs:List Value}{v0:Value}(hcs:cs.length=6) (hk:bh h nb 132 cs) (he:bh h eb 31 [v0]) (hne:nb≠eb) (B w:World) (ha:At B h w) :
 CallsD Tryz.prog 93 #[.pointer (some ⟨nb,0,none⟩),.pointer (some ⟨eb,0,none⟩)] (.panicking [{ v:=sS,recovered:=false }]) w fun e u' w' =>
  (∃r,e= .returned r)/\u'= .panicking [{ v:=sS,recovered:=true }]/\∃h',At B h' w'/\bh h' nb 132 vI/\bh h' eb 31 [.int .i64 10]/\Ext (fun b=>b=nb\/b=eb) h h':=by
 refine mI (v:=sS) (vs:=[.pointer (some ⟨nb,0,none⟩),.pointer (some ⟨eb,0,none⟩)]) (u':=.panicking [{ v:=sS,recovered:=true }]) func93 rfl rfl rfl rfl rfl rfl rfl rfl rfl rfl (fun c₀ cs hu=>.inl (by simp[recoverD,hu])) (fun a hf=>?_);refine wp_seq (wp_region ?_);refine(show RW Tryz.prog Tryz.f93.ntmps _ 0 _ h (fun ρ' h'=>h'=h/\Sub [(5,.bool true),(2,sS),(0,.pointer (some ⟨nb,0,none⟩)),(1,.pointer (some ⟨eb,0,none⟩))] ρ') (fun _ _=>False) from ?_) B a w hf ha _ ?_ (fun _ _ _ _ _ _ k=>k.elim)
 · refine cI 1 rfl rfl (aj.o8 underlying20 rfl (.inr ⟨_,_,rfl⟩)) ?_;exact aD rfl ⟨rfl,rfl,rfl,rfl,rfl,trivial⟩
 rintro ρ' h' a1 w1 hf1 ha1 ⟨rfl,hsub⟩;have hf1:=hf1.sub hsub;refine wp_cond_true (hf1.eval (x:=.tmp 5) rfl) ?_;refine wp_seq (wp_region ?_);refine(show RW Tryz.prog Tryz.f93.ntmps _ 0 _ h' (fun ρ' g=>g=h'/\Sub [(0,.pointer (some ⟨nb,0,none⟩)),(1,.pointer (some ⟨eb,0,none⟩))] ρ') (fun _ _=>False) from ?_) B a1 w1 hf1 ha1 _ ?_ (fun _ _ _ _ _ _ k=>k.elim)
 · refine cI 1 rfl rfl (aj.vf underlying193 rfl) ?_;exact aD rfl ⟨rfl,rfl,rfl,trivial⟩
 rintro ρ'' h'' a2 w2 hf2 ha2 ⟨rfl,hsub2⟩;have hf2:=hf2.sub hsub2;refine wp_region ?_;refine(show RW Tryz.prog Tryz.f93.ntmps _ 0 _ h'' (fun _ g=>bh g nb 132 vI/\bh g eb 31 [.int .i64 10]/\Ext (fun b=>b=nb\/b=eb) h'' g) (fun _ _=>False) from ?_) B a2 w2 hf2 ha2 _ ?_ (fun _ _ _ _ _ _ k=>k.elim)
 · refine xp rfl (aG (H.BU ) rfl) ?_;refine RW.bB rfl rfl rfl (az.au H.cv rfl rfl hk rfl (by rw[hcs];decide) (by first|decide|simp[Value.oneCell'])) ?_;rintro _ h3 ⟨rfl,hk3,hx3,hz3⟩
   have hk3:bh h3 nb 132 vI:=by
    rw[EX (by rw[hcs];rfl)] at hk3;exact hk3
   refine RW.bB rfl rfl rfl (az.bA H.EB rfl rfl (he.ext hx3 (fun e=>hne e.symm)) (by simp) rfl) ?_;rintro _ h4 ⟨rfl,hk4,hx4,hz4⟩;exact aD rfl ⟨hk3.ext hx4 (fun e=>hne e),hk4,(hx3.mono fun _ _ k=>.inl k).trans (hx4.mono fun _ _ k=>.inr k)⟩
 rintro _ h5 a5 w5 hf5 ha5 ⟨hq1,hq2,hq3⟩;exact⟨hf5.nd,_,fB hf5 ha5 .nil,⟨_,rfl⟩,rfl,h5,ha5,hq1,hq2,hq3⟩
theorem BQ (B w:World) (ha:At B h w) :
 CallsD Tryz.prog 93 #[.pointer (some ⟨nb,0,none⟩),.pointer (some ⟨eb,0,none⟩)] .returning w fun e u' w'=>(∃r,e= .returned r)/\u'= .returning/\At B h w':=by
 refine mI (v:=.nilIface) (vs:=[.pointer (some ⟨nb,0,none⟩),.pointer (some ⟨eb,0,none⟩)]) (u':=.returning) func93 rfl rfl rfl rfl rfl rfl rfl rfl rfl rfl (fun c₀ cs hu=>.inr ⟨by simp[recoverD,hu],rfl,rfl⟩) (fun a hf=>?_);refine wp_seq (wp_region ?_);refine(show RW Tryz.prog Tryz.f93.ntmps _ 0 _ h (fun ρ' h'=>h'=h/\Sub [(5,.bool false)] ρ') (fun _ _=>False) from ?_) B a w hf ha _ ?_ (fun _ _ _ _ _ _ k=>k.elim)
 · refine cI 1 rfl rfl (aj.o8 underlying20 rfl (.inl rfl)) ?_;exact aD rfl ⟨rfl,rfl,trivial⟩
 rintro ρ' h' a1 w1 hf1 ha1 ⟨rfl,hsub⟩;have hf1:=hf1.sub hsub;refine wp_cond_false (hf1.eval (x:=.tmp 5) rfl) (wp_skip ?_);exact⟨hf1.nd,_,fB hf1 ha1 .nil,⟨_,rfl⟩,rfl,ha1⟩
theorem tB {cs:List Value}{v0:Value}{ρ:Env}{R:Ending->aA->Prop}(h2:ρ.at 2=some (.pointer (some ⟨nb,0,none⟩))) (h3:ρ.at 3=some (.pointer (some ⟨eb,0,none⟩))) (hcs:cs.length=6) (hk:bh h nb 132 cs) (he:bh h eb 31 [v0]) (hne:nb≠eb)
 (hR:∀h',Ext (fun b=>b=nb\/b=eb) h h'->R (.returned (.tuple #[.agg vI.toArray,.int .i64 10])) h') :
 ni Tryz.prog f47 [{ target:=.fn (.func 93) #[.pointer (some ⟨nb,0,none⟩),.pointer (some ⟨eb,0,none⟩)],args:= #[] }] (.panicking [{ v:=sS,recovered:=false }]) ρ h R:=by
 intro B a w hf ha;refine leaves_cons (f:=93) (args:= #[.pointer (some ⟨nb,0,none⟩),.pointer (some ⟨eb,0,none⟩)]) (by simp) (nE func93 rfl (by decide +kernel)) ?_;refine(BP hcs hk he hne B w ha).mono ?_;rintro e u' w' ⟨⟨r,rfl⟩,rfl,h',ha',hk',he',hx'⟩;refine⟨_,fB hf.zero ha' (.cons (aI.bp H.eS H.cv h2 hk'.row rfl) (.cons (aI.cell H.JF h3 (he'.cell (i:=0) rfl)) .nil)),h',ha',hR h' hx'⟩
theorem Bz {x:Nd}{w0:Value}{e0:Int}{ρ:Env}{R:Ending->aA->Prop}(h2:ρ.at 2=some (.pointer (some ⟨nb,0,none⟩))) (h3:ρ.at 3=some (.pointer (some ⟨eb,0,none⟩))) (hk:bh h nb 132 (dU x.kind x.set w0)) (he:bh h eb 31 [.int .i64 e0])
 (hR:R (.returned (.tuple #[.agg (dU x.kind x.set w0).toArray,.int .i64 e0])) h) :
 ni Tryz.prog f47 [{ target:=.fn (.func 93) #[.pointer (some ⟨nb,0,none⟩),.pointer (some ⟨eb,0,none⟩)],args:= #[] }] .returning ρ h R:=by
 intro B a w hf ha;refine leaves_cons (f:=93) (args:= #[.pointer (some ⟨nb,0,none⟩),.pointer (some ⟨eb,0,none⟩)]) (by simp) (nE func93 rfl (by decide +kernel)) ?_;refine(BQ B w ha).mono ?_;rintro e u' w' ⟨⟨r,rfl⟩,rfl,ha'⟩;refine⟨_,fB hf.zero ha' (.cons (aI.bp H.eS H.cv h2 hk.row rfl) (.cons (aI.cell H.JF h3 (he.cell (i:=0) rfl)) .nil)),h,ha',hR⟩
def JH (h h':aA) (s:By) (r:Value):Prop:=∃w,r= .tuple #[.agg (dU (cj s).1.kind (cj s).1.set w).toArray,.int .i64 (cj s).2]/\cm h' (CI h.size) (dU (cj s).1.kind (cj s).1.set w) (cj s).1
theorem zN {lim:Nat}(hg:Sg h lim) (hlim:lim<=h.size) (s:By) (hs:s.length<=1000000):ah Tryz.prog 47 #[.string (bs s)] h (cM fun r h'=>JH h h' s r/\aC h h'):=by
 have hsz:=bY s;refine ah.of func47 rfl rfl ?_;refine xr func47 rfl ?_;refine xo rfl (az.aQ H.jU) ?_;rintro _ h1 ⟨rfl,hk1,he1,hz1⟩;refine xo rfl (az.aQ H.JR) ?_;rintro _ h2 ⟨rfl,hk2,he2,hz2⟩;refine xd [0,2,3] rfl ?_;refine av rfl ?_;refine bl func47 1 rfl ?_;refine xp rfl (aj.cw underlying9 rfl) ?_;refine aN 1 [0,2,3,7] rfl ?_;have hk1:bh h1 h.size 132 vI:=hk1;have hk2:bh h2 h1.size 31 [.int .i64 0]:=hk2;have hk12:=hk1.ax he2;have e2:=he1.trans he2;refine aM rfl rfl (fun hbig=>?_) (fun hbig=>?_)
 · have hE:cj s=(mY,3):=by unfold cj;rw[if_pos (by omega)]
   refine xr func47 rfl ?_;refine xp rfl (aG (H.BU ) rfl) ?_;refine RW.bB rfl rfl rfl (az.au H.cv rfl rfl hk12 (by first|rfl|(simp;done)|(simp;omega)) (by first|decide|exact of_decide_eq_true rfl|(simp;done)|(simp;omega)) (by first|decide|simp[Value.oneCell'])) ?_;rintro _ h3 ⟨rfl,hk3,hx3,hz3⟩;refine RW.bB rfl rfl rfl (az.bA H.EB rfl rfl (hk2.ext hx3 (by show ¬_=_;omega)) (by first|decide|exact of_decide_eq_true rfl|(simp;done)|(simp;omega)) rfl) ?_;rintro _ h4 ⟨rfl,hk4,hx4,hz4⟩;refine xd [0,2,3,7] rfl ?_;have hk3:bh h3 h.size 132 vI:=hk3;have hk4:bh h4 h1.size 31 [.int .i64 3]:=hk4;refine G.br func47 rfl (.cons (aI.bp H.eS H.cv rfl ((hk3.ext hx4 (by show ¬_=_;omega)).row) (by first|rfl|(simp;done)|(simp;omega))) (.cons (aI.cell H.JF rfl (hk4.cell (i:=0) rfl)) (.nil))) ?_;refine⟨_,rfl,⟨.slice none 0 0,by rw[hE];rfl,by rw[hE];exact fI _ _ 0 0⟩,aC.only (aC.only e2 hx3 (Nat.le_refl _)) hx4 (by omega)⟩
 · refine aB rfl ?_;refine av rfl ?_;refine G.Jy (caps:=[.pointer (some ⟨h.size,0,none⟩),.pointer (some ⟨h1.size,0,none⟩)]) func47 rfl rfl rfl rfl rfl rfl rfl rfl rfl rfl rfl ?_;have hE:cj s=match jM s with|some x=>(x,0)|none=>(mY,10):=by unfold cj;rw[if_neg (by omega)];rfl
   refine mT rfl ?_;refine GD.cz func47 rfl ?_;refine iG.ay rfl rfl rfl rfl (aP rfl) ?_;refine iG.ay rfl rfl rfl rfl (aG (H.Hx _) rfl) ?_;refine iG.Di rfl rfl rfl rfl (az.eR rfl) ?_;rintro _ h3 ⟨rfl,hk3,he3,hz3⟩;refine iG.ay rfl rfl rfl rfl (aj.assign rfl) ?_;refine jq rfl ?_;refine GD.sub (ρ':=[(0,_),(2,_),(3,_),(4,_),(7,_)]) ⟨rfl,rfl,rfl,rfl,rfl,trivial⟩ ?_;refine mT rfl ?_;refine GD.cz func47 rfl ?_;refine iG.ay rfl rfl rfl rfl (aP rfl) ?_;have hk3:bh h3 h2.size 196 [.string (bs s)]:=hk3;have hg3:Sg h3 lim:=hg.ext (e2.trans he3) (fun _ k=>k.elim);have hrows:=Ci lim (s.length+1) h3 h2.size s hg3 (by omega) hk3 (Nat.lt_succ_self _) hs;have hk13:=hk12.ax he3;have hk23:=hk2.ax he3;have e3:=e2.trans he3;refine iG.Di rfl rfl rfl rfl (aq (vs:=[_]) func94 rfl H.Kp rfl (ah.jv (hrows) ((fun _ h' ⟨hc,hp,hx⟩=>by rw[hc];exact tB rfl rfl rfl (hk13.ext hx (by show ¬_=_;omega)) (hk23.ext hx (by show ¬_=_;omega)) (by omega) (fun h'' hx2=>⟨_,rfl,⟨.slice none 0 0,by rw[hE];unfold jM;rw[hp];rfl,by rw[hE];unfold jM;rw[hp];exact fI _ _ 0 0⟩,⟨by have:=hx.size;have:=hx2.size;have:=e3.size;omega,fun b hb _=>by rw[hx2.block b (by have:=hx.size;omega) (by omega),hx.block b (by omega) (by show ¬_=_;omega)];exact e3.block b hb (fun k=>k)⟩⟩))))) ?_;rintro _ h4 ⟨x,r,hp,⟨w,rfl,hnd⟩,hs4,hx4⟩;have hz4:=hx4.size;have hk14:=hk13.ext hx4 (by show ¬_=_;omega);have hk24:=hk23.ext hx4 (by show ¬_=_;omega);have e4:aC h h4:=aC.only e3 hx4 (by omega);refine iG.bB rfl rfl rfl (az.au H.cv rfl rfl hk14 (by first|rfl|(simp;done)|(simp;omega)) (by first|decide|exact of_decide_eq_true rfl|(simp;done)|(simp;omega)) (cm.one hnd)) ?_;rintro _ h5 ⟨rfl,hk5,hx5,hz5⟩;refine jq rfl ?_;refine GD.sub (ρ':=[(0,_),(2,_),(3,_),(4,_),(7,_)]) ⟨rfl,rfl,rfl,rfl,rfl,trivial⟩ ?_;refine mT rfl ?_;refine mT rfl ?_;refine GD.cz func47 rfl ?_;refine iG.ay rfl rfl rfl rfl (aP rfl) ?_;refine iG.ay rfl rfl rfl rfl (aO rfl) ?_;refine iG.ay rfl rfl rfl rfl (af (off:=0) underlying196 rfl rfl H.eG rfl) ?_;have hk5:bh h5 h.size 132 (dU x.kind x.set w):=hk5;have hk25:=hk24.ext hx5 (by show ¬_=_;omega);have hs5:St h5 h2.size r:=bh.ext hs4 hx5 (by show ¬_=_;omega);have hnd5:cm h5 (CI h3.size) (dU x.kind x.set w) x:=gH hnd (Nat.le_refl _) hx5 (fun b _ (hb:b=h.size)=>by omega);have e5:=aC.only e4 hx5 (Nat.le_refl _);refine iG.ay rfl rfl rfl rfl (ai H.fu rfl hs5.cell) ?_;refine iG.ay rfl rfl rfl rfl (aj.n8 rfl rfl) ?_;refine jq rfl ?_;refine GD.sub (ρ':=[(0,_),(2,_),(3,_),(4,_),(7,_),(19,_)]) ⟨rfl,rfl,rfl,rfl,rfl,rfl,trivial⟩ ?_;refine JJ rfl rfl (fun hr=>?_) (fun hr=>?_)
   · have hr:r≠[]:=fun e=>hr (by rw[e];rfl)
     have hpn:jM s=none:=by
      unfold jM;rw[hp];cases r with
      |nil=>exact absurd rfl hr
      |cons c t=>rfl
     refine GD.cz func47 rfl ?_;refine iG.ay rfl rfl rfl rfl (aG (H.gU ) rfl) ?_;refine iG.ay rfl rfl rfl rfl (bH H.kC rfl) ?_;refine iG.bB rfl rfl rfl (dI (Φ:=fun _ _=>False) rfl (tB rfl rfl rfl hk5 hk25 (by omega) (fun h'' hx2=>⟨_,rfl,⟨.slice none 0 0,by rw[hE,hpn];rfl,by rw[hE,hpn];exact fI _ _ 0 0⟩,⟨by have:=hx2.size;have:=e5.size;omega,fun b hb _=>by rw[hx2.block b (by have:=e5.size;omega) (by omega)];exact e5.block b hb (fun k=>k)⟩⟩))) ?_;rintro _ _ hpn;exact hpn.elim
   · obtain rfl:r=[]:=bZ (Classical.not_not.1 hr);have hpn:jM s=some x:=by unfold jM;rw[hp]
     refine HQ rfl ?_;refine mT rfl ?_;refine GD.cz func47 rfl ?_;refine iG.ay rfl rfl rfl rfl (aj.aE H.eS H.cv rfl hk5.row (by first|rfl|(simp;done)|(simp;omega))) ?_;refine iG.bB rfl rfl rfl (az.au H.cv rfl rfl hk5 (by first|rfl|(simp;done)|(simp;omega)) (by first|decide|exact of_decide_eq_true rfl|(simp;done)|(simp;omega)) (cm.one hnd5)) ?_;rintro _ h6 ⟨rfl,hk6,hx6,hz6⟩;refine iG.bB rfl rfl rfl (az.bA H.EB rfl rfl (hk25.ext hx6 (by show ¬_=_;omega)) (by first|decide|exact of_decide_eq_true rfl|(simp;done)|(simp;omega)) rfl) ?_;rintro _ h7 ⟨rfl,hk7,hx7,hz7⟩;refine jq rfl ?_;refine GD.sub (ρ':=[(0,_),(2,_),(3,_),(4,_),(7,_),(19,_)]) ⟨rfl,rfl,rfl,rfl,rfl,rfl,trivial⟩ ?_;have hk6:bh h6 h.size 132 (dU x.kind x.set w):=hk6;have hk7:bh h7 h1.size 31 [.int .i64 0]:=hk7;have hk17:=hk6.ext hx7 (by show ¬_=_;omega);have e7:=aC.only (aC.only e5 hx6 (Nat.le_refl _)) hx7 (by omega);have hnd7:cm h7 (CI h.size) (dU x.kind x.set w) x:=gH (gH hnd5 (Nat.le_refl _) hx6 (fun b _ (hb:b=h.size)=>by omega)) (by omega) hx7 (fun b _ (hb:b=h1.size)=>by omega);refine GD.ret func47 rfl ?_;exact Bz rfl rfl hk17 hk7 ⟨_,rfl,⟨w,by rw[hE,hpn],by rw[hE,hpn];exact hnd7⟩,e7⟩
end
end Go.Proofs.YtmehdcdbeafljaaGreatDoor
namespace Go.Proofs.YtmehdcdbeafljaaGreatDoor
section
variable {l:List Nd}{s:By}{x:Nd}{i:Nat}
structure bT where
 kind:Nat
 set:Nat
 to:List Nat
 rule:Nat
end
mutual
def lay:Nd->List bT->Nat->List bT×Nat
 |.mk k s kids,ss,to =>
  if k=1 then (ss++[⟨1,s,[to],0⟩],ss.length)
  else if k=2 then bL kids ss to
  else if k=3 then ((bC kids ss to).1++[⟨0,0,(bC kids ss to).2,0⟩],(bC kids ss to).1.length)
  else if k=6 then ((cF kids ss to).1++[⟨0,0,[(cF kids ss to).2,to],0⟩],(cF kids ss to).1.length)
  else if k=4\/k=5 then
   ((cF kids (ss++[⟨0,0,[],0⟩]) ss.length).1.set ss.length ⟨0,0,[(cF kids (ss++[⟨0,0,[],0⟩]) ss.length).2,to],0⟩,
    if k=5 then (cF kids (ss++[⟨0,0,[],0⟩]) ss.length).2 else ss.length)
  else (ss,to)
def bL:List Nd->List bT->Nat->List bT×Nat
 | [],ss,to=>(ss,to)
 |x::r,ss,to=>lay x (bL r ss to).1 (bL r ss to).2
def bC:List Nd->List bT->Nat->List bT×List Nat
 | [],ss,_=>(ss,[])
 |x::r,ss,to=>((bC r (lay x ss to).1 to).1,(lay x ss to).2::(bC r (lay x ss to).1 to).2)
def cF:List Nd->List bT->Nat->List bT×Nat
 | [],ss,to=>(ss,to)
 |x::_,ss,to=>lay x ss to
end
mutual
def nj:Nd->Nat
 |.mk _ _ kids=>gv kids+1
def gv:List Nd->Nat
 | []=>0
 |x::r=>nj x+gv r
end
mutual
def su:Nd->Bool
 |.mk k _ kids=>(!(k ==4 ||k ==5 ||k ==6) ||kids.length ==1) && sv kids
def sv:List Nd->Bool
 | []=>true
 |x::r=>su x && sv r
end
section
variable {l:List Nd}{s:By}{x:Nd}{i:Nat}
theorem B8 (x:Nd):0<nj x:=by cases x;simp[nj]
theorem gN:∀(l m:List Nd),gv (l++m)=gv l+gv m
 | [],m=>by simp[gv]
 |x::l,m=>by simp only[List.cons_append,gv];rw[gN l m];omega
theorem kM:∀(l m:List Nd),sv (l++m)=(sv l && sv m)
 | [],m=>by simp[sv]
 |x::l,m=>by simp only[List.cons_append,sv];rw[kM l m,Bool.and_assoc]
theorem wO:∀{l:List Nd}{i:Nat}{x:Nd},sv l=true->l[i]? =some x->su x=true
 | [],i,x,_,h=>by simp at h
 |y::l,0,x,hw,h=>by simp at h;subst h;simp only[sv,Bool.and_eq_true] at hw;exact hw.1
 |y::l,i+1,x,hw,h=>by simp only[sv,Bool.and_eq_true] at hw;exact wO hw.2 (by simpa using h)
end
mutual
theorem fR:∀(x:Nd) (ss:List bT) (to:Nat),ss.length<=(lay x ss to).1.length/\(lay x ss to).1.length<=ss.length+nj x
 |.mk k s kids,ss,to=>by
  rw[lay];simp only[nj];split
  · simp
  · split
    · have:=jf kids ss to;omega
    · split
      · have:=fD kids ss to;simp only[List.length_append,List.length_singleton];omega
      · split
        · have:=ga kids ss to;simp only[List.length_append,List.length_singleton];omega
        · split
          · have:=ga kids (ss++[⟨0,0,[],0⟩]) ss.length;simp only[List.length_append,List.length_singleton] at this;simp only[List.length_set];omega
          · simp
theorem jf:∀(l:List Nd) (ss:List bT) (to:Nat),ss.length<=(bL l ss to).1.length/\(bL l ss to).1.length<=ss.length+gv l
 | [],ss,to=>by simp[bL,gv]
 |x::r,ss,to=>by
  rw[bL];have h1:=jf r ss to;have h2:=fR x (bL r ss to).1 (bL r ss to).2;simp only[gv];omega
theorem fD:∀(l:List Nd) (ss:List bT) (to:Nat),ss.length<=(bC l ss to).1.length/\(bC l ss to).1.length<=ss.length+gv l
 | [],ss,to=>by simp[bC,gv]
 |x::r,ss,to=>by
  rw[bC];have h1:=fR x ss to;have h2:=fD r (lay x ss to).1 to;simp only[gv];omega
theorem ga:∀(l:List Nd) (ss:List bT) (to:Nat),ss.length<=(cF l ss to).1.length/\(cF l ss to).1.length<=ss.length+gv l
 | [],ss,to=>by simp[cF,gv]
 |x::r,ss,to=>by
  rw[cF];have h1:=fR x ss to;simp only[gv];omega
end
section
variable {l:List Nd}{s:By}{x:Nd}{i:Nat}
def Small (s:By) (p:Option (Nd×By)):Prop:=∀x r,p=some (x,r)->nj x+2*r.length<=2*s.length+1/\su x=true
theorem wR (k:Nat) (l:List Nd):nj (cG k l)<=gv l+1:=by
 unfold cG;split
 · simp[mY,nj,gv]
 · simp[gv]
 · simp[nj]
theorem wN {k:Nat}(hk:k=2\/k=3) (h:sv l=true):su (cG k l)=true:=by
 unfold cG;split
 · rfl
 · simp only[sv,Bool.and_eq_true] at h;exact h.1
 · simp only[su,h,Bool.and_true];rcases hk with rfl|rfl<;>rfl
theorem qO:∀(s:By) (n:Nd),su n=true->nj (eY n s).1+2*(eY n s).2.length<=nj n+2*s.length/\su (eY n s).1=true
 | [],n,hw=>by simp[eY,hw]
 |c::r,n,hw=>by
  rw[eY];split
  · simp[hw]
  · rename_i hs;have hw':su (.mk (dJ c) 0 [n])=true:=by simp[su,sv,hw]
    have h:=qO r (.mk (dJ c) 0 [n]) hw';refine⟨?_,h.2⟩;have h1:=h.1;simp only[nj,gv,List.length_cons] at h1 ⊢;omega
theorem zL {rows:By->Option (Nd×By)}(hr:∀s,Small s (rows s)){r:By}(h:fX rows s=some (x,r)):nj x+2*r.length+1<=2*s.length/\su x=true:=by
 have leaf:∀k st,(k=0\/k=1)->su (.mk k st [])=true:=fun k st hk=>by rcases hk with rfl|rfl<;>rfl
 have key:∀y t,fF rows s=some (y,t)->nj y+2*t.length+1<=2*s.length/\su y=true:=by
  intro y t ha;have hlen:∀(k st:Nat),y= .mk k st []->t.length<s.length->nj y+2*t.length+1<=2*s.length:=fun k st hy ht=>by subst hy;simp only[nj,gv];omega
  unfold fF at ha;split at ha
  · cases ha
  · rename_i c u;split at ha
    · split at ha
      · cases ha
      · rename_i n t' ht;split at ha
        · rename_i t'' _;cases ha;have:=hr _ _ _ ht;simp only[List.length_cons] at this ⊢;exact⟨by omega,this.2⟩
        · cases ha
    · split at ha
      · have hb:=pV ha
        have hy:∃st,y= .mk 1 st []:=by
         unfold ig at ha;split at ha<;>(simp only[Option.map_eq_some_iff] at ha;obtain⟨⟨m,r'⟩,_,h2⟩:=ha;cases h2;exact⟨_,rfl⟩)
        obtain⟨st,rfl⟩:=hy;exact⟨hlen _ _ rfl (by simp only[List.length_cons];omega),leaf _ _ (.inr rfl)⟩
      · split at ha
        · cases ha;exact⟨hlen _ _ rfl (by simp),leaf _ _ (.inr rfl)⟩
        · split at ha
          · simp only[Option.map_eq_some_iff] at ha;obtain⟨⟨b,r'⟩,h1,h2⟩:=ha;have:=uh h1;cases h2;exact⟨hlen _ _ rfl (by simp only[List.length_cons];omega),leaf _ _ (.inr rfl)⟩
          · split at ha
            · cases ha
            · cases ha;exact⟨hlen _ _ rfl (by simp),leaf _ _ (.inr rfl)⟩
 unfold fX at h;simp only[Option.map_eq_some_iff] at h;obtain⟨⟨n,t⟩,h1,h2⟩:=h;have h3:=key n t h1;have h4:=qO t n h3.2;rw[h2] at h4;simp only at h4;exact⟨by omega,h4.2⟩
theorem lT {rows:By->Option (Nd×By)}(hr:∀s,Small s (rows s)):∀(n:Nat) (all row:List Nd) (s:By) (x:Nd) (r:By),sv all=true->sv row=true->iB rows n all row s=some (x,r) ->
 nj x+2*r.length<=2*s.length+1+gv all+gv row+(if all=[] then 0 else 1)/\su x=true
 | 0,_,_,_,_,_,_,_,h=>by cases h
 |n+1,all,row,s,x,r,hwa,hwr,h=>by
  rw[iB] at h;split at h
  · split at h
    · rename_i hbar;have hs:s.tail.length+1=s.length:=by cases s with|nil=>cases hbar|cons a b=>simp
      have hw':sv (all++[cG 2 row])=true:=by rw[kM,hwa];simp[sv,wN (.inl rfl) hwr]
      have ih:=lT hr n _ _ _ _ _ hw' (by rfl) h;have hj:=wR 2 row;have ha:gv (all++[cG 2 row])=gv all+nj (cG 2 row):=by rw[gN];simp[gv]
      rw[ha] at ih;refine⟨?_,ih.2⟩;have h1:=ih.1;rw[if_neg (by simp)] at h1;simp only[gv] at h1;omega
    · cases h;have hj:=wR 2 row;have hj3:=wR 3 (all++[cG 2 row]);have ha:gv (all++[cG 2 row])=gv all+nj (cG 2 row):=by rw[gN];simp[gv]
      refine⟨?_,wN (.inr rfl) (by rw[kM,hwa];simp[sv,wN (.inl rfl) hwr])⟩;split
      · rename_i he;subst he;have:cG 3 ([]++[cG 2 row])=cG 2 row:=rfl;rw[this];simp only[gv] at *;omega
      · rw[ha] at hj3;omega
  · split at h
    · cases h
    · rename_i y t ht;have h1:=zL hr ht;have ih:=lT hr n all (row++[y]) t x r hwa (by rw[kM,hwr];simp[sv,h1.2]) h;have ha:gv (row++[y])=gv row+nj y:=by rw[gN];simp[gv]
      rw[ha] at ih;exact⟨by have:=ih.1;omega,ih.2⟩
theorem qS:∀(d:Nat) (s:By),Small s (ei d s)
 | 0,s=>fun x r h=>by cases h
 |d+1,s=>fun x r h=>by
  have:=lT (fun s=>qS d s) _ _ _ _ _ _ rfl rfl h;simpa [gv] using this
theorem xw (h:jM s=some x):nj x<=2*s.length+1/\su x=true:=by
 unfold jM at h;split at h
 · rename_i n hn;cases h;have:=qS _ _ _ _ hn;simpa using this
 · cases h
theorem Ao (hx:l[i]? =some x) (ss:List bT) (to:Nat):bL (l.drop i) ss to=lay x (bL (l.drop (i+1)) ss to).1 (bL (l.drop (i+1)) ss to).2:=by
 obtain⟨hi,rfl⟩:=List.getElem?_eq_some_iff.1 hx;rw[List.drop_eq_getElem_cons hi,bL]
theorem mj:∀(l:List Nd) (ss:List bT) (to:Nat),(bC l ss to).2.length=l.length
 | [],ss,to=>by simp[bC]
 |x::r,ss,to=>by rw[bC];simp[mj r]
end
mutual
theorem kU:∀(x:Nd) (ss:List bT) (to i:Nat),i<ss.length->(lay x ss to).1[i]? =ss[i]?
 |.mk k s kids,ss,to,i,hi=>by
  rw[lay];split
  · simp[List.getElem?_append_left hi]
  · split
    · exact tG kids ss to i hi
    · split
      · have:=fD kids ss to;simp only;rw[List.getElem?_append_left (by omega)];exact ou kids ss to i hi
      · split
        · have:=ga kids ss to;simp only;rw[List.getElem?_append_left (by omega)];exact ot kids ss to i hi
        · split
          · simp only;rw[List.getElem?_set_ne (by omega),ot kids (ss++[(⟨0,0,[],0⟩:bT)]) ss.length i (by simp;omega),List.getElem?_append_left hi]
          · rfl
theorem tG:∀(l:List Nd) (ss:List bT) (to i:Nat),i<ss.length->(bL l ss to).1[i]? =ss[i]?
 | [],ss,to,i,hi=>by simp[bL]
 |x::r,ss,to,i,hi=>by
  rw[bL];have h1:=jf r ss to;rw[kU x _ _ i (by omega),tG r ss to i hi]
theorem ou:∀(l:List Nd) (ss:List bT) (to i:Nat),i<ss.length->(bC l ss to).1[i]? =ss[i]?
 | [],ss,to,i,hi=>by simp[bC]
 |x::r,ss,to,i,hi=>by
  rw[bC];have h1:=fR x ss to;simp only;rw[ou r _ _ i (by omega),kU x ss to i hi]
theorem ot:∀(l:List Nd) (ss:List bT) (to i:Nat),i<ss.length->(cF l ss to).1[i]? =ss[i]?
 | [],ss,to,i,hi=>by simp[cF]
 |x::r,ss,to,i,hi=>by
  rw[cF];exact kU x ss to i hi
end
section
variable {l:List Nd}{s:By}{x:Nd}{i:Nat}
theorem Ey (hx:l[i]? =some x):gv (l.take i)+nj x<=gv l:=by
 obtain⟨hi,rfl⟩:=List.getElem?_eq_some_iff.1 hx;have h:gv (l.take i++l.drop i)=gv l:=by rw[List.take_append_drop]
 rw[gN,List.drop_eq_getElem_cons hi,gv] at h;omega
theorem EA (hx:l[i]? =some x):gv (l.drop (i+1))+nj x<=gv l:=by
 obtain⟨hi,rfl⟩:=List.getElem?_eq_some_iff.1 hx;have h:gv (l.take i++l.drop i)=gv l:=by rw[List.take_append_drop]
 rw[gN,List.drop_eq_getElem_cons hi,gv] at h;omega
theorem B9:∀l:List Nd,l.length<=gv l
 | []=>by simp[gv]
 |x::l=>by have:=B9 l;have:=B8 x;simp only[List.length_cons,gv];omega
def qT:List bT->List Bool->Nat
 |x::r,b::s=>(if b then 0 else x.to.length+1)+qT r s
 |_,_=>0
def iC (ss:List bT):Nat->List Nat->List Bool->List Bool
 | 0,_,seen=>seen
 |n+1,todo,seen =>
  match todo.getLast? with
  |none=>seen
  |some i =>
   if seen[i]? =some true then iC ss n todo.dropLast seen
   else iC ss n (match ss[i]? with|some x=>if x.kind=0 then todo.dropLast++x.to else todo.dropLast|none=>todo.dropLast) (seen.set i true)
def closed (ss:List bT) (todo:List Nat):List Nat :=
 if todo.length=0 then []
 else ((List.range ss.length).filter fun i=>(iC ss (todo.length+qT ss (List.replicate ss.length false)) todo (List.replicate ss.length false))[i]? ==some true && (ss[i]?.map (·.kind)) !=some 0)
theorem xq:∀(ss:List bT) (seen:List Bool) (i:Nat) (x:bT),ss[i]? =some x->seen[i]? =some false->qT ss (seen.set i true)+(x.to.length+1)=qT ss seen
 | [],_,_,_,h,_=>by simp at h
 |_::_,[],_,_,_,h=>by simp at h
 |y::r,b::s,0,x,h1,h2=>by
  simp at h1 h2;subst h1 h2;simp[qT];omega
 |y::r,b::s,i+1,x,h1,h2=>by
  have:=xq r s i x (by simpa using h1) (by simpa using h2);simp only[List.set_cons_succ,qT];omega
def Good (ss:List bT):Prop:=∀x∈ss,∀j∈x.to,j<ss.length
def cL (ss:List bT) (st:Nat):List Nat:=if ss.length=0 then [] else closed ss [st]
def pX (x:bT) (b:Int):Bool:=decide (x.kind=2/\(b<0\/(x.rule:Int)<b))
def pY (ss:List bT):List Nat->Int->Int
 | [],b=>b
 |j::r,b=>pY ss r (match ss[j]? with|some x=>if pX x b then x.rule else b|none=>b)
def bG (ss:List bT) (now:List Nat):Int:=if ss.length=0 then -1 else pY ss now (-1)
def iU (x:bT) (c:UInt8):Bool:=decide (x.kind=1) && x.set.testBit c.toNat
def stepG (ss:List bT) (c:UInt8):List Nat->List Nat->List Nat
 | [],a=>a
 |j::r,a=>stepG ss c r (match ss[j]? with|some x=>if iU x c then a++x.to else a|none=>a)
def cT (ss:List bT) (c:UInt8) (now:List Nat):List Nat:=if ss.length=0 then [] else closed ss (stepG ss c now [])
theorem qg (ss:List bT) (c:UInt8):∀(l a:List Nat),a.length<=(stepG ss c l a).length
 | [],a=>Nat.le_refl _
 |j::r,a=>by
  rw[stepG];refine Nat.le_trans ?_ (qg ss c r _);split
  · split<;>simp
  · exact Nat.le_refl _
def jb (ss:List bT):List UInt8->List Nat->Nat->Int×Int->Int×Int
 |l,now,k,b =>
  if now.length=0 then b
  else match l with
   | []=>if 0<=bG ss now then ((k:Int),bG ss now) else b
   |c::r=>jb ss r (cT ss c now) (k+1) (if 0<=bG ss now then ((k:Int),bG ss now) else b)
def dQ (ss:List bT) (st:Nat) (l:List UInt8):Int×Int:=if ss.length=0 then (0,-1) else jb ss l (cL ss st) 0 (0,-1)
def Bs (ss:List bT) (st:Nat) (s:By) (a:Int):Int×Int:=if ss.length=0\/a<0\/(s.length:Int)<a then (0,-1) else dQ ss st (s.drop a.toNat)
theorem th {ss:List bT}{l:List UInt8}{now:List Nat}{k:Nat}{b:Int×Int}(h:now.length=0):jb ss l now k b=b:=by cases l<;>(rw[jb];exact if_pos h)
theorem Be (ss:List bT) (st:Nat):(cL ss st).Sublist (List.range ss.length):=by
 unfold cL closed;split
 · exact List.nil_sublist _
 · split
   · exact List.nil_sublist _
   · exact List.filter_sublist
theorem C0 (ss:List bT) (c:UInt8) (now:List Nat):(cT ss c now).Sublist (List.range ss.length):=by
 unfold cT closed;split
 · exact List.nil_sublist _
 · split
   · exact List.nil_sublist _
   · exact List.filter_sublist
def ku:Nat->List By->List bT->List Nat->Int ⊕ (List bT×List Nat)
 |_,[],ss,t=>.inr (ss,t)
 |i,s::r,ss,t=>if (cj s).2≠0 then .inl (cj s).2 else ku (i+1) r (lay (cj s).1 (ss++[⟨2,0,[],i⟩]) ss.length).1 (t++[(lay (cj s).1 (ss++[⟨2,0,[],i⟩]) ss.length).2])
def vg (l:List By):Nat:=(l.map List.length).sum
def fj (rules:List By):Int ⊕ (List bT×Nat) :=
 if rules.length=0\/64<rules.length then .inl 2
 else match ku 0 rules [] [] with
  |.inl e=>.inl e
  |.inr (ss,t)=>if 2000<vg rules then .inl 70 else .inr (ss++[⟨0,0,t,0⟩],ss.length)
theorem oY (h0:(cj s).2=0):nj (cj s).1<=401/\su (cj s).1=true/\s.length<=200:=by
 unfold cj at *;split at h0
 · cases h0
 · rename_i hl;rw[if_neg hl];split at h0
   · rename_i x hx;have:=xw hx;exact⟨by show nj x<=401;omega,this.2,by omega⟩
   · cases h0
theorem vK {l:List By}(hx:l[i]? =some s):vg (l.take (i+1))=vg (l.take i)+s.length:=by
 rw[List.take_add_one,hx,Option.toList_some];simp[vg]
end
end Go.Proofs.YtmehdcdbeafljaaGreatDoor
namespace Go.Proofs.YtmehdcdbeafljaaGreatDoor
open Go.Proofs.Tryz
open Go Go.Lw
set_option maxRecDepth 20000
section
variable {h h':aA}{O:Nat->Prop}{v w:Value}{nb st n i:Nat}{todo:List Nat}{seen:List Bool}
def eE (n:Nat):Value:=.int .i64 (n:Nat)
def iw:gM Nat:=.flat eE fun _=>rfl
def C6 (k s:Nat) (v:Value) (r:Nat):List Value:=[.int .i64 (k:Nat),eP s 0,eP s 1,eP s 2,eP s 3,v,.int .i64 (r:Nat)]
def Gp (h:aA) (O:Nat->Prop) (cs:List Value) (x:bT):Prop:=∃v,cs=C6 x.kind x.set v x.rule/\bX iw h O v x.to
theorem bX.IC {α:Type}{e:gM α}{xs:List α}(k:bX e h O v xs):v.oneCell'=true:=by
 obtain⟨oa,n,c,rfl,_⟩:=k;rfl
def DP:gM bT:=⟨7,by decide,Gp,fun h=>by obtain⟨v,rfl,_⟩:=h;rfl,fun h=>by
 obtain⟨v,rfl,hv⟩:=h;intro u hu;simp[C6,eP] at hu
 rcases hu with rfl|rfl|rfl|rfl|rfl|rfl|rfl<;>first|rfl|exact bX.IC hv,fun h m=>by
 obtain⟨v,hc,hv⟩:=h;exact⟨v,hc,hv.mv m⟩⟩
structure cB (h:aA) (O:Nat->Prop) (nb:Nat) (v:Value) (ss:List bT) (st:Nat):Prop where
 blk:bh h nb 126 [v,.int .i64 (st:Nat)]
 row:dx DP (fun b=>b=nb\/O b) h (nb+1) 138 v ss
abbrev eO (nb:Nat) (v:Value):Nat->Prop:=fun b=>b=nb\/cV v.ownBlock b
theorem cB.own {ss:List bT}(k:cB h O nb v ss st):∀b,v.ownBlock=some b->nb<b/\b<h.size:=fun b hb=>by
 obtain⟨css,_,h2,_⟩:=k.row;have:=h2.lt hb;omega
theorem cB.ext {M:Nat->Prop}{O O':Nat->Prop}{h h':aA}{nb:Nat}{v:Value}{ss:List bT}{st:Nat}(k:cB h O nb v ss st) (e:Ext M h h') (hnb:¬M nb) (hown:∀b,v.ownBlock=some b->¬M b) (hM:∀b,b<h.size->M b->O b) (hO:∀b,b<h.size->O' b->O b):cB h' O' nb v ss st :=
 ⟨k.blk.ext e hnb,k.row.qd e hown (fun b hb hm=>.inr (hM b hb hm)) (fun b hb k=>k.imp id (hO b hb))⟩
theorem cB.ax {O':Nat->Prop}{ss:List bT}(k:cB h O nb v ss st) (e:aC h h') (hO:∀b,b<h.size->O' b->O b):cB h' O' nb v ss st:=k.ext e (fun k=>k) (fun _ _ k=>k) (fun _ _ k=>k.elim) hO
theorem D3 {ss:List bT}{x:bT}(hn:cB h O nb v ss st) (_hO:∀b,O b->b<h.size) (hx:Gp h (fun b=>eO nb v b\/O b) (C6 x.kind x.set w x.rule) x) (hl:ss.length<=1000000) :
 ah Tryz.prog 49 #[.pointer (some ⟨nb,0,none⟩),.agg (C6 x.kind x.set w x.rule).toArray] h (cM fun r h'=>∃v',r= .int .i64 (ss.length:Nat)/\cB h' O nb v' (ss++[x]) st/\Ext (eO nb v) h h'/\(∀b,v'.ownBlock=some b->v.ownBlock=some b\/h.size<=b)):=by
 have hw1:∀u∈C6 x.kind x.set w x.rule,u.oneCell'=true:=DP.one hx;refine ah.of func49 rfl rfl ?_;refine xr func49 rfl ?_;refine xo rfl (az.eR rfl) ?_;rintro _ h1 ⟨rfl,hk1,he1,hz1⟩;have hk1:bh h1 h.size 138 (C6 x.kind x.set w x.rule):=hk1;have hn1:=hn.ax (O':=O) he1 (fun _ _ k=>k);obtain⟨css,hc1,hc2,hc3⟩:=id hn1.row;have hown:=hn1.own;have hnlt:=hn1.blk.lt;have hnz:=hn.blk.lt;have hnM:¬(cV v.ownBlock nb\/Array.size h1<=nb):=by rintro(k|k);(have:=hown nb k.symm;omega);omega
 have hkM:¬(cV v.ownBlock h.size\/Array.size h1<=h.size):=by rintro(k|k);(have:=hn.own _ k.symm;omega);omega
 refine aN 1 [0,1,3,4] rfl ?_;refine av rfl ?_;refine bQ (fun b=>cV v.ownBlock b\/Array.size h1<=b) (fun i=>Nat.blt i 10) (sz:=11) (listed:= #[false,false,false,false,false,false,false,false,false,false,false]) func49 H.mixed rfl rfl rfl ?_;refine cu 0 1 (by kernel_rfl) rfl ?_;refine cu 1 3 (by kernel_rfl) rfl ?_;refine cu 2 7 (by kernel_rfl) rfl ?_;refine bP 3 15 (by kernel_rfl) rfl (fun h' e=>af (off:=0) underlying126 rfl rfl H.gy rfl) ?_;refine bP 4 31 (by kernel_rfl) rfl (fun h' e=>ai H.iq rfl (e.cell hnM (hn1.blk.cell (i:=0) rfl))) ?_;refine bP 5 63 (by kernel_rfl) rfl (fun h' e=>aj.aE H.LD H.lF rfl (e.rowAt hkM hk1.row) (by first|rfl|(simp;done)|(simp;omega))) ?_;refine dZ 6 127 (by kernel_rfl) rfl (az.cE (cs:=[_,_,_,_,_,_,_]) underlying124 H.IE rfl rfl (by decide)) ?_;rintro _ _ ⟨rfl,rfl⟩;refine⟨fun _=>by first|exact Ext.push _ _ _|assumption,?_⟩;refine dZ 7 255 (by kernel_rfl) rfl (az.bU underlying124 H.IE rfl rfl (hc2) rfl rfl (hw1) (by omega) (by decide) (by omega)) ?_;rintro v2 h2 ⟨ho2,hx2,hx2',hv2⟩;refine⟨fun _=>hx2'.mono (fun _ _ k=>.inl k),?_⟩;obtain⟨oa2,c2,rfl,_⟩:=ho2.open;refine dZ 8 511 (by kernel_rfl) rfl (aj.bq (aO rfl)) ?_;rintro _ hq_ ⟨rfl,hqe_⟩;replace hqe_:=hqe_.symm;subst hqe_;refine⟨fun _=>Ext.refl _ _,?_⟩;refine bP 9 1023 (by kernel_rfl) rfl (fun h' e=>af (off:=0) underlying126 rfl rfl H.gy rfl) ?_;refine jG 10 2047 (by kernel_rfl) rfl (az.bA H.gy rfl rfl (hn1.blk.ext hx2 (fun k=>by have:=hown nb k.symm;omega)) (by first|decide|exact of_decide_eq_true rfl|(simp;done)|(simp;omega)) rfl) ?_;rintro _ h3 ⟨rfl,hk3,hx3,hz3⟩;refine⟨fun hk=>(nomatch hk),?_⟩;refine bu (by kernel_rfl) ?_;refine xu [0,1,3,4] rfl ?_;refine bl func49 2 rfl ?_;refine xp rfl (af (off:=0) underlying126 rfl rfl H.gy rfl) ?_;have hxs:DP.R h1 (fun b=>cV v.ownBlock b\/b=nb\/O b) (C6 x.kind x.set w x.rule) x:=DP.mv hx ⟨he1.size,fun b hb hn=>⟨he1.block b hb (fun k=>k),fun k=>hn (by rcases k with k|k|k;(exact .inl (.inr k));(exact .inl (.inl k));exact .inr k)⟩⟩;have hrow2:dx DP (fun b=>b=nb\/O b) h2 (nb+1) 138 (.slice oa2 (ss.length+1) c2) (ss++[x]):=dx.gz hc1 hc3 ho2 hx2 hv2 hxs;have hrow3:dx DP (fun b=>b=nb\/O b) h3 (nb+1) 138 (.slice oa2 (ss.length+1) c2) (ss++[x]):=hrow2.qd hx3 (fun b hb (k:b=nb)=>by have:=hv2 b hb;rcases this with k'|k';(have:=hown b k';omega);omega) (fun b _ k=>.inl k) (fun b _ k=>k);have hk3:bh h3 nb 126 [.slice oa2 (ss.length+1) c2,.int .i64 (st:Nat)]:=hk3;refine xp rfl (ai H.iq rfl (hk3.cell (i:=0) rfl)) ?_;refine xp rfl (aj.aS underlying124 rfl) ?_;refine xp rfl (aj.j9 rfl rfl ⟨by omega,by omega⟩) ?_;refine aN 1 [0,1,3,4] rfl ?_;refine G.ret func49 rfl rfl ?_;refine⟨_,rfl,_,?_,⟨hk3,hrow3⟩,⟨by have:=he1.size;have:=hx2.size;omega,fun b hb hn=>by rw[hx3.block b (by have:=hx2.size;omega) (fun k=>hn (.inl k)),hx2.block b (by omega) (fun k=>hn (.inr k)),he1.block b hb (fun k=>k)]⟩,fun b hb=>?_⟩
 · show Value.int _ _=_
   congr 1;omega
 · rcases hv2 b hb with k|k
   · exact .inl k
   · exact .inr (by omega)
theorem rT {l cap:Nat}{oa:Option Addr}{c:Nat}{J:Nat->aA->Prop}(hn:n<=1000000)
 (hread:∀j h,J j h->cellAt h ⟨cap,0,none⟩=some (.slice oa n c)) (hy:∀j h,J (j+1) h->j<n->∃(b o k s:Nat) (w:Value),oa=some ⟨b,o,none⟩/\Lw.rowAt h b (o+j*6) (dU k s w) /\
  gG Tryz.prog l #[.int .i64 (j:Nat),.agg (dU k s w).toArray] h (cM fun r h'=>r= .bool true/\J j h')) (h0:J n h) :
 ah Tryz.prog 140 #[.func (.yield l) #[] #[],.pointer (some ⟨cap,0,none⟩)] h (cM fun _ h'=>J 0 h'):=by
 refine ah.of func140 rfl rfl ?_;refine xr func140 rfl ?_;refine xp rfl (ai H.uL rfl (hread _ _ h0)) ?_;refine xp rfl (aj.aS underlying130 rfl) ?_;refine xp rfl (aj.j9 rfl rfl ⟨by omega,by omega⟩) ?_;refine aN 1 [0,1,3] rfl ?_;refine G.block rfl rfl ?_;refine bO (σ:=Nat) (fun j=>[(0,.func (.yield l) #[] #[]),(1,.pointer (some ⟨cap,0,none⟩)),(3,.int .i64 ((j:Int)-1))]) (fun j h'=>J j h'/\j<=n) (fun j=>j) (n) rfl ⟨rfl,rfl,rfl,trivial⟩ ⟨h0,Nat.le_refl _⟩ ?_;rintro j h1 ⟨hJ,hj⟩ ih;refine av rfl ?_;refine bf func140 2 [0,1,3,8] rfl ?_;refine aM rfl rfl (fun hge=>?_) (fun hge=>?_)
 · obtain⟨i,rfl⟩:∃i,j=i+1:=⟨j-1,by omega⟩
   obtain⟨b,o,k,s,w,ha,hrow,hyy⟩:=hy i h1 hJ (by omega);have hji:((i+1:Nat):Int)-1=((i:Nat):Int):=by omega
   rw[hji];refine aB rfl ?_;refine av rfl ?_;refine G.block rfl rfl ?_;refine av rfl ?_;refine G.Jd func140 rfl ?_;refine eF.ay rfl rfl rfl rfl rfl (aP rfl) ?_;refine eF.ay rfl rfl rfl rfl rfl (aP rfl) ?_;refine eF.ay rfl rfl rfl rfl rfl (ai H.uL rfl (hread _ _ hJ)) ?_;refine eF.ay rfl rfl rfl rfl rfl (aP rfl) ?_;refine eF.ay rfl rfl rfl rfl rfl (aj.aH underlying130 H.cv rfl rfl i rfl ha (by omega)) ?_;refine eF.ay rfl rfl rfl rfl rfl (aj.aE H.eS H.cv rfl hrow (by first|rfl|(simp;done)|(simp;omega))) ?_;refine qH (vs:=[_,_]) rfl rfl rfl rfl rfl rfl rfl (hyy) ?_;rintro _ h2 ⟨rfl,hJ2⟩;refine eF.ay rfl rfl rfl rfl rfl (aj.E8 rfl) ?_;refine fQ rfl ?_;refine xu [0,1,3,8,18] rfl ?_;refine aJ rfl rfl (fun hc=>absurd hc (by decide)) (fun _=>?_);refine aB rfl ?_;refine G.aR ?_;refine G.cz func140 rfl ?_;refine cI 1 rfl rfl (aj.j9 rfl rfl ⟨by omega,by omega⟩) ?_;refine aN 1 [0,1,3,8,18] rfl ?_;exact ih i _ _ ⟨rfl,rfl,rfl,trivial⟩ ⟨hJ2,by omega⟩ (by omega)
 · obtain rfl:j=0:=by omega
   refine bD rfl rfl ?_;refine G.xV func140 rfl ?_;exact⟨_,rfl,hJ⟩
theorem uF (v:Value) (hv:v.oneCell'=true):ah Tryz.prog 95 #[v] h (cM fun r h'=>r= .func (.func 140) #[] #[.pointer (some ⟨h.size,0,none⟩)]/\h'=h.push (.cells #[v] 130)):=by
 have hcells:v.cells= #[v]:=by cases v<;>simp[Value.oneCell'] at hv<;>rfl
 refine ah.of func95 rfl rfl ?_;refine xr func95 rfl ?_;refine xo rfl (az.box rfl) ?_;rintro _ _ ⟨rfl,rfl⟩;refine aN 1 [0,1,2] rfl ?_;refine xr func95 rfl ?_;refine xp rfl (aj.makeFunc (vs:=[_]) rfl) ?_;refine aN 1 [0,1,2] rfl ?_;refine G.ret func95 rfl rfl ?_;exact⟨_,rfl,rfl,by rw[hcells]⟩
structure Nx (O:Nat->Prop) (nb:Nat) (h:aA) (v:Value) (h':aA) (v':Value):Prop where
 ext:Ext (fun b=>eO nb v b\/O b) h h'
 own:∀b,v'.ownBlock=some b->v.ownBlock=some b\/h.size<=b
theorem Nx.refl {O:Nat->Prop}{nb:Nat}{h:aA}{v:Value}:Nx O nb h v h v:=⟨Ext.refl _ _,fun _ k=>.inl k⟩
theorem Nx.JN (e:aC h h'):Nx O nb h v h' v:=⟨e.mono fun _ _ k=>k.elim,fun _ k=>.inl k⟩
theorem Nx.mono {O O':Nat->Prop}{nb:Nat}{h h':aA}{v v':Value}(k:Nx O nb h v h' v') (hO:∀b,b<h.size->O b->O' b):Nx O' nb h v h' v':=⟨k.ext.mono fun b hb k=>k.imp id (hO b hb),k.own⟩
theorem Nx.trans {O':Nat->Prop}{h1 h2:aA}{v1 v2:Value}(k:Nx O nb h v h1 v1) (k':Nx O' nb h1 v1 h2 v2) (hO:∀b,b<h.size->O' b->O b):Nx O nb h v h2 v2:=by
 refine⟨⟨Nat.le_trans k.ext.size k'.ext.size,fun b hb hn=>?_⟩,fun b hb=>?_⟩
 · rw[k'.ext.block b (Nat.lt_of_lt_of_le hb k.ext.size) ?_,k.ext.block b hb hn];rintro((k1|k1)|k1)
   · exact hn (.inl (.inl k1))
   · rcases k.own b k1.symm with k2|k2
     · exact hn (.inl (.inr k2.symm))
     · omega
   · exact hn (.inr (hO b hb k1))
 · have:=k.ext.size
   rcases k'.own b hb with k2|k2
   · exact k.own b k2
   · exact .inr (by omega)
theorem Nx.mv {v':Value}(k:Nx O nb h v h' v'):Mv (fun b=>eO nb v b\/O b) (fun b=>eO nb v' b\/O b) h h' :=
 ⟨k.ext.size,fun b hb hn=>⟨k.ext.block b hb hn,by
  rintro((k1|k1)|k1)
  · exact hn (.inl (.inl k1))
  · rcases k.own b k1.symm with k2|k2
    · exact hn (.inl (.inr k2.symm))
    · omega
  · exact hn (.inr k1)⟩⟩
theorem Nx.qV {v':Value}(k:Nx (fun _=>False) nb h v h' v'):Mv (eO nb v) (eO nb v') h h' :=
 ⟨k.ext.size,fun b hb hn=>⟨k.ext.block b hb (fun k=>k.elim hn id),fun k1=>by
  rcases k1 with k1|k1
  · exact hn (.inl k1)
  · rcases k.own b k1.symm with k2|k2
    · exact hn (.inr k2.symm)
    · omega⟩⟩
def HP (O:Nat->Prop) (nb:Nat) (h:aA) (v:Value) (st:Nat) (out:List bT×Nat) (r:Value) (h':aA):Prop:=∃v',r= .int .i64 (out.2:Nat)/\cB h' O nb v' out.1 st/\Nx (fun _=>False) nb h v h' v'
def Gs (n:Nat):Prop:=∀{x:Nd}{h:aA}{O:Nat->Prop}{nb:Nat}{v w:Value}{ss:List bT}{st to:Nat},nj x<=n->cB h O nb v ss st->(∀b,O b->b<h.size)->cm h (eO nb v) (dU x.kind x.set w) x->su x=true->ss.length+nj x<=1000000 ->
 ah Tryz.prog 48 #[.pointer (some ⟨nb,0,none⟩),.agg (dU x.kind x.set w).toArray,.int .i64 (to:Nat)] h (cM (HP O nb h v st (lay x ss to)))
theorem yE {ss:List bT}{x:bT}(hn:cB h O nb v ss st) (hO:∀b,O b->b<h.size) (hx:Gp h (fun b=>eO nb v b\/O b) (C6 x.kind x.set w x.rule) x) (hl:ss.length<=1000000) :
 ah Tryz.prog 49 #[.pointer (some ⟨nb,0,none⟩),.agg (C6 x.kind x.set w x.rule).toArray] h (cM (HP O nb h v st (ss++[x],ss.length))) :=
 (D3 hn hO hx hl).mono fun e h' r=>by
  obtain⟨u,he,v',hu,hn',hx',ho⟩:=r;exact⟨u,he,v',hu,hn',hx'.mono fun _ _ k=>.inl k,ho⟩
theorem ID (i:Nat):eP 0 i= .int .u64 0:=by simp[eP,A3]
theorem mN {ss:List bT}{to:List Nat}(hn:cB h O nb v ss st) (hO:∀b,O b->b<h.size) (hx:bX iw h (fun b=>eO nb v b\/O b) w to) (hl:ss.length<=1000000) :
 ah Tryz.prog 49 #[.pointer (some ⟨nb,0,none⟩),.agg #[.int .i64 0,.int .u64 0,.int .u64 0,.int .u64 0,.int .u64 0,w,.int .i64 0]] h (cM (HP O nb h v st (ss++[⟨0,0,to,0⟩],ss.length))):=by
 have h1:=yE (x:=⟨0,0,to,0⟩) hn hO ⟨w,rfl,hx⟩ hl;simp only[C6,ID] at h1;exact h1
theorem Nu (t:TypeId) (a:Nat) (ho:¬O h.size):bX iw (h.push (.cells #[.int .i64 (a:Nat)] t)) O (.slice (some ⟨h.size,0,none⟩) 1 1) [a]:=bX.nH (e:=iw) (cs:=[eE a]) rfl ho
theorem Md (t:TypeId) (a b:Nat) (ho:¬O h.size):bX iw (h.push (.cells #[.int .i64 (a:Nat),.int .i64 (b:Nat)] t)) O (.slice (some ⟨h.size,0,none⟩) 2 2) [a,b] :=
 ⟨_,2,2,rfl,rfl,Nat.le_refl _,by simp[maxLen],fun i x hx=>by
  refine⟨h.size,0,[eE x],rfl,ho,?_,rfl⟩;have hr:=lU h [.int .i64 (a:Nat),.int .i64 (b:Nat)] t;intro j u hj;have h0:j=0:=by have:=(List.getElem?_eq_some_iff.1 hj).1;simp at this;omega
  subst h0;simp only[List.getElem?_cons_zero,Option.some.injEq] at hj;subst hj
  match i with
  | 0=>simp at hx;subst hx;exact hr 0 _ rfl
  | 1=>simp at hx;subst hx;exact hr 1 _ rfl
  |i+2=>simp at hx⟩
theorem qZ:∀(l:List Nd) (x:Nd) (ss:List bT) (to:Nat),bC (l++[x]) ss to=((lay x (bC l ss to).1 to).1,(bC l ss to).2++[(lay x (bC l ss to).1 to).2])
 | [],x,ss,to=>by simp[bC]
 |y::l,x,ss,to=>by
  rw[List.cons_append,bC,qZ l x,bC];simp
theorem qY {l:List Nd}{x:Nd}(hx:l[i]? =some x) (ss:List bT) (to:Nat):bC (l.take (i+1)) ss to=((lay x (bC (l.take i) ss to).1 to).1,(bC (l.take i) ss to).2++[(lay x (bC (l.take i) ss to).1 to).2]):=by
 rw[List.take_add_one,hx,Option.toList_some,qZ]
def HV (nb b5 cap d:Nat) (r0:Loop) (hL:aA) (v sl:Value) (O:Nat->Prop) (kids:List Nd) (ss:List bT) (st to j:Nat) (g:aA):Prop :=
 ∃v',cO g (d+1) r0/\g[d]? =some (.deferred (some []))/\bh g cap 130 [sl]/\cB g (fun b=>O b\/(b5<=b/\b<hL.size)) nb v' (bL (kids.drop j) ss to).1 st /\
  bh g b5 3 [.int .i64 ((bL (kids.drop j) ss to).2:Nat)]/\Nx (fun b=>b5<=b/\b<hL.size) nb hL v g v'
theorem kk {k j:Nat}(h:¬((k:Nat):Int)=(j:Nat)):¬k=j:=fun e=>h (by rw[e])
theorem Fv (ih:Gs n):Gs (n+1):=by
 intro x h O nb v w ss st to hsz hn hO hx hw hl;obtain⟨k,s,kids⟩:=x;simp only[nj] at hsz hl;have hown:=hn.own;have hnb:=hn.blk.lt;obtain⟨w',hw',hkids⟩:=hx.open;have hww:w=w':=by simpa [dU] using hw'
 subst hww
 show ah _ _ #[_,.agg (dU k s w).toArray,_] h _
 replace hkids:bX ry h (eO nb v) w kids:=hkids;obtain⟨oa,kn,kc,rfl,hsl⟩:=hkids.open;refine ah.of func48 rfl rfl ?_;refine xr func48 rfl ?_;refine xo rfl (az.eR rfl) ?_;rintro _ h1 ⟨rfl,q3,e1,z1⟩;refine xo rfl (az.eR rfl) ?_;rintro _ h2 ⟨rfl,q4,e2,z2⟩;refine xo rfl (az.eR rfl) ?_;rintro _ h3 ⟨rfl,q5,e3,z3⟩;have q3:bh h1 h.size 84 [.pointer (some ⟨nb,0,none⟩)]:=q3;have q4:bh h2 h1.size 132 (dU k s (.slice oa kn kc)):=q4;have q5:bh h3 h2.size 3 [.int .i64 (to:Nat)]:=q5;have q3:=(q3.ax e2).ax e3;have q4:=q4.ax e3;have e03:aC h h3:=(e1.trans e2).trans e3;have hn3:cB h3 O nb v ss st:=hn.ax e03 (fun _ _ k=>k);have hO3:∀b,O b->b<h3.size:=fun b hb=>by have:=hO b hb;have:=e03.size;omega
 have nx3:Nx (fun _=>False) nb h v h3 v:=Nx.JN e03;have hsl3:bX ry h3 (eO nb v) (.slice oa kn kc) kids:=hkids.mv nx3.qV
 have hnew3:∀b,h3.size<=b->¬(eO nb v b\/O b):=by
  have hz:=e03.size;rintro b hb ((k1|k1)|k1)
  · omega
  · have:=hown b k1.symm;omega
  · have:=hO b k1;omega
 have hnM:∀b,h.size<=b->¬(eO nb v b\/False):=by
  rintro b hb ((k1|k1)|k1)
  · omega
  · have:=hown b k1.symm;omega
  · exact k1
 have hkn:kids.length=kn:=hsl.len;have hwl:sv kids=true:=by simp only[su,Bool.and_eq_true] at hw;exact hw.2
 have hklen:=B9 kids;refine aN 1 [0,1,2,3,4,5,6] rfl ?_;refine av rfl ?_;refine xr func48 rfl ?_;refine xp rfl (af (off:=0) underlying132 rfl rfl H.bV rfl) ?_;refine xp rfl (ai H.cK rfl (q4.cell (i:=0) rfl)) ?_;refine xd [0,1,2,3,4,5,6,15] rfl ?_;refine G.block rfl rfl ?_;refine bf func48 2 [0,1,2,3,4,5,6,15,16] rfl ?_;refine aM rfl rfl (fun h1k=>?_) (fun h1k=>?_)
 · obtain rfl:k=1:=by omega
   have hlay:lay (.mk 1 s kids) ss to=(ss++[⟨1,s,[to],0⟩],ss.length):=by rw[lay];simp
   rw[hlay];refine xr func48 rfl ?_;refine xp rfl (ai H.rU rfl (q3.cell (i:=0) rfl)) ?_;refine xp rfl (af (off:=1) underlying132 rfl rfl H.lG rfl) ?_;refine xp rfl (aj.aE H.IP H.lG rfl (q4.part 1 (ds:=[eP s 0,eP s 1,eP s 2,eP s 3]) (by intro j v hv;match j with| 0=>exact hv| 1=>exact hv| 2=>exact hv| 3=>exact hv|j+4=>simp at hv)) (by first|rfl|(simp;done)|(simp;omega))) ?_;refine xp rfl (ai H.cK rfl (q5.cell (i:=0) rfl)) ?_;refine xo rfl (az.bg (us:=[_]) underlying127 H.pP rfl rfl (by decide) (by simp[Value.oneCell'])) ?_;rintro _ _ ⟨rfl,rfl⟩;refine xp rfl (aG (H.AI _ _ _ _ _ _ _ _) rfl) ?_;refine xo rfl (aq (vs:=[_,_]) func49 rfl H.Bo rfl (ah.bq (yE (O:=O) (x:=⟨1,s,[to],0⟩) (hn3.ax (Ext.push _ _ _) (fun _ _ k=>k)) (fun b hb=>by have:=hO3 b hb;simp;omega) ⟨_,rfl,Nu _ to (hnew3 _ (Nat.le_refl _))⟩ (by omega)))) ?_;rintro _ h5 ⟨v',rfl,hn5,nx5⟩;refine aN 1 [0,1,2,3,4,5,6,15,16] rfl ?_;refine G.ret func48 rfl rfl ?_;exact⟨_,rfl,v',rfl,hn5,(nx3.trans (Nx.JN (Ext.push _ _ _)) (fun _ _ k=>k)).trans nx5 (fun _ _ k=>k)⟩
 · have h1k':¬k=1:=kk h1k;refine bf func48 2 [0,1,2,3,4,5,6,15,16,25] rfl ?_;refine aM rfl rfl (fun h2k=>?_) (fun h2k=>?_)
   · obtain rfl:k=2:=by omega
     have hlay:lay (.mk 2 s kids) ss to=bL kids ss to:=by rw[lay];simp
     rw[hlay];have hz0:=e03.size;refine av rfl ?_;refine xr func48 rfl ?_;refine xp rfl (af (off:=5) underlying132 rfl rfl H.zm rfl) ?_;refine xp rfl (ai H.uL rfl (q4.cell (i:=5) rfl)) ?_;refine xo rfl (aq (vs:=[_]) func95 rfl H.Mx rfl (ah.bq (uF (.slice oa kn kc) rfl))) ?_;rintro _ h4 ⟨rfl,hh4⟩;have e4:aC h3 h4:=by rw[hh4];exact Ext.push _ _ _
     have q6:bh h4 h3.size 130 [.slice oa kn kc]:=by rw[hh4];exact yJ _ _ _
     have z4:h4.size=h3.size+1:=by rw[hh4];simp
     clear hh4;refine xd [0,1,2,3,4,5,6,15,16,25,29] rfl ?_;refine G.block rfl rfl ?_;refine G.rangeFunc rfl rfl func140 rfl (by decide +kernel) ?_;intro fid tmps hfits;obtain⟨r0,hr0⟩:∃r0,r0=fH fid tmps #[30,31] (Mq (Lw.sub (aK f48) [0,1,0,0,1,1,1,0,1,0,1])) (Mp (Lw.sub (aK f48) [0,1,0,0,1,1,1,0,1,0,1])) h4.size:=⟨_,rfl⟩
     obtain⟨hL,hhL⟩:∃hL,hL=(h4.push (.deferred (some []))).push (.loop r0):=⟨_,rfl⟩
     suffices hmain:ah Tryz.prog 140 #[.func (.yield (h4.size+1)) #[] #[],.pointer (some ⟨h3.size,0,none⟩)] hL _ by rw[hhL,hr0] at hmain;exact hmain
     have hst:r0.state= .ready:=by rw[hr0];rfl
     have hpn:r0.pending=none:=by rw[hr0];rfl
     have hps:r0.params= #[30,31]:=by rw[hr0];rfl
     have htm:r0.tmps=tmps:=by rw[hr0];rfl
     have eL:aC h4 hL:=by rw[hhL];exact(Ext.push _ _ _).trans (Ext.push _ _ _)
     have hLz:hL.size=h4.size+2:=by rw[hhL];simp
     have hloop0:cO hL (h4.size+1) r0:=by
      have hz:h4.size+1=(h4.push (.deferred (some []))).size:=by simp
      rw[cO,hhL,hz];exact Array.getElem?_push_size
     have hdef0:hL[h4.size]? =some (.deferred (some [])):=by
      rw[hhL,(Ext.push (fun _=>False) (h4.push (.deferred (some []))) _).block h4.size (by simp) (fun k=>k)];exact Array.getElem?_push_size
     clear hhL;have e0L:aC h hL:=(e03.trans e4).trans eL;have q3L:=(q3.ax e4).ax eL;have q5L:=(q5.ax e4).ax eL;have q6L:=q6.ax eL;have hnL:cB hL (fun b=>O b\/(h2.size<=b/\b<hL.size)) nb v ss st:=hn.ax e0L (fun b hb k=>k.elim id (fun k=>by omega));have hkL:bX ry hL (fun b=>eO nb v b\/(h2.size<=b/\b<hL.size)) (.slice oa kn kc) kids:=hkids.mv ⟨e0L.size,fun b hb hn=>⟨e0L.block b hb (fun k=>k),fun k=>k.elim hn (fun k=>by omega)⟩⟩;have hdropn:kids.drop kn=[]:=List.drop_of_length_le (by omega);have hJ0:HV nb h2.size h3.size h4.size r0 hL v (.slice oa kn kc) O kids ss st to kn hL:=⟨v,hloop0,hdef0,q6L,by rw[hdropn,bL];exact hnL,by rw[hdropn,bL];exact q5L,Nx.refl⟩
     have hvM:∀{v':Value}{g:aA},Nx (fun b=>h2.size<=b/\b<hL.size) nb hL v g v'->∀b,h.size<=b->b<hL.size->¬eO nb v' b:=by
      rintro v' g nx b hb hb' (k1|k1)
      · omega
      · rcases nx.own b k1.symm with k2|k2
        · have:=hown b k2;omega
        · omega
     refine suff (p:=∀j g,HV nb h2.size h3.size h4.size r0 hL v (.slice oa kn kc) O kids ss st to (j+1) g->j<kn->∃(b o k s:Nat) (w:Value),oa=some ⟨b,o,none⟩/\Lw.rowAt g b (o+j*6) (dU k s w)/\gG Tryz.prog (h4.size+1) #[.int .i64 (j:Nat),.agg (dU k s w).toArray] g (cM fun r h'=>r= .bool true/\HV nb h2.size h3.size h4.size r0 hL v (.slice oa kn kc) O kids ss st to j h')) ?_ fun hy=>?_
     · intro j g ⟨v',hlp,hdf,hcap,hng,hb5,nxg⟩ hj;obtain⟨x,hx⟩:∃x,kids[j]? =some x:=⟨_,List.getElem?_eq_getElem (by omega)⟩
       have hkg:=hkL.mv nxg.mv;obtain⟨oa',n',c',hv',_,_,_,hget⟩:=id hkg;cases hv';obtain⟨b,o,cs,ha,hob,hrow,hnd⟩:=hget j x hx;obtain⟨w2,rfl,-⟩:=hnd.open;refine⟨b,o,x.kind,x.set,w2,ha,hrow,?_⟩;have hcatd:=Ao hx ss to;have hszx:=EA hx;have hbl:=jf (kids.drop (j+1)) ss to;have hfit:=tV (p1:=30) (p2:=31) (v1:=.int .i64 (j:Nat)) (v2:=.agg (dU x.kind x.set w2).toArray) hfits rfl rfl;rw[<-hps,<-htm] at hfit;have hvg:=hvM nxg;have hzg:=nxg.ext.size;have q3g:=q3L.ext nxg.ext (fun k=>k.elim (hvM Nx.refl (v':=v) (g:=hL) _ (Nat.le_refl _) (by omega)) (fun k=>by omega));refine gG.of hlp hst (by rw[hps];rfl) hfit ((congrArg Loop.assign hr0).trans rfl) ((congrArg Loop.body hr0).trans rfl) ?_;refine eF.Di rfl rfl rfl rfl rfl (az.aQ H.jU) ?_;rintro _ g1 ⟨rfl,k8,e1',zz1⟩;refine eF.bB rfl rfl rfl rfl (az.au H.cv rfl rfl k8 (by first|rfl|(simp;done)|(simp;omega)) (by first|decide|exact of_decide_eq_true rfl|(simp;done)|(simp;omega)) (cm.one hnd)) ?_;rintro _ g2 ⟨rfl,k8',e2',zz2⟩;refine fQ rfl ?_;have e12:aC g g2:=e1'.only e2' (Nat.le_refl _);have k8':bh g2 g.size 132 (dU x.kind x.set w2):=k8';refine⟨(e12.block _ hlp.lt (fun k=>k)).trans hlp,?_⟩;obtain⟨g3,hg3⟩:∃g3,g3=Lw.cA g2 (h4.size+1) (.loop { r0 with state:=.busy }):=⟨_,rfl⟩
       rw[<-hg3];have hlz:=hlp.lt;have hz2:=e12.size;have e23:Ext (fun b=>b=h4.size+1) g2 g3:=by rw[hg3];exact Ext.cA _ _ _ rfl
       have hlp3:cO g3 (h4.size+1) { r0 with state:=.busy }:=by rw[cO,hg3];exact gR (by omega)
       have hz3:=e23.size;have e13:Ext (fun b=>b=h4.size+1) g g3:=(e12.mono fun _ _ k=>k.elim).trans e23;have l3:¬h.size=h4.size+1:=by omega
       have l5:¬h2.size=h4.size+1:=by omega
       have l6:¬h3.size=h4.size+1:=by omega
       have l8:¬g.size=h4.size+1:=by omega
       have ld:¬h4.size=h4.size+1:=by omega
       have q33:=q3g.ext e13 l3;have b53:=hb5.ext e13 l5;have cap3:=hcap.ext e13 l6;have k83:=k8'.ext e23 l8;have hown':∀b,v'.ownBlock=some b->¬b=h4.size+1:=fun b hb k=>hvg b (by omega) (by omega) (.inr hb.symm)
       have hn3g:cB g3 (fun b=>O b\/(h2.size<=b/\b<hL.size)) nb v' (bL (kids.drop (j+1)) ss to).1 st:=hng.ext e13 (by omega) hown' (fun b _ k=>.inr (by omega)) (fun b _ k=>k);have hnd3:cm g3 (eO nb v') (dU x.kind x.set w2) x:=hnd.mv ⟨e13.size,fun b hb hn=>⟨e13.block b hb (fun k=>hn (.inr (by omega))),fun k=>hn (.inl k)⟩⟩;refine eF.ay rfl rfl rfl rfl rfl (ai H.rU rfl (q33.cell (i:=0) rfl)) ?_;refine eF.ay rfl rfl rfl rfl rfl (aj.aE H.eS H.cv rfl k83.row (by first|rfl|(simp;done)|(simp;omega))) ?_;refine eF.ay rfl rfl rfl rfl rfl (ai H.cK rfl (b53.cell (i:=0) rfl)) ?_;refine eF.Di rfl rfl rfl rfl rfl (aq (vs:=[_,_,_]) func48 rfl H.Dn rfl (ah.bq (ih (x:=x) (O:=fun b=>O b\/(h2.size<=b/\b<hL.size)) (to:=(bL (kids.drop (j+1)) ss to).2) (by omega) hn3g (fun b hb=>by rcases hb with k|k;(have:=hO b k;omega);omega) hnd3 (wO hwl hx) (by omega)))) ?_;rintro _ g4 ⟨v4,rfl,hn4,nx4⟩;have hM4:∀b,h.size<=b->b<hL.size->¬(eO nb v' b\/False):=fun b h1 h2 k=>k.elim (hvg b h1 h2) id
       have b54:=b53.ext nx4.ext (hM4 _ (by omega) (by omega));refine eF.bB rfl rfl rfl rfl (az.bA H.bV rfl rfl b54 (by first|decide|exact of_decide_eq_true rfl|(simp;done)|(simp;omega)) rfl) ?_;rintro _ g5 ⟨rfl,b55,e5',zz5⟩;refine fQ rfl ?_;have b55:bh g5 h2.size 3 [.int .i64 ((lay x (bL (kids.drop (j+1)) ss to).1 (bL (kids.drop (j+1)) ss to).2).2:Nat)]:=b55;have hz4:=nx4.ext.size;have nx45:Nx (fun b=>h2.size<=b/\b<hL.size) nb g3 v' g5 v4:=⟨⟨by omega,fun b hb hn=>by rw[e5'.block b (by omega) (fun k=>hn (.inr (by omega))),nx4.ext.block b hb (fun k=>hn (k.elim .inl (fun k=>k.elim)))]⟩,nx4.own⟩
       have hlp5:cO g5 (h4.size+1) { r0 with state:=.busy }:=(hlp3.ext nx4.ext (hM4 _ (by omega) (by omega))).ext e5' (fun k=>by omega);have hr2:({ ({ r0 with state:=.busy }:Loop) with state:=.ready,pending:=none }:Loop)=r0:=by cases r0;simp at hst hpn;simp[hst,hpn]
       refine⟨_,hlp5,rfl,?_⟩;rw[hr2];have e56:Ext (fun b=>b=h4.size+1) g5 (Lw.cA g5 (h4.size+1) (.loop r0)):=Ext.cA _ _ _ rfl
       have hown4:∀b,v4.ownBlock=some b->¬b=h4.size+1/\¬b=h2.size:=fun b hb=>by
        rcases nx4.own b hb with k|k
        · exact⟨hown' b k,fun k'=>hvg b (by omega) (by omega) (.inr k.symm)⟩
        · omega
       have hdf5:g5[h4.size]? =some (.deferred (some [])):=by
        rw[e5'.block h4.size (by omega) (by omega),nx4.ext.block h4.size (by omega) (hM4 _ (by omega) (by omega)),e13.block h4.size (by omega) (by omega)];exact hdf
       have cap5:=(cap3.ext nx4.ext (hM4 _ (by omega) (by omega))).ext e5' (by omega);refine⟨v4,gR (by omega),by rw[e56.block h4.size (by omega) (by omega)];exact hdf5,cap5.ext e56 l6,?_,?_,?_⟩
       · rw[hcatd];have hn5:cB g5 (fun b=>O b\/(h2.size<=b/\b<hL.size)) nb v4 (lay x (bL (kids.drop (j+1)) ss to).1 (bL (kids.drop (j+1)) ss to).2).1 st:=hn4.ext e5' (by omega) (fun b hb=>(hown4 b hb).2) (fun b _ k=>.inr (by omega)) (fun _ _ k=>k);exact hn5.ext e56 (by omega) (fun b hb=>(hown4 b hb).1) (fun b _ k=>.inr (by omega)) (fun _ _ k=>k)
       · rw[hcatd];exact b55.ext e56 l5
       · exact((nxg.trans ⟨e13.mono (fun b _ k=>.inr (by omega)),fun b k=>.inl k⟩ (fun b _ k=>k)).trans nx45 (fun b _ k=>k)).trans ⟨e56.mono (fun b _ k=>.inr (by omega)),fun b k=>.inl k⟩ (fun b _ k=>k)
     · refine(rT (l:=h4.size+1) (cap:=h3.size) (n:=kn) (c:=kc) (J:=HV nb h2.size h3.size h4.size r0 hL v (.slice oa kn kc) O kids ss st to) (by omega) (fun j g hJ=>by obtain⟨_,_,_,k,_⟩:=hJ;exact k.cell (i:=0) rfl) hy hJ0).mono fun e g hJ=>?_
       obtain⟨u,rfl,v',hlp,hdf,hcap,hng,hb5,nxg⟩:=hJ;rw[List.drop_zero] at hng hb5;refine⟨_,rfl,r0,hlp,by rw[hst];decide,hpn,?_⟩;have hzg:=nxg.ext.size;have hlz:=hlp.lt;have e1:Ext (fun b=>b=h4.size+1) g (Lw.cA g (h4.size+1) (.loop { r0 with state:=.exhausted })):=Ext.cA _ _ _ rfl;have b5e:=hb5.ext e1 (by omega);have hdfe:=(e1.block h4.size (by omega) (by omega)).trans hdf;have hvg:=hvM nxg;refine GD.aR ?_;refine mT rfl ?_;refine GD.cz func48 rfl ?_;refine iG.ay rfl rfl rfl rfl (ai H.cK rfl (b5e.cell (i:=0) rfl)) ?_;refine iG.ay rfl rfl rfl rfl (aj.assign rfl) ?_;refine jq rfl ?_;refine GD.sub (ρ':=[(0,_),(1,_),(2,_),(3,_),(4,_),(5,_),(6,_),(15,_),(16,_),(25,_),(29,_)]) ⟨rfl,rfl,rfl,rfl,rfl,rfl,rfl,rfl,rfl,rfl,rfl,trivial⟩ ?_;refine GD.Cm func48 rfl hdfe rfl ?_;have e2:Ext (fun b=>b=h4.size) (Lw.cA g (h4.size+1) (.loop { r0 with state:=.exhausted })) (Lw.cA (Lw.cA g (h4.size+1) (.loop { r0 with state:=.exhausted })) h4.size (.deferred none)):=Ext.cA _ _ _ rfl;have e12:Ext (fun b=>b=h4.size+1\/b=h4.size) g _:=(e1.mono fun _ _ k=>.inl k).trans (e2.mono fun _ _ k=>.inr k);have hownv:∀b,v'.ownBlock=some b->¬(b=h4.size+1\/b=h4.size):=fun b hb k=>hvg b (by omega) (by omega) (.inr hb.symm)
       refine⟨_,rfl,v',rfl,hng.ext e12 (by omega) hownv (fun b _ k=>.inr (by omega)) (fun b _ k=>.inl k),?_⟩;have nxe:Nx (fun b=>h2.size<=b) nb h v _ v':=((Nx.JN e0L).trans nxg (fun b _ k=>k.1)).trans ⟨e12.mono (fun b _ k=>.inr k),fun b k=>.inl k⟩ (fun b hb k=>by omega);exact nxe.mono (fun b hb k=>by omega)
   · have h2k':¬k=2:=kk h2k;refine bf func48 2 [0,1,2,3,4,5,6,15,16,25,37] rfl ?_;refine aM rfl rfl (fun h3k=>?_) (fun h3k=>?_)
     · obtain rfl:k=3:=by omega
       have hlay:lay (.mk 3 s kids) ss to=((bC kids ss to).1++[⟨0,0,(bC kids ss to).2,0⟩],(bC kids ss to).1.length):=by rw[lay];simp
       rw[hlay];refine bf func48 1 [0,1,2,3,4,5,6,9,15,16,25,37] rfl ?_;refine av rfl ?_;refine xr func48 rfl ?_;refine xp rfl (af (off:=5) underlying132 rfl rfl H.zm rfl) ?_;refine xp rfl (ai H.uL rfl (q4.cell (i:=5) rfl)) ?_;refine xp rfl (aj.aS underlying130 rfl) ?_;refine aN 1 [0,1,2,3,4,5,6,9,15,16,25,37,40,41,42] rfl ?_;refine G.block rfl rfl ?_;refine bO (σ:=Nat×Value) (fun p=>[(3,.pointer (some ⟨h.size,0,none⟩)),(5,.pointer (some ⟨h2.size,0,none⟩)),(9,p.2),(40,.slice oa kn kc),(41,.int .i64 (kn:Nat)),(42,.int .i64 (p.1:Nat))]) (fun p h'=>p.1<=kn/\∃v',cB h' (fun b=>O b\/cV p.2.ownBlock b) nb v' (bC (kids.take p.1) ss to).1 st/\dx iw (fun _=>True) h' h3.size 3 p.2 (bC (kids.take p.1) ss to).2/\Nx (fun _=>False) nb h3 v h' v'/\(∀b,p.2.ownBlock=some b->v'.ownBlock≠some b)) (fun p=>kn-p.1) ((0,.slice none 0 0)) rfl ⟨rfl,rfl,rfl,rfl,rfl,rfl,trivial⟩ ⟨Nat.zero_le _,v,by simpa [bC] using hn3.ax (Ext.refl _ _) (fun b _ k=>k.elim id (fun k=>by cases k)),by simpa [bC] using dx.nil iw (fun _=>True) h3 h3.size 3,Nx.refl,fun b hb=>by cases hb⟩ ?_;rintro⟨i,t9⟩ gh ⟨hi,v',hnH,htH,nxH,hdist⟩ ih2
       try dsimp only
       dsimp only at hi hnH htH nxH hdist;have hzH:=nxH.ext.size;have hz0:=e03.size;have q3H:=q3.ext nxH.ext (hnM _ (Nat.le_refl _));have q5H:=q5.ext nxH.ext (hnM _ (by omega));have hslH:bX ry gh (eO nb v') (.slice oa kn kc) kids:=hsl3.mv nxH.qV;have ht9:∀b,t9.ownBlock=some b->h3.size<=b/\b<gh.size:=fun b hb=>by obtain⟨_,_,k,_⟩:=id htH;exact k.lt hb
       have hlenT:(bC (kids.take i) ss to).2.length=i:=by rw[mj,List.length_take];omega
       refine bf func48 1 [3,5,9,40,41,42,43] rfl ?_;refine av rfl ?_;refine aM rfl rfl (fun hlt=>?_) (fun hlt=>?_)
       · have hik:i<kids.length:=by omega
         obtain⟨x,hx⟩:∃x,kids[i]? =some x:=⟨_,List.getElem?_eq_getElem hik⟩
         obtain⟨oa',n',c',hv',_,_,_,hget⟩:=id hslH;cases hv';obtain⟨b,o,cs,ha,hob,hrow,hnd⟩:=hget i x hx;obtain⟨w2,rfl,-⟩:=hnd.open;have hszx:=Ey hx;have hbl:=fD (kids.take i) ss to;refine aB rfl ?_;refine av rfl ?_;refine G.block rfl rfl ?_;refine xr func48 rfl ?_;refine xp rfl (aj.aH underlying130 H.cv rfl rfl i rfl ha (by omega)) ?_;refine xp rfl (aj.aE H.eS H.cv rfl hrow (by first|rfl|(simp;done)|(simp;omega))) ?_;refine xo rfl (az.aQ H.jU) ?_;rintro _ h5 ⟨rfl,q11,e5,z5⟩;refine RW.bB rfl rfl rfl (az.au H.cv rfl rfl q11 (by first|rfl|(simp;done)|(simp;omega)) (by first|decide|exact of_decide_eq_true rfl|(simp;done)|(simp;omega)) (cm.one hnd)) ?_;rintro _ h6 ⟨rfl,q11',e6,z6⟩;have e56:aC gh h6:=e5.only e6 (Nat.le_refl _);have q11':bh h6 gh.size 132 (dU x.kind x.set w2):=q11';have hn6:cB h6 (fun b=>O b\/cV t9.ownBlock b) nb v' (bC (kids.take i) ss to).1 st:=hnH.ax e56 (fun _ _ k=>k);have nx6:Nx (fun _=>False) nb gh v' h6 v':=Nx.JN e56;have hz6:=e56.size;have hnd6:=hnd.mv nx6.qV;refine xd [3,5,9,11,40,41,42,43] rfl ?_;refine G.cz func48 rfl ?_;refine cI 1 rfl rfl (ai H.rU rfl ((q3H.ax e56).cell (i:=0) rfl)) ?_;refine xp rfl (aj.aE H.eS H.cv rfl q11'.row (by first|rfl|(simp;done)|(simp;omega))) ?_;refine xp rfl (ai H.cK rfl ((q5H.ax e56).cell (i:=0) rfl)) ?_;refine xo rfl (aq (vs:=[_,_,_]) func48 rfl H.Dn rfl (ah.bq (ih (x:=x) (O:=fun b=>O b\/cV t9.ownBlock b) (to:=to) (by omega) hn6 (fun b hb=>by rcases hb with k|k;(have:=hO3 b k;omega);(have:=ht9 b k.symm;omega)) hnd6 (wO hwl hx) (by omega)))) ?_;rintro _ h7 ⟨v7,rfl,hn7,nx7⟩
         have ht7:dx iw (fun _=>True) h7 h3.size 3 t9 (bC (kids.take i) ss to).2:=(htH.ax e56).qd nx7.ext (fun b hb=>by
          rintro((k1|k1)|k1)
          · have:=ht9 b hb;omega
          · exact hdist b hb k1.symm
          · exact k1) (fun _ _ _=>trivial) (fun _ _ _=>trivial)
         obtain⟨css,hc1,hc2,hc3⟩:=id ht7;have hz7:=nx7.ext.size;refine xo rfl (az.bg (us:=[_]) underlying127 H.pP rfl rfl (by decide) (by simp[Value.oneCell'])) ?_;rintro _ _ ⟨rfl,rfl⟩;refine xo rfl (az.bU underlying127 H.pP rfl rfl (hc2) rfl rfl (by first|decide|simp[Value.oneCell']) (by omega) (by decide) (by omega)) ?_;rintro t9' h8 ⟨ho8,hx8,-,hv8⟩;refine aN 1 [3,5,9,11,40,41,42,43] rfl ?_;refine G.aR ?_;refine G.cz func48 rfl ?_;refine xp rfl (aj.bJ rfl rfl ⟨by omega,by omega⟩) ?_;refine aN 1 [3,5,9,11,40,41,42,43] rfl ?_;have ht8:dx iw (fun _=>True) h8 h3.size 3 t9' ((bC (kids.take i) ss to).2++[(lay x (bC (kids.take i) ss to).1 to).2]):=dx.gz hc1 hc3 ho8 hx8 hv8 rfl
         have hn8:cB h8 (fun b=>O b\/cV t9'.ownBlock b) nb v7 (lay x (bC (kids.take i) ss to).1 to).1 st:=hn7.ext hx8 (fun k=>by have:=ht9 nb k.symm;omega) (fun b hb k=>by
          rcases nx7.own b hb with k'|k'
          · exact hdist b k.symm k'
          · have:=ht9 b k.symm;omega) (fun b _ k=>.inr k) (fun b hb k=>k.imp id (fun k=>by
            rcases hv8 b k.symm with k'|k'
            · exact k'.symm
            · omega))
         have hd8:∀b,t9'.ownBlock=some b->v7.ownBlock≠some b:=fun b hb k=>by
          rcases hv8 b hb with k'|k'
          · rcases nx7.own b k with k2|k2
            · exact hdist b k' k2
            · have:=ht9 b k';omega
          · have:=(hn7.own b k).2;omega
         exact ih2 (i+1,t9') _ _ ⟨rfl,rfl,rfl,rfl,rfl,rfl,trivial⟩ ⟨by show i+1<=kn;omega,v7,by rw[qY hx];exact hn8,by rw[qY hx];exact ht8,⟨⟨by have:=hx8.size;omega,fun b hb hn=>by rw[hx8.block b (by omega) (fun k=>by have:=ht9 b k.symm;omega)];exact((nxH.trans nx6 (fun _ _ k=>k)).trans nx7 (fun _ _ k=>k)).ext.block b hb hn⟩,((nxH.trans nx6 (fun _ _ k=>k)).trans nx7 (fun _ _ k=>k)).own⟩,hd8⟩ (by show kn-(i+1)<kn-i;omega)
       · obtain rfl:i=kn:=by omega
         have hall:kids.take i=kids:=List.take_of_length_le (by omega);rw[hall] at hnH htH hlenT;have hbl:=fD kids ss to
         have hrd:bX iw gh (fun b=>eO nb v' b\/O b) t9 (bC kids ss to).2:=htH.Cn (fun b hb=>by
          rintro((k1|k1)|k1)
          · have:=ht9 b hb;omega
          · exact hdist b hb k1.symm
          · have:=ht9 b hb;have:=hO3 b k1;omega) (fun _ _ _=>trivial)
         obtain⟨oa9,n9,c9,rfl,_⟩:=id hrd;refine bD rfl rfl ?_;refine xr func48 rfl ?_;refine xp rfl (ai H.rU rfl (q3H.cell (i:=0) rfl)) ?_;refine cI 1 rfl rfl (aG (H.yA _ _ _) rfl) ?_;refine xo rfl (aq (vs:=[_,_]) func49 rfl H.Bo rfl (ah.bq (mN (O:=O) (hnH.ax (Ext.refl _ _) (fun b _ k=>.inl k)) (fun b hb=>by have:=hO3 b hb;omega) hrd (by omega)))) ?_;rintro _ h5 ⟨v5,rfl,hn5,nx5⟩;refine aN 1 [3,5,6,9,40,41,42,43] rfl ?_;refine G.ret func48 rfl rfl ?_;exact⟨_,rfl,v5,rfl,hn5,(nx3.trans nxH (fun _ _ k=>k)).trans nx5 (fun _ _ k=>k)⟩
     · have h3k':¬k=3:=kk h3k;refine bf func48 2 [0,1,2,3,4,5,6,15,16,25,37,58] rfl ?_;refine aM rfl rfl (fun h6k=>?_) (fun h6k=>?_)
       · obtain rfl:k=6:=by omega
         have hone:kids.length=1:=by simp[su] at hw;exact hw.1
         obtain⟨x,rfl⟩:∃x,kids=[x]:=by match kids,hone with| [x],_=>exact⟨x,rfl⟩
         have hkn1:kn=1:=by simpa using hkn.symm
         have hszx:nj x<=gv [x]:=by simp[gv]
         have hwx:su x=true:=by simpa [sv] using hwl
         have hlay:lay (.mk 6 s [x]) ss to=((lay x ss to).1++[⟨0,0,[(lay x ss to).2,to],0⟩],(lay x ss to).1.length):=by rw[lay];simp[cF]
         rw[hlay];have hz0:=e03.size;obtain⟨oa',n',c',hv',_,_,_,hget⟩:=id hsl3;cases hv';obtain⟨b,o,cs,ha,hob,hrow,hnd⟩:=hget 0 x rfl;obtain⟨w2,rfl,-⟩:=hnd.open
         have hnM3:∀b,h.size<=b->b<h3.size->¬(eO nb v b\/h3.size<=b):=by
          rintro b hb hb' ((k1|k1)|k1)
          · omega
          · have:=hown b k1.symm;omega
          · omega
         have hbM:¬(eO nb v b\/h3.size<=b):=by
          rintro(k1|k1)
          · exact hob k1
          · have:=dW hrow (by simp[dU]);omega
         have m3:=hnM3 h.size (Nat.le_refl _) (by omega);have m4:=hnM3 h1.size (by omega) (by omega);have m5:=hnM3 h2.size (by omega) (by omega);have hlenx:=fR x ss to;refine av rfl ?_;refine bQ (fun b=>eO nb v b\/Array.size h3<=b) (fun i=>Nat.blt i 13) (sz:=13) (listed:= #[false,false,false,false,false,false,false,false,false,false,false,false,false]) func48 H.mixed rfl rfl rfl ?_;refine bP 0 1 (by kernel_rfl) rfl (fun h' e=>ai H.rU rfl (e.cell m3 (q3.cell (i:=0) rfl))) ?_;refine bP 1 3 (by kernel_rfl) rfl (fun h' e=>ai H.rU rfl (e.cell m3 (q3.cell (i:=0) rfl))) ?_;refine bP 2 7 (by kernel_rfl) rfl (fun h' e=>af (off:=5) underlying132 rfl rfl H.zm rfl) ?_;refine bP 3 15 (by kernel_rfl) rfl (fun h' e=>ai H.uL rfl (e.cell m4 (q4.cell (i:=5) rfl))) ?_;refine bP 4 31 (by kernel_rfl) rfl (fun h' e=>aj.aH underlying130 H.cv rfl rfl 0 rfl ha (by omega)) ?_;refine bP 5 63 (by kernel_rfl) rfl (fun h' e=>aj.aE H.eS H.cv rfl (e.rowAt hbM hrow) (by first|rfl|(simp;done)|(simp;omega))) ?_;refine bP 6 127 (by kernel_rfl) rfl (fun h' e=>ai H.cK rfl (e.cell m5 (q5.cell (i:=0) rfl))) ?_;refine bP 8 383 (by kernel_rfl) rfl (fun h' e=>ai H.cK rfl (e.cell m5 (q5.cell (i:=0) rfl))) ?_;refine dZ 7 511 (by kernel_rfl) rfl (aq (vs:=[_,_,_]) func48 rfl H.Dn rfl (ah.bq (ih (x:=x) (O:=O) (to:=to) (by omega) hn3 hO3 hnd hwx (by omega)))) ?_;rintro _ h5 ⟨v5,rfl,hn5,nx5⟩;refine⟨fun _=>nx5.ext.mono (fun b _ k=>k.elim .inl (fun k=>k.elim)),?_⟩;have hz5:=nx5.ext.size;have hown5:=hn5.own
         have hnew5:∀t,bX iw (h5.push (.cells #[.int .i64 ((lay x ss to).2:Nat),.int .i64 (to:Nat)] t)) (fun b=>eO nb v5 b\/O b) (.slice (some ⟨h5.size,0,none⟩) 2 2) [(lay x ss to).2,to]:=fun t=>Md t _ _ (by
          rintro((k1|k1)|k1)
          · omega
          · have:=hown5 _ k1.symm;omega
          · have:=hO3 _ k1;omega)
         refine dZ 9 1023 (by kernel_rfl) rfl (az.bg (us:=[_,_]) underlying127 H.pP rfl rfl (by decide) (by simp[Value.oneCell'])) ?_;rintro _ _ ⟨rfl,rfl⟩;refine⟨fun _=>by first|exact Ext.push _ _ _|assumption,?_⟩;refine bP 10 2047 (by kernel_rfl) rfl (fun h' e=>aG (H.yA _ _ _) rfl) ?_;refine dZ 11 4095 (by kernel_rfl) rfl (aq (vs:=[_,_]) func49 rfl H.Bo rfl (ah.bq (mN (O:=O) (hn5.ax (Ext.push _ _ _) (fun _ _ k=>k)) (fun b hb=>by have:=hO3 b hb;simp;omega) (hnew5 _) (by omega)))) ?_;rintro _ h6 ⟨v6,rfl,hn6,nx6⟩;refine⟨fun _=>nx6.ext.mono (fun b _ k=>by rcases k with (k1|k1)|k1;(exact .inl (.inl k1));(rcases nx5.own b k1.symm with k2|k2;(exact .inl (.inr k2.symm));exact .inr k2);exact k1.elim),?_⟩;refine cu 12 8191 (by kernel_rfl) rfl ?_;refine bu (by kernel_rfl) ?_;refine xu [0,1,2,3,4,5,6,15,16,25,37,58] rfl ?_;refine G.ret func48 rfl rfl ?_;exact⟨_,rfl,v6,rfl,hn6,((nx3.trans nx5 (fun _ _ k=>k)).trans (Nx.JN (Ext.push _ _ _)) (fun _ _ k=>k)).trans nx6 (fun _ _ k=>k)⟩
       · have h6k':¬k=6:=kk h6k;refine av rfl ?_;refine bf func48 2 [0,1,2,3,4,5,6,15,16,25,37,58,72] rfl ?_;refine aM rfl rfl (fun h4k=>?_) (fun h4k=>?_)
         · obtain rfl:k=4:=by omega
           have hone:kids.length=1:=by simp[su] at hw;exact hw.1
           obtain⟨x,rfl⟩:∃x,kids=[x]:=by match kids,hone with| [x],_=>exact⟨x,rfl⟩
           have hkn1:kn=1:=by simpa using hkn.symm
           have hszx:nj x<=gv [x]:=by simp[gv]
           have hwx:su x=true:=by simpa [sv] using hwl
           have hlay:lay (.mk 4 s [x]) ss to=((lay x (ss++[⟨0,0,[],0⟩]) ss.length).1.set ss.length ⟨0,0,[(lay x (ss++[⟨0,0,[],0⟩]) ss.length).2,to],0⟩,ss.length):=by rw[lay];simp[cF]
           rw[hlay];refine aB rfl ?_;refine aJ rfl rfl (fun _=>?_) (fun hc=>absurd hc (by simp));refine xr func48 rfl ?_;refine xp rfl (ai H.rU rfl (q3.cell (i:=0) rfl)) ?_;refine xp rfl (aG (H.Gf ) rfl) ?_;refine xo rfl (aq (vs:=[_,_]) func49 rfl H.Bo rfl (ah.bq (mN (O:=O) (to:=[]) hn3 hO3 (bX.nil _ _ _) (by omega)))) ?_;rintro _ h5 ⟨v5,rfl,hn5,nx5⟩;have hz5:=nx5.ext.size;have hz0:=e03.size;have q3':=q3.ext nx5.ext (hnM _ (Nat.le_refl _));have q4':=q4.ext nx5.ext (hnM _ (by omega));have q5':=q5.ext nx5.ext (hnM _ (by omega));have hsl5:bX ry h5 (eO nb v5) (.slice oa kn kc) [x]:=hsl3.mv nx5.qV;obtain⟨oa',n',c',hv',_,_,_,hget⟩:=id hsl5;cases hv';obtain⟨b,o,cs,ha,hob,hrow,hnd⟩:=hget 0 x rfl;obtain⟨w2,rfl,-⟩:=hnd.open;have hown5:=hn5.own
           have hnM5:∀b,h.size<=b->b<h3.size->¬(eO nb v5 b\/h5.size<=b):=by
            rintro b hb hb' ((k1|k1)|k1)
            · omega
            · rcases nx5.own b k1.symm with k2|k2
              · have:=hown b k2;omega
              · omega
            · omega
           have hbM:¬(eO nb v5 b\/h5.size<=b):=by
            rintro(k1|k1)
            · exact hob k1
            · have:=dW hrow (by simp[dU]);omega
           have m3:=hnM5 h.size (Nat.le_refl _) (by omega);have m4:=hnM5 h1.size (by omega) (by omega);refine aN 1 [0,1,2,3,4,5,6,12,15,16,25,37,58,72] rfl ?_;refine av rfl ?_;refine bQ (fun b=>eO nb v5 b\/Array.size h5<=b) (fun i=>Nat.blt i 8) (sz:=8) (listed:= #[false,false,false,false,false,false,false,false]) func48 H.mixed rfl rfl rfl ?_;refine bP 0 1 (by kernel_rfl) rfl (fun h' e=>ai H.rU rfl (e.cell m3 (q3'.cell (i:=0) rfl))) ?_;refine bP 1 3 (by kernel_rfl) rfl (fun h' e=>af (off:=5) underlying132 rfl rfl H.zm rfl) ?_;refine bP 2 7 (by kernel_rfl) rfl (fun h' e=>ai H.uL rfl (e.cell m4 (q4'.cell (i:=5) rfl))) ?_;refine bP 3 15 (by kernel_rfl) rfl (fun h' e=>aj.aH underlying130 H.cv rfl rfl 0 rfl ha (by omega)) ?_;refine bP 4 31 (by kernel_rfl) rfl (fun h' e=>aj.aE H.eS H.cv rfl (e.rowAt hbM hrow) (by first|rfl|(simp;done)|(simp;omega))) ?_;refine cu 5 63 (by kernel_rfl) rfl ?_;refine dZ 6 127 (by kernel_rfl) rfl (aq (vs:=[_,_,_]) func48 rfl H.Dn rfl (ah.bq (ih (x:=x) (O:=O) (to:=ss.length) (by omega) hn5 (fun b hb=>by have:=hO3 b hb;omega) hnd hwx (by simp;omega)))) ?_;rintro _ h6 ⟨v6,rfl,hn6,nx6⟩;refine⟨fun _=>nx6.ext.mono (fun b _ k=>k.elim .inl (fun k=>k.elim)),?_⟩;have hz6:=nx6.ext.size;have nx36:=nx5.trans nx6 (fun _ _ k=>k);have q3':=q3.ext nx36.ext (hnM _ (Nat.le_refl _));have q4':=q4.ext nx36.ext (hnM _ (by omega));have q5':=q5.ext nx36.ext (hnM _ (by omega));have hown6:=hn6.own;have hlen6:=fR x (ss++[⟨0,0,[],0⟩]) ss.length;rw[List.length_append,List.length_singleton] at hlen6;have hpre:(lay x (ss++[⟨0,0,[],0⟩]) ss.length).1[ss.length]? =some ⟨0,0,[],0⟩:=by rw[kU x _ _ _ (by simp)];simp
           have hn6c:=hn6.blk.cell (i:=0) rfl
           have hnM6:∀b,h.size<=b->b<h3.size->¬(eO nb v6 b\/h6.size<=b):=by
            rintro b hb hb' ((k1|k1)|k1)
            · omega
            · rcases nx36.own b k1.symm with k2|k2
              · have:=hown b k2;omega
              · omega
            · omega
           have hnew6:∀t,bX iw (h6.push (.cells #[.int .i64 ((lay x (ss++[⟨0,0,[],0⟩]) ss.length).2:Nat),.int .i64 (to:Nat)] t)) (fun b=>cV v6.ownBlock b\/b=nb\/O b) (.slice (some ⟨h6.size,0,none⟩) 2 2) [(lay x (ss++[⟨0,0,[],0⟩]) ss.length).2,to]:=fun t=>Md t _ _ (by
            rintro(k1|k1|k1)
            · have:=hown6 _ k1.symm;omega
            · omega
            · have:=hO3 _ k1;omega)
           generalize hout:lay x (ss++[⟨0,0,[],0⟩]) ss.length=out at *;have hn7:cB (h6.push (.cells #[.int .i64 (out.2:Nat),.int .i64 (to:Nat)] 3)) O nb v6 out.1 st:=hn6.ax (Ext.push _ _ _) (fun _ _ k=>k);obtain⟨g,c6,cs6,hv6,hg1,hg2,hg3,hg4,hg5,hg6⟩:=hn7.row.put hpre;obtain⟨w6,rfl,_⟩:=hg5;subst hv6;have hput:=hg6 5 (.slice (some ⟨h6.size,0,none⟩) 2 2) ⟨0,0,[out.2,to],0⟩ (by decide) ⟨_,rfl,hnew6 _⟩;have hgb:h6.size=g\/g<h6.size:=by have:=hown6 g rfl;omega
           have hg6':g<h6.size:=(hown6 g rfl).2;have hcell7:cellAt (h6.push (.cells #[.int .i64 (out.2:Nat),.int .i64 (to:Nat)] 3)) ⟨g,0+ss.length*7+5,none⟩=some w6:=hg3 5 _ rfl;have m6:=hnM6 h1.size (by omega) (by omega);have j4:¬h1.size=g:=fun k=>m6 (.inl (.inr (by rw[k];rfl)))
           have j3:¬h6.size<=h.size:=by omega
           have j0:¬h6.size<=nb:=by omega
           have j5:¬h6.size<=h2.size:=by omega
           refine cu 7 255 (by kernel_rfl) rfl ?_;refine bu (by kernel_rfl) ?_;refine xu [0,1,2,3,4,5,6,12,13,15,16,25,37,58,72] rfl ?_;refine av rfl ?_;refine bQ (fun b=>Array.size h6<=b) (fun i=>Nat.blt i 10) (sz:=11) (listed:= #[false,false,false,false,false,false,false,false,false,false,false]) func48 H.mixed rfl rfl rfl ?_;refine bP 0 1 (by kernel_rfl) rfl (fun h' e=>ai H.rU rfl (e.cell j3 (q3'.cell (i:=0) rfl))) ?_;refine cu 1 3 (by kernel_rfl) rfl ?_;refine bP 2 7 (by kernel_rfl) rfl (fun h' e=>af (off:=0) underlying126 rfl rfl H.gy rfl) ?_;refine bP 3 15 (by kernel_rfl) rfl (fun h' e=>ai H.iq rfl (e.cell j0 hn6c)) ?_;refine cu 4 31 (by kernel_rfl) rfl ?_;refine cu 5 63 (by kernel_rfl) rfl ?_;refine bP 6 127 (by kernel_rfl) rfl (fun h' e=>ai H.cK rfl (e.cell j5 (q5'.cell (i:=0) rfl))) ?_;refine dZ 7 255 (by kernel_rfl) rfl (az.bg (us:=[_,_]) underlying127 H.pP rfl rfl (by decide) (by simp[Value.oneCell'])) ?_;rintro _ _ ⟨rfl,rfl⟩;refine⟨fun _=>by first|exact Ext.push _ _ _|assumption,?_⟩;refine dZ 8 511 (by kernel_rfl) rfl (aj.bq (aj.aH underlying124 H.lF rfl rfl ss.length rfl rfl (by omega))) ?_;rintro _ hq_ ⟨rfl,hqe_⟩;replace hqe_:=hqe_.symm;subst hqe_;refine⟨fun _=>Ext.refl _ _,?_⟩;refine bP 9 1023 (by kernel_rfl) rfl (fun h' e=>af (off:=5) underlying138 rfl rfl H.gK rfl) ?_;refine jG 10 2047 (by kernel_rfl) rfl (cH H.gK rfl rfl rfl hcell7 (hg4 _)) ?_;rintro _ _ ⟨rfl,rfl⟩;refine⟨fun hk=>(nomatch hk),?_⟩;refine bu (by kernel_rfl) ?_;refine xu [0,1,2,3,4,5,6,12,13,15,16,25,37,58,72] rfl ?_;refine av rfl ?_;refine xr func48 rfl ?_;refine xp rfl (af (off:=0) underlying132 rfl rfl H.bV rfl) ?_;have hz7:∀u,(ew (h6.push (.cells #[.int .i64 (out.2:Nat),.int .i64 (to:Nat)] 3)) ⟨g,0+ss.length*7+5,none⟩ u).size=h6.size+1:=fun u=>by rw[iQ];simp
           have ex7:∀u,Ext (fun b=>b=g) h6 (ew (h6.push (.cells #[.int .i64 (out.2:Nat),.int .i64 (to:Nat)] 3)) ⟨g,0+ss.length*7+5,none⟩ u):=fun u=>⟨by rw[hz7];omega,fun b hb hn=>by rw[(Ext.ew (M:=fun b=>b=g) _ _ u rfl).block b (by simp;omega) hn,(Ext.push (fun _=>False) h6 _).block b hb (fun k=>k)]⟩
           refine xp rfl (ai H.cK rfl ((q4'.ext (ex7 _) j4).cell (i:=0) rfl)) ?_;refine aN 1 [0,1,2,3,4,5,6,12,13,15,16,25,37,58,72,97] rfl ?_;refine aJ rfl rfl (fun hc=>absurd hc (by decide)) (fun _=>?_);refine aB rfl ?_;refine bf func48 2 [0,1,2,3,4,5,6,12,13,15,16,25,37,58,72,97] rfl ?_;refine G.ret func48 rfl rfl ?_;exact⟨_,rfl,_,rfl,⟨hn6.blk.ext (ex7 _) (by have:=hown6 g rfl;omega),hput⟩,((nx3.trans nx36 (fun _ _ k=>k)).trans ⟨(ex7 _).mono (fun b _ k=>.inl (.inr (by rw[k];rfl))),fun b k=>.inl k⟩ (fun _ _ k=>k))⟩
         · have h4k':¬k=4:=kk h4k;refine G.cz func48 rfl ?_;refine aN 2 [0,1,2,3,4,5,6,15,16,25,37,58,72] rfl ?_;refine aM rfl rfl (fun h5k=>?_) (fun h5k=>?_)
           · obtain rfl:k=5:=by omega
             have hone:kids.length=1:=by simp[su] at hw;exact hw.1
             obtain⟨x,rfl⟩:∃x,kids=[x]:=by match kids,hone with| [x],_=>exact⟨x,rfl⟩
             have hkn1:kn=1:=by simpa using hkn.symm
             have hszx:nj x<=gv [x]:=by simp[gv]
             have hwx:su x=true:=by simpa [sv] using hwl
             have hlay:lay (.mk 5 s [x]) ss to=((lay x (ss++[⟨0,0,[],0⟩]) ss.length).1.set ss.length ⟨0,0,[(lay x (ss++[⟨0,0,[],0⟩]) ss.length).2,to],0⟩,(lay x (ss++[⟨0,0,[],0⟩]) ss.length).2):=by rw[lay];simp[cF]
             rw[hlay];refine xr func48 rfl ?_;refine xp rfl (ai H.rU rfl (q3.cell (i:=0) rfl)) ?_;refine xp rfl (aG (H.Gf ) rfl) ?_;refine xo rfl (aq (vs:=[_,_]) func49 rfl H.Bo rfl (ah.bq (mN (O:=O) (to:=[]) hn3 hO3 (bX.nil _ _ _) (by omega)))) ?_;rintro _ h5 ⟨v5,rfl,hn5,nx5⟩;have hz5:=nx5.ext.size;have hz0:=e03.size;have q3':=q3.ext nx5.ext (hnM _ (Nat.le_refl _));have q4':=q4.ext nx5.ext (hnM _ (by omega));have q5':=q5.ext nx5.ext (hnM _ (by omega));have hsl5:bX ry h5 (eO nb v5) (.slice oa kn kc) [x]:=hsl3.mv nx5.qV;obtain⟨oa',n',c',hv',_,_,_,hget⟩:=id hsl5;cases hv';obtain⟨b,o,cs,ha,hob,hrow,hnd⟩:=hget 0 x rfl;obtain⟨w2,rfl,-⟩:=hnd.open;have hown5:=hn5.own
             have hnM5:∀b,h.size<=b->b<h3.size->¬(eO nb v5 b\/h5.size<=b):=by
              rintro b hb hb' ((k1|k1)|k1)
              · omega
              · rcases nx5.own b k1.symm with k2|k2
                · have:=hown b k2;omega
                · omega
              · omega
             have hbM:¬(eO nb v5 b\/h5.size<=b):=by
              rintro(k1|k1)
              · exact hob k1
              · have:=dW hrow (by simp[dU]);omega
             have m3:=hnM5 h.size (Nat.le_refl _) (by omega);have m4:=hnM5 h1.size (by omega) (by omega);refine aN 1 [0,1,2,3,4,5,6,12,15,16,25,37,58,72] rfl ?_;refine av rfl ?_;refine bQ (fun b=>eO nb v5 b\/Array.size h5<=b) (fun i=>Nat.blt i 8) (sz:=8) (listed:= #[false,false,false,false,false,false,false,false]) func48 H.mixed rfl rfl rfl ?_;refine bP 0 1 (by kernel_rfl) rfl (fun h' e=>ai H.rU rfl (e.cell m3 (q3'.cell (i:=0) rfl))) ?_;refine bP 1 3 (by kernel_rfl) rfl (fun h' e=>af (off:=5) underlying132 rfl rfl H.zm rfl) ?_;refine bP 2 7 (by kernel_rfl) rfl (fun h' e=>ai H.uL rfl (e.cell m4 (q4'.cell (i:=5) rfl))) ?_;refine bP 3 15 (by kernel_rfl) rfl (fun h' e=>aj.aH underlying130 H.cv rfl rfl 0 rfl ha (by omega)) ?_;refine bP 4 31 (by kernel_rfl) rfl (fun h' e=>aj.aE H.eS H.cv rfl (e.rowAt hbM hrow) (by first|rfl|(simp;done)|(simp;omega))) ?_;refine cu 5 63 (by kernel_rfl) rfl ?_;refine dZ 6 127 (by kernel_rfl) rfl (aq (vs:=[_,_,_]) func48 rfl H.Dn rfl (ah.bq (ih (x:=x) (O:=O) (to:=ss.length) (by omega) hn5 (fun b hb=>by have:=hO3 b hb;omega) hnd hwx (by simp;omega)))) ?_;rintro _ h6 ⟨v6,rfl,hn6,nx6⟩;refine⟨fun _=>nx6.ext.mono (fun b _ k=>k.elim .inl (fun k=>k.elim)),?_⟩;have hz6:=nx6.ext.size;have nx36:=nx5.trans nx6 (fun _ _ k=>k);have q3':=q3.ext nx36.ext (hnM _ (Nat.le_refl _));have q4':=q4.ext nx36.ext (hnM _ (by omega));have q5':=q5.ext nx36.ext (hnM _ (by omega));have hown6:=hn6.own;have hlen6:=fR x (ss++[⟨0,0,[],0⟩]) ss.length;rw[List.length_append,List.length_singleton] at hlen6;have hpre:(lay x (ss++[⟨0,0,[],0⟩]) ss.length).1[ss.length]? =some ⟨0,0,[],0⟩:=by rw[kU x _ _ _ (by simp)];simp
             have hn6c:=hn6.blk.cell (i:=0) rfl
             have hnM6:∀b,h.size<=b->b<h3.size->¬(eO nb v6 b\/h6.size<=b):=by
              rintro b hb hb' ((k1|k1)|k1)
              · omega
              · rcases nx36.own b k1.symm with k2|k2
                · have:=hown b k2;omega
                · omega
              · omega
             have hnew6:∀t,bX iw (h6.push (.cells #[.int .i64 ((lay x (ss++[⟨0,0,[],0⟩]) ss.length).2:Nat),.int .i64 (to:Nat)] t)) (fun b=>cV v6.ownBlock b\/b=nb\/O b) (.slice (some ⟨h6.size,0,none⟩) 2 2) [(lay x (ss++[⟨0,0,[],0⟩]) ss.length).2,to]:=fun t=>Md t _ _ (by
              rintro(k1|k1|k1)
              · have:=hown6 _ k1.symm;omega
              · omega
              · have:=hO3 _ k1;omega)
             generalize hout:lay x (ss++[⟨0,0,[],0⟩]) ss.length=out at *;have hn7:cB (h6.push (.cells #[.int .i64 (out.2:Nat),.int .i64 (to:Nat)] 3)) O nb v6 out.1 st:=hn6.ax (Ext.push _ _ _) (fun _ _ k=>k);obtain⟨g,c6,cs6,hv6,hg1,hg2,hg3,hg4,hg5,hg6⟩:=hn7.row.put hpre;obtain⟨w6,rfl,_⟩:=hg5;subst hv6;have hput:=hg6 5 (.slice (some ⟨h6.size,0,none⟩) 2 2) ⟨0,0,[out.2,to],0⟩ (by decide) ⟨_,rfl,hnew6 _⟩;have hgb:h6.size=g\/g<h6.size:=by have:=hown6 g rfl;omega
             have hg6':g<h6.size:=(hown6 g rfl).2;have hcell7:cellAt (h6.push (.cells #[.int .i64 (out.2:Nat),.int .i64 (to:Nat)] 3)) ⟨g,0+ss.length*7+5,none⟩=some w6:=hg3 5 _ rfl;have m6:=hnM6 h1.size (by omega) (by omega);have j4:¬h1.size=g:=fun k=>m6 (.inl (.inr (by rw[k];rfl)))
             have j3:¬h6.size<=h.size:=by omega
             have j0:¬h6.size<=nb:=by omega
             have j5:¬h6.size<=h2.size:=by omega
             refine cu 7 255 (by kernel_rfl) rfl ?_;refine bu (by kernel_rfl) ?_;refine xu [0,1,2,3,4,5,6,12,13,15,16,25,37,58,72] rfl ?_;refine av rfl ?_;refine bQ (fun b=>Array.size h6<=b) (fun i=>Nat.blt i 10) (sz:=11) (listed:= #[false,false,false,false,false,false,false,false,false,false,false]) func48 H.mixed rfl rfl rfl ?_;refine bP 0 1 (by kernel_rfl) rfl (fun h' e=>ai H.rU rfl (e.cell j3 (q3'.cell (i:=0) rfl))) ?_;refine cu 1 3 (by kernel_rfl) rfl ?_;refine bP 2 7 (by kernel_rfl) rfl (fun h' e=>af (off:=0) underlying126 rfl rfl H.gy rfl) ?_;refine bP 3 15 (by kernel_rfl) rfl (fun h' e=>ai H.iq rfl (e.cell j0 hn6c)) ?_;refine cu 4 31 (by kernel_rfl) rfl ?_;refine cu 5 63 (by kernel_rfl) rfl ?_;refine bP 6 127 (by kernel_rfl) rfl (fun h' e=>ai H.cK rfl (e.cell j5 (q5'.cell (i:=0) rfl))) ?_;refine dZ 7 255 (by kernel_rfl) rfl (az.bg (us:=[_,_]) underlying127 H.pP rfl rfl (by decide) (by simp[Value.oneCell'])) ?_;rintro _ _ ⟨rfl,rfl⟩;refine⟨fun _=>by first|exact Ext.push _ _ _|assumption,?_⟩;refine dZ 8 511 (by kernel_rfl) rfl (aj.bq (aj.aH underlying124 H.lF rfl rfl ss.length rfl rfl (by omega))) ?_;rintro _ hq_ ⟨rfl,hqe_⟩;replace hqe_:=hqe_.symm;subst hqe_;refine⟨fun _=>Ext.refl _ _,?_⟩;refine bP 9 1023 (by kernel_rfl) rfl (fun h' e=>af (off:=5) underlying138 rfl rfl H.gK rfl) ?_;refine jG 10 2047 (by kernel_rfl) rfl (cH H.gK rfl rfl rfl hcell7 (hg4 _)) ?_;rintro _ _ ⟨rfl,rfl⟩;refine⟨fun hk=>(nomatch hk),?_⟩;refine bu (by kernel_rfl) ?_;refine xu [0,1,2,3,4,5,6,12,13,15,16,25,37,58,72] rfl ?_;refine av rfl ?_;refine xr func48 rfl ?_;refine xp rfl (af (off:=0) underlying132 rfl rfl H.bV rfl) ?_;have hz7:∀u,(ew (h6.push (.cells #[.int .i64 (out.2:Nat),.int .i64 (to:Nat)] 3)) ⟨g,0+ss.length*7+5,none⟩ u).size=h6.size+1:=fun u=>by rw[iQ];simp
             have ex7:∀u,Ext (fun b=>b=g) h6 (ew (h6.push (.cells #[.int .i64 (out.2:Nat),.int .i64 (to:Nat)] 3)) ⟨g,0+ss.length*7+5,none⟩ u):=fun u=>⟨by rw[hz7];omega,fun b hb hn=>by rw[(Ext.ew (M:=fun b=>b=g) _ _ u rfl).block b (by simp;omega) hn,(Ext.push (fun _=>False) h6 _).block b hb (fun k=>k)]⟩
             refine xp rfl (ai H.cK rfl ((q4'.ext (ex7 _) j4).cell (i:=0) rfl)) ?_;refine aN 1 [0,1,2,3,4,5,6,12,13,15,16,25,37,58,72,97] rfl ?_;refine aJ rfl rfl (fun _=>?_) (fun hc=>absurd hc (by decide));refine bf func48 2 [0,1,2,3,4,5,6,12,13,15,16,25,37,58,72,97] rfl ?_;refine G.ret func48 rfl rfl ?_;exact⟨_,rfl,_,rfl,⟨hn6.blk.ext (ex7 _) (by have:=hown6 g rfl;omega),hput⟩,((nx3.trans nx36 (fun _ _ k=>k)).trans ⟨(ex7 _).mono (fun b _ k=>.inl (.inr (by rw[k];rfl))),fun b k=>.inl k⟩ (fun _ _ k=>k))⟩
           · have h5k':¬k=5:=kk h5k;have hlay:lay (.mk k s kids) ss to=(ss,to):=by rw[lay];simp[h1k',h2k',h3k',h4k',h5k',h6k']
             rw[hlay];refine aB rfl ?_;refine G.aR ?_;refine xr func48 rfl ?_;refine xp rfl (ai H.cK rfl (q5.cell (i:=0) rfl)) ?_;refine aN 1 [0,1,2,3,4,5,6,15,16,25,37,58,72] rfl ?_;refine G.ret func48 rfl rfl ?_;exact⟨_,rfl,v,rfl,hn3,nx3⟩
theorem Fu:∀n,Gs n
 | 0=>by
  intro hs;have:=B8 ‹Nd›;omega
 |n+1=>Fv (Fu n)
def ny:gM By:=.flat (fun s=>.string (bs s)) fun _=>rfl
def wH (h h':aA) (rules:List By) (r:Value):Prop :=
 match fj rules with
 |.inl e=>r= .tuple #[.pointer none,.int .i64 e]
 |.inr (ss,st)=>∃nb v,r= .tuple #[.pointer (some ⟨nb,0,none⟩),.int .i64 0]/\h.size<=nb/\cB h' (fun b=>b<h.size) nb v ss st
theorem Gm {ss:List bT}(i:Nat) (hn:cB h O nb v ss st) (hO:∀b,O b->b<h.size) (hl:ss.length<=1000000) :
 ah Tryz.prog 49 #[.pointer (some ⟨nb,0,none⟩),.agg #[.int .i64 2,.int .u64 0,.int .u64 0,.int .u64 0,.int .u64 0,.slice none 0 0,.int .i64 (i:Nat)]] h (cM (HP O nb h v st (ss++[⟨2,0,[],i⟩],ss.length))):=by
 have h1:=yE (x:=⟨2,0,[],i⟩) hn hO ⟨.slice none 0 0,rfl,bX.nil _ _ _⟩ hl;simp only[C6,ID] at h1;exact h1
theorem Bt {lim:Nat}(hg:Sg h lim) (hlim:lim<=h.size){rv:Value}{rules:List By}(hr:bX ny h (fun _=>False) rv rules) (hrl:∀s∈rules,s.length<=1000000) :
 ah Tryz.prog 27 #[rv] h (cM fun r h'=>wH h h' rules r/\aC h h'):=by
 obtain⟨oa,kn,kc,rfl,hsl⟩:=id hr.open;have hkn:=hsl.len;have hkc:=hsl.le;have hcap:=hsl.cap;generalize htgt:ku 0 rules [] []=tgt;refine ah.of func27 rfl rfl ?_;refine bf func27 2 [0,2,3] rfl ?_;refine av rfl ?_;refine av rfl ?_;refine G.bw [(18,.bool (decide (kn=0\/64<kn)))] [(0,_),(2,_),(3,_)] ⟨rfl,rfl,rfl,trivial⟩ func27 rfl ?_ ?_
 · refine cI 1 rfl rfl (aj.aS underlying87 rfl) ?_;refine aV 2 rfl ?_;refine aL (d:=14) rfl (fun hg=>?_) (fun hg=>?_)
   · refine aV 4 rfl ?_;refine aD rfl ?_;exact⟨rfl,aF rfl (by have:=of_decide_eq_true hg;simp;omega),rfl,rfl,rfl,trivial⟩
   · refine cI 1 rfl rfl (aj.aS underlying87 rfl) ?_;refine aV 2 rfl ?_;refine aD rfl ?_;exact⟨rfl,aF rfl (by have:=of_decide_eq_false hg;simp only[decide_eq_decide];omega),rfl,rfl,rfl,trivial⟩
 · refine aM rfl rfl (fun hbig=>?_) (fun hbig=>?_)
   · refine bf func27 2 [0,2,3,18] rfl ?_;refine G.ret func27 rfl rfl ?_;refine⟨_,rfl,?_,Ext.refl _ _⟩;have:fj rules= .inl 2:=by unfold fj;rw[if_pos (show rules.length=0\/64<rules.length by omega)]
     rw[wH,this];rfl
   · have hmk:fj rules=match ku 0 rules [] [] with|.inl e=>.inl e|.inr (ss,t)=>if 2000<vg rules then .inl 70 else .inr (ss++[⟨0,0,t,0⟩],ss.length):=by unfold fj;rw[if_neg (show ¬(rules.length=0\/64<rules.length) by omega)]<;>rfl
     rw[htgt] at hmk;refine aB rfl ?_;refine xr func27 rfl ?_;refine xp rfl (aG (H.JD ) rfl) ?_;refine xo rfl (az.eR rfl) ?_;rintro _ h1 ⟨rfl,q4,e1,z1⟩;have q4:bh h1 h.size 126 [.slice none 0 0,.int .i64 (0:Nat)]:=q4;have hn1:cB h1 (fun b=>b<h.size) h.size (.slice none 0 0) [] 0:=⟨q4,dx.nil _ _ _ _ _⟩
     refine aN 1 [0,2,3,4,18] rfl ?_;refine bf func27 1 [0,2,3,4,5,18] rfl ?_;refine bf func27 1 [0,2,3,4,5,6,18] rfl ?_;refine av rfl ?_;refine bl func27 1 rfl ?_;refine xp rfl (aj.aS underlying87 rfl) ?_;refine aN 1 [0,2,3,4,5,6,18,21,22,23] rfl ?_;refine G.block rfl rfl ?_;refine bO (σ:=Nat×Value) (fun p=>[(4,.pointer (some ⟨h.size,0,none⟩)),(5,p.2),(6,.int .i64 (vg (rules.take p.1):Nat)),(21,.slice oa kn kc),(22,.int .i64 (kn:Nat)),(23,.int .i64 (p.1:Nat))]) (fun p h'=>p.1<=kn/\∃v ss t,cB h' (fun b=>b<h.size\/cV p.2.ownBlock b) h.size v ss 0/\dx iw (fun _=>True) h' h1.size 3 p.2 t/\Nx (fun _=>False) h.size h1 (.slice none 0 0) h' v/\(∀b,p.2.ownBlock=some b->v.ownBlock≠some b)/\(ss.length<=402*p.1/\vg (rules.take p.1)<=200*p.1/\t.length=p.1)/\ku p.1 (rules.drop p.1) ss t=tgt) (fun p=>kn-p.1) ((0,.slice none 0 0)) rfl ⟨rfl,rfl,rfl,rfl,rfl,rfl,trivial⟩ ⟨Nat.zero_le _,_,[],[],hn1.ax (Ext.refl _ _) (fun b _ k=>k.elim id (fun k=>by cases k)),dx.nil _ _ _ _ _,Nx.refl,fun b hb=>(by cases hb),⟨Nat.zero_le _,by simp[vg],rfl⟩,htgt⟩ ?_;rintro⟨i,tv⟩ g0 ⟨hi,v,ss,t,hng,htg,nxg,hdist,⟨hss,htot,htl⟩,hcon⟩ ih
     try dsimp only
     dsimp only at hi hng htg nxg hdist hss htot htl hcon;have hz0:=nxg.ext.size;have htv:∀b,tv.ownBlock=some b->h1.size<=b/\b<g0.size:=fun b hb=>by obtain⟨_,_,k,_⟩:=id htg;exact k.lt hb
     have e0g:aC h g0:=⟨by omega,fun b hb _=>(nxg.ext.block b (by omega) (by
      rintro((k|k)|k)
      · omega
      · cases k
      · exact k)).trans (e1.block b hb (fun k=>k))⟩
     have hown:=hng.own;have hnlt:=hng.blk.lt;refine bf func27 1 [4,5,6,21,22,23,24] rfl ?_;refine av rfl ?_;refine aM rfl rfl (fun hlt=>?_) (fun hlt=>?_)
     · obtain⟨s,hs⟩:∃s,rules[i]? =some s:=⟨_,List.getElem?_eq_getElem (by omega)⟩
       have hdr:rules.drop i=s::rules.drop (i+1):=by
        obtain⟨hi',rfl⟩:=List.getElem?_eq_some_iff.1 hs;exact List.drop_eq_getElem_cons hi'
       rw[hdr,ku] at hcon;obtain⟨oa',n',c',hv',_,_,_,hget⟩:=id (hr.ax e0g);cases hv';obtain⟨b,o,cs,ha,hob,hrow,rfl⟩:=hget i s hs;refine aB rfl ?_;refine av rfl ?_;refine G.block rfl rfl ?_;refine bl func27 1 rfl ?_;refine xp rfl (aj.aH underlying87 H.eG rfl rfl i rfl ha (by omega)) ?_;refine xp rfl (ai H.fu rfl (hrow 0 _ rfl)) ?_;refine aN 2 [4,5,6,7,8,21,22,23,24] rfl ?_;refine bl func27 1 rfl ?_;refine xo rfl (aq (vs:=[_]) func47 rfl H.MT rfl (ah.bq (zN (hg.ext e0g (fun _ k=>k.elim)) (by omega) s (hrl s (List.mem_of_getElem? hs))))) ?_;rintro _ g1 ⟨⟨w,rfl,hnd⟩,e01⟩;refine aV 3 rfl ?_;refine xo rfl (az.aQ H.jU) ?_;rintro _ g2 ⟨rfl,k9,e12,z12⟩;refine RW.bB rfl rfl rfl (az.au H.cv rfl rfl k9 (by first|rfl|(simp;done)|(simp;omega)) (by first|decide|exact of_decide_eq_true rfl|(simp;done)|(simp;omega)) (cm.one hnd)) ?_;rintro _ g3 ⟨rfl,k9',e23,z23⟩;refine aN 1 [4,5,6,7,8,9,10,21,22,23,24] rfl ?_;refine av rfl ?_;refine bf func27 2 [4,5,6,7,8,9,10,21,22,23,24,34] rfl ?_;have k9':bh g3 g1.size 132 (dU (cj s).1.kind (cj s).1.set w):=k9';refine aM rfl rfl (fun herr=>?_) (fun herr=>?_)
       · rw[if_pos (by exact herr)] at hcon;refine bf func27 3 [2,3,4,5,6,7,8,9,10,21,22,23,24,34] rfl ?_;refine G.ret func27 rfl rfl ?_;have e3:aC h g3:=(e0g.trans e01).trans (e12.only e23 (Nat.le_refl _));refine⟨_,rfl,?_,e3⟩;rw[<-hcon] at hmk;rw[wH,hmk];rfl
       · have h0:(cj s).2=0:=by simpa using herr
         rw[if_neg (by simpa using h0)] at hcon;have hsmall:=oY h0;have hbs:=bY s;have ecc:aC g1 g3:=e12.only e23 (Nat.le_refl _);have e03:aC g0 g3:=e01.trans ecc;have hz1:=e01.size;have hz3:=ecc.size;have hz13:g1.size<g3.size:=by omega
         refine aB rfl ?_;refine av rfl ?_;refine G.bw [(6,.int .i64 (vg (rules.take (i+1)):Nat))] [(4,_),(5,_),(7,_),(8,_),(9,_),(10,_),(21,_),(22,_),(23,_),(24,_),(34,_)] ⟨rfl,rfl,rfl,rfl,rfl,rfl,rfl,rfl,rfl,rfl,rfl,trivial⟩ func27 rfl ?_ ?_
         · refine cI 2 rfl rfl (aj.cw underlying9 rfl) ?_;refine xp rfl (aj.bJ rfl rfl ⟨by omega,by omega⟩) ?_;refine aV 1 rfl ?_;refine aD rfl ?_;exact⟨rfl,(by show some (Value.int _ _)=some (Value.int _ _);rw[vK hs];congr 2),rfl,rfl,rfl,rfl,rfl,rfl,rfl,rfl,rfl,rfl,rfl,trivial⟩
         · have hn3:cB g3 (fun b=>b<h.size\/cV tv.ownBlock b) h.size v ss 0:=hng.ax e03 (fun _ _ k=>k);have hO3:∀b,(b<h.size\/cV tv.ownBlock b)->b<g3.size:=fun b hb=>by rcases hb with k|k;omega;(have:=htv b k.symm;omega)
           have hnd3:cm g3 (eO h.size v) (dU (cj s).1.kind (cj s).1.set w) (cj s).1:=hnd.mv ⟨ecc.size,fun b hb hn=>⟨ecc.block b hb (fun k=>k),by
            rintro(k|k)
            · exact hn (by show b<g0.size;omega)
            · exact hn (by show b<g0.size;exact(hown b k.symm).2)⟩⟩
           have hK1:¬(eO h.size v g1.size\/False):=by
            rintro((k|k)|k)
            · omega
            · have:=hown _ k.symm;omega
            · exact k
           refine bQ (fun b=>¬b=Array.size g1) (fun i=>Nat.blt i 11) (sz:=11) (listed:= #[false,false,false,false,false,false,false,false,false,false,false]) func27 H.mixed rfl rfl rfl ?_;refine cu 0 1 (by kernel_rfl) rfl ?_;refine cu 1 3 (by kernel_rfl) rfl ?_;refine bP 2 7 (by kernel_rfl) rfl (fun h' e=>aj.aE H.eS H.cv rfl (e.rowAt (fun k=>k rfl) k9'.row) (by first|rfl|(simp;done)|(simp;omega))) ?_;refine cu 3 15 (by kernel_rfl) rfl ?_;refine cu 4 31 (by kernel_rfl) rfl ?_;refine bP 5 63 (by kernel_rfl) rfl (fun h' e=>aG (H.DW _ _) rfl) ?_;refine dZ 6 127 (by kernel_rfl) rfl (aq (vs:=[_,_]) func49 rfl H.Bo rfl (ah.bq (Gm i hn3 hO3 (by omega)))) ?_;rintro _ g4 ⟨v4,rfl,hn4,nx4⟩;refine⟨fun _=>nx4.ext.mono (fun b _ k e=>hK1 (e▸k)),?_⟩;have hz4:=nx4.ext.size
           have hK2:¬(eO h.size v4 g1.size\/False):=by
            rintro((k|k)|k)
            · omega
            · rcases nx4.own _ k.symm with k2|k2
              · exact hK1 (.inl (.inr k2.symm))
              · omega
            · exact k
           refine dZ 7 255 (by kernel_rfl) rfl (aq (vs:=[_,_,_]) func48 rfl H.Dn rfl (ah.bq (Fu 401 (x:=(cj s).1) (to:=ss.length) hsmall.1 hn4 (fun b hb=>by have:=hO3 b hb;omega) (hnd3.mv nx4.qV) hsmall.2.1 (by have:=hsmall.1;simp only[List.length_append,List.length_singleton];omega)))) ?_;rintro _ g5 ⟨v5,rfl,hn5,nx5⟩;refine⟨fun _=>nx5.ext.mono (fun b _ k e=>hK2 (e▸k)),?_⟩;have hz5:=nx5.ext.size;have nx45:Nx (fun _=>False) h.size g3 v g5 v5:=nx4.trans nx5 (fun _ _ k=>k)
           have ht5:dx iw (fun _=>True) g5 h1.size 3 tv t:=(htg.ax e03).qd nx45.ext (fun b hb=>by
            rintro((k1|k1)|k1)
            · have:=htv b hb;omega
            · exact hdist b hb k1.symm
            · exact k1) (fun _ _ _=>trivial) (fun _ _ _=>trivial)
           obtain⟨css,hc1,hc2,hc3⟩:=id ht5;have hKt:¬cV tv.ownBlock g1.size:=fun k=>by have:=htv _ k.symm;omega
           refine dZ 8 511 (by kernel_rfl) rfl (az.bg (us:=[_]) underlying127 H.pP rfl rfl (by decide) (by simp[Value.oneCell'])) ?_;rintro _ _ ⟨rfl,rfl⟩;refine⟨fun _=>by first|exact Ext.push _ _ _|assumption,?_⟩;refine dZ 9 1023 (by kernel_rfl) rfl (az.bU underlying127 H.pP rfl rfl (hc2) rfl rfl (by first|decide|simp[Value.oneCell']) (by omega) (by decide) (by omega)) ?_;rintro t6 g6 ⟨ho6,hx6,hx6',hv6⟩;refine⟨fun _=>hx6'.mono (fun b _ k e=>hKt (e▸k)),?_⟩;refine cu 10 2047 (by kernel_rfl) rfl ?_;refine bu (by kernel_rfl) ?_;refine xu [4,5,6,7,8,9,10,21,22,23,24,34] rfl ?_;refine G.aR ?_;refine G.cz func27 rfl ?_;refine xp rfl (aj.bJ rfl rfl ⟨by omega,by omega⟩) ?_;refine aN 1 [4,5,6,7,8,9,10,21,22,23,24,34] rfl ?_;have ht6:=dx.gz hc1 hc3 ho6 hx6 hv6 (y:=(lay (cj s).1 (ss++[(⟨2,0,[],i⟩:bT)]) ss.length).2) rfl
           have hn6:cB g6 (fun b=>b<h.size\/cV t6.ownBlock b) h.size v5 (lay (cj s).1 (ss++[⟨2,0,[],i⟩]) ss.length).1 0:=hn5.ext hx6 (fun k=>by have:=htv _ k.symm;omega) (fun b hb k=>by
            rcases nx45.own b hb with k'|k'
            · exact hdist b k.symm k'
            · have:=htv b k.symm;omega) (fun b _ k=>.inr k) (fun b hb k=>k.imp id (fun k=>by
              rcases hv6 b k.symm with k'|k'
              · exact k'.symm
              · omega))
           have hd6:∀b,t6.ownBlock=some b->v5.ownBlock≠some b:=fun b hb k=>by
            rcases hv6 b hb with k'|k'
            · rcases nx45.own b k with k2|k2
              · exact hdist b k' k2
              · have:=htv b k';omega
            · have:=(hn5.own b k).2;omega
           have nx05:Nx (fun _=>False) h.size h1 (.slice none 0 0) g5 v5:=(nxg.trans (Nx.JN e03) (fun _ _ k=>k)).trans nx45 (fun _ _ k=>k);have nx06:Nx (fun _=>False) h.size h1 (.slice none 0 0) g6 v5:=⟨⟨by have:=hx6.size;omega,fun b hb hn=>by rw[hx6.block b (by omega) (fun k=>by have:=htv b k.symm;omega)];exact nx05.ext.block b hb hn⟩,nx05.own⟩
           have hlenl:=(fR (cj s).1 (ss++[⟨2,0,[],i⟩]) ss.length).2;rw[List.length_append,List.length_singleton] at hlenl;have htt:=vK hs;exact ih (i+1,t6) _ _ ⟨rfl,rfl,rfl,rfl,rfl,rfl,trivial⟩ ⟨by show i+1<=kn;omega,v5,_,_,hn6,ht6,nx06,hd6,⟨by have:=hsmall.1;show _<=402*(i+1);omega,by have:=hsmall.2.2;show vg (rules.take (i+1))<=200*(i+1);omega,by simp[htl]⟩,hcon⟩ (by show kn-(i+1)<kn-i;omega)
     · obtain rfl:i=kn:=by omega
       have hall:rules.take i=rules:=List.take_of_length_le (by omega);have hnil:rules.drop i=[]:=List.drop_of_length_le (by omega);rw[hnil,ku] at hcon;rw[<-hcon] at hmk;rw[hall] at htot;simp only[hall];refine bD rfl rfl ?_;refine av rfl ?_;refine bf func27 2 [4,5,6,21,22,23,24,52] rfl ?_;refine aM rfl rfl (fun hbig2=>?_) (fun hbig2=>?_)
       · refine bf func27 2 [2,3,4,5,6,21,22,23,24,52] rfl ?_;refine G.ret func27 rfl rfl ?_;refine⟨_,rfl,?_,e0g⟩;have:fj rules= .inl 70:=by rw[hmk];exact if_pos (by omega)
         rw[wH,this];rfl
       · have hmk2:fj rules= .inr (ss++[⟨0,0,t,0⟩],ss.length):=by rw[hmk];exact if_neg (by omega)
         have hrd:bX iw g0 (fun b=>eO h.size v b\/b<h.size) tv t:=htg.Cn (fun b hb=>by
          rintro((k1|k1)|k1)
          · have:=htv b hb;omega
          · exact hdist b hb k1.symm
          · have:=htv b hb;omega) (fun _ _ _=>trivial)
         obtain⟨oa9,n9,c9,rfl,_⟩:=id hrd;refine aB rfl ?_;refine bl func27 3 rfl ?_;refine xp rfl (aG (H.yA _ _ _) rfl) ?_;refine xo rfl (aq (vs:=[_,_]) func49 rfl H.Bo rfl (ah.bq (mN (O:=fun b=>b<h.size) (to:=t) (hng.ax (Ext.refl _ _) (fun b _ k=>.inl k)) (fun b hb=>by omega) hrd (by omega)))) ?_;rintro _ g4 ⟨v4,rfl,hn4,nx4⟩;refine cI 1 rfl rfl (af (off:=1) underlying126 rfl rfl H.bV rfl) ?_;refine RW.bB rfl rfl rfl (az.bA H.bV rfl rfl hn4.blk (by first|decide|exact of_decide_eq_true rfl|(simp;done)|(simp;omega)) rfl) ?_;rintro _ g5 ⟨rfl,hk5,hx5,hz5⟩;refine xd [4,5,6,21,22,23,24,52] rfl ?_;refine bf func27 3 [2,3,4,5,6,21,22,23,24,52] rfl ?_;refine G.ret func27 rfl rfl ?_;have hn5:cB g5 (fun b=>b<h.size) h.size v4 (ss++[⟨0,0,t,0⟩]) ss.length:=⟨hk5,hn4.row.qd hx5 (fun b hb k=>by have:=(hn4.own b hb).1;omega) (fun b _ k=>.inl k) (fun b _ k=>k)⟩
         have e4:aC h g5:=⟨by have:=hx5.size;have:=nx4.ext.size;omega,fun b hb _=>by
          rw[hx5.block b (by have:=nx4.ext.size;omega) (by omega),nx4.ext.block b (by omega) ?_]
          · exact e0g.block b hb (fun k=>k)
          · rintro((k|k)|k)
            · omega
            · rcases nxg.own b k.symm with k2|k2
              · cases k2
              · omega
            · exact k⟩
         refine⟨_,rfl,?_,e4⟩;rw[wH,hmk2];exact⟨h.size,v4,rfl,Nat.le_refl _,hn5⟩
theorem nZ {ss:List bT}(hn:cB h O nb v ss st):ah Tryz.prog 97 #[.pointer (some ⟨nb,0,none⟩)] h (cM fun r h'=>r= .bool (decide (ss.length=0))/\h'=h):=by
 obtain⟨css,hc1,hc2,hc3⟩:=id hn.row;obtain⟨oa,c,rfl,_⟩:=hc2.open;refine ah.of func97 rfl rfl ?_;refine bf func97 1 [0,2] rfl ?_;refine av rfl ?_;refine G.bw [(2,.bool (decide (ss.length=0)))] [(0,_)] ⟨rfl,trivial⟩ func97 rfl ?_ ?_
 · refine cI 1 rfl rfl (aj.qw underlying84 rfl rfl) ?_;refine aV 1 rfl ?_;refine RW.cS (d:=5) (b':=false) rfl (rfl) ?_;refine cI 2 rfl rfl (af (off:=0) underlying126 rfl rfl H.gy rfl) ?_;refine xp rfl (ai H.iq rfl (hn.blk.cell (i:=0) rfl)) ?_;refine xp rfl (aj.aS underlying124 rfl) ?_;refine aV 3 rfl ?_;refine aD rfl ?_;exact⟨rfl,aF rfl (by simp only[decide_eq_decide];omega),rfl,trivial⟩
 · refine G.ret func97 rfl rfl ?_;exact⟨_,rfl,rfl,rfl⟩
theorem EW {base:Nat}{t:TypeId}{m:Nat}(k:cR eE h base t v todo) (hm:todo.length=m+1) :
 ∃g c x,v= .slice (some ⟨g,0,none⟩) (m+1) c/\m+1<=c/\g<h.size/\base<=g/\cellAt h ⟨g,0+m*1,none⟩=some (.int .i64 (x:Nat))/\todo=todo.dropLast++[x] /\
  cR eE h base t (.slice (ic (some ⟨g,0,none⟩) 0 1 c) m c) todo.dropLast/\(Value.slice (ic (some ⟨g,0,none⟩) 0 1 c) m c).ownBlock=some g:=by
 have k':aT h base t 1 v todo.length (todo.map eE):=k;obtain⟨oa,c,rfl,ho⟩:=k'.open;have hne:todo≠[]:=by intro e;rw[e] at hm;cases hm
 have hlast:todo=todo.dropLast++[todo.getLast hne]:=(List.dropLast_concat_getLast hne).symm
 have hx:(todo.map eE)[m]? =some (eE (todo.getLast hne)):=by
  rw[List.getElem?_map,List.getLast_eq_getElem,List.getElem?_eq_getElem (by omega)];simp[hm]
 obtain⟨g,rfl,hb,hlt,hc,_⟩:=ho.at hx;have ht:=ho.take (m:=m) (by omega) 1
 have hd:(todo.map eE).take (m*1)=todo.dropLast.map eE:=by
  rw[Nat.mul_one,List.dropLast_eq_take,hm,Nat.add_sub_cancel,List.map_take]
 rw[hd] at ht;refine⟨g,c,todo.getLast hne,by rw[hm],by have:=ho.le;omega,hlt,hb,hc,hlast,?_,?_⟩
 · have hl:todo.dropLast.length=m:=by simp[hm]
   unfold cR;rw[hl];exact ht
 · unfold ic;split<;>simp[Value.ownBlock,Addr.add]
theorem cB.get {ss:List bT}{x:bT}(k:cB h O nb v ss st) (hx:ss[i]? =some x) :
 ∃g c w,v= .slice (some ⟨g,0,none⟩) ss.length c/\g<h.size/\Lw.rowAt h g (0+i*7) (C6 x.kind x.set w x.rule)/\bX iw h (fun b=>cV v.ownBlock b\/b=nb\/O b) w x.to:=by
 obtain⟨g,c,cs,rfl,_,hg,hrow,_,⟨w,rfl,hw⟩,_⟩:=k.row.put hx;exact⟨g,c,w,rfl,hg,hrow,hw⟩
theorem AM {oa:Option Addr}{c:Nat}{xs:List Nat}(k:bX iw h O (.slice oa n c) xs):xs.length=n/\(n=0\/∃b o,oa=some ⟨b,o,none⟩/\Lw.rowAt h b o (xs.map eE))/\n<=maxLen:=by
 obtain⟨oa',n',c',hv,hl,hc,hm,hg⟩:=k;cases hv;have hs:Sl iw h O oa n c xs:=⟨hl,hc,hm,hg⟩
 exact⟨hl,Sl.row hs,by omega⟩
theorem BN {ss:List bT}(ht:todo.getLast? =some i) (hs:seen[i]? =some true):iC ss (n+1) todo seen=iC ss n todo.dropLast seen:=by
 rw[iC,ht];simp[hs]
theorem DU {ss:List bT}{x:bT}(ht:todo.getLast? =some i) (hs:seen[i]? =some false) (hx:ss[i]? =some x):iC ss (n+1) todo seen=iC ss n (if x.kind=0 then todo.dropLast++x.to else todo.dropLast) (seen.set i true):=by
 rw[iC,ht];simp[hs,hx]
theorem DT {ss:List bT}:iC ss n [] seen=seen:=by cases n<;>simp[iC]
def D9 (ss:List bT) (seen:List Bool) (i:Nat):Bool:=seen[i]? ==some true && (ss[i]?.map (·.kind)) !=some 0
theorem pT {tv:Value}{ss:List bT}{base:Nat}{tb:Option Nat}(hn:cB h O nb v ss st) (hgood:Good ss) (hss:ss.length<=1000000) (htd:cR eE h base 3 tv todo) (htb:tv.ownBlock=tb)
 (hbase:base<=h.size) (hOt:∀b,tb=some b->O b/\b≠nb/\v.ownBlock≠some b) (hlt:∀j∈todo,j<ss.length) (hpot:todo.length+qT ss (List.replicate ss.length false)<=1000000) :
 ah Tryz.prog 98 #[.pointer (some ⟨nb,0,none⟩),tv] h (cM fun r h'=>cR eE h' h.size 3 r (closed ss todo)/\Ext (cV tb) h h'):=by
 obtain⟨css,hc1,hc2,hc3⟩:=id hn.row;obtain⟨va,vc,rfl,_⟩:=hc2.open
 have htl:tb=none\/∃b,tb=some b/\b<h.size:=by
  cases tb with
  |none=>exact .inl rfl
  |some b=>exact .inr ⟨b,rfl,(aT.lt htd htb).2⟩
 obtain⟨oa,c,rfl,_⟩:=(show aT h base 3 1 tv todo.length (todo.map eE) from htd).open;generalize htgt:iC ss (todo.length+qT ss (List.replicate ss.length false)) todo (List.replicate ss.length false)=tgt;refine ah.of func98 rfl rfl ?_;refine bf func98 1 [0,1,4] rfl ?_;refine av rfl ?_;refine bl func98 1 rfl ?_;refine xp rfl (aj.aS underlying127 rfl) ?_;refine aN 1 [0,1,4,12] rfl ?_;refine aM rfl rfl (fun hz=>?_) (fun hz=>?_)
 · refine bf func98 1 [0,1,4,12] rfl ?_;refine G.ret func98 rfl rfl ?_;have:closed ss todo=[]:=by unfold closed;rw[if_pos (by omega)]
   rw[this];exact⟨_,rfl,cR.nil _ _ _ _,Ext.refl _ _⟩
 · refine aB rfl ?_;refine bl func98 2 rfl ?_;refine xp rfl (af (off:=0) underlying126 rfl rfl H.gy rfl) ?_;refine xp rfl (ai H.iq rfl (hn.blk.cell (i:=0) rfl)) ?_;refine xp rfl (aj.aS underlying124 rfl) ?_;refine xo rfl (az.pe underlying157 H.Nk H.Nb rfl rfl rfl (by omega) (by decide)) ?_;rintro _ h1 ⟨rfl,hk1,e1⟩;refine aN 1 [0,1,4,5,12] rfl ?_;refine av rfl ?_;refine G.block rfl rfl ?_;refine bO (σ:=Nat×Value×List Nat×List Bool) (fun q=>[(0,.pointer (some ⟨nb,0,none⟩)),(1,q.2.1),(5,.slice (some ⟨h.size,0,none⟩) ss.length ss.length)]) (fun q h'=>Ext (cV tb) h h'/\cR eE h' base 3 q.2.1 q.2.2.1/\(∀b,q.2.1.ownBlock=some b->tb=some b\/h1.size<=b)/\aT h' h.size 4 1 (.slice (some ⟨h.size,0,none⟩) ss.length ss.length) ss.length (q.2.2.2.map .bool)/\q.2.2.2.length=ss.length/\(∀j∈q.2.2.1,j<ss.length)/\(q.2.2.1.length+qT ss q.2.2.2<=q.1/\q.1<=1000000/\h1.size<=h'.size)/\iC ss q.1 q.2.2.1 q.2.2.2=tgt) (fun q=>q.1) ((todo.length+qT ss (List.replicate ss.length false),.slice oa todo.length c,todo,List.replicate ss.length false)) rfl ⟨rfl,rfl,rfl,trivial⟩ ⟨e1.mono fun _ _ k=>k.elim,aT.FM htd e1,fun b hb=>.inl (htb.symm.trans hb),by simpa using hk1,by simp,hlt,⟨Nat.le_refl _,hpot,Nat.le_refl _⟩,htgt⟩ ?_;rintro⟨n,dv,td,seen⟩ g ⟨eg,hd,hdo,hs,hsl,hlt',⟨hp,hn1,hgz⟩,hcon⟩ ih
   try dsimp only
   dsimp only at hd hdo hs hsl hlt' hp hn1 hcon;have hz1:h.size<h1.size:=by have:=(aT.lt hk1 rfl).2;exact this
   have hsow:=hs.open;obtain⟨sa,sc,hsv,hsow⟩:=hsow;cases hsv
   rcases Nat.eq_zero_or_pos td.length with hpos|hpos
   · obtain rfl:td=[]:=List.eq_nil_of_length_eq_zero hpos;obtain⟨oad,cd,rfl,_⟩:=(show aT g base 3 1 dv ([]:List Nat).length (([]:List Nat).map eE) from hd).open;rw[DT] at hcon;refine av rfl ?_;refine bl func98 1 rfl ?_;refine xp rfl (aj.aS underlying127 rfl) ?_;refine aN 1 [0,1,5,21] rfl ?_;refine aJ rfl rfl (fun hc=>absurd hc (by simp)) (fun _=>?_);have hnc:∀{h':aA},Ext (cV tb) h h'->cB h' O nb (.slice va ss.length vc) ss st:=fun e=>hn.ext e (fun k=>(hOt nb k.symm).2.1 rfl) (fun b hb k=>(hOt b k.symm).2.2 hb) (fun b _ k=>(hOt b k.symm).1) (fun _ _ k=>k)
     have hcl:closed ss todo=(List.range ss.length).filter (D9 ss seen):=by
      unfold closed;rw[if_neg (by omega),htgt,<-hcon];rfl
     refine bD rfl rfl ?_;refine bf func98 1 [0,1,5,7,21] rfl ?_;refine av rfl ?_;refine bl func98 1 rfl ?_;refine xp rfl (aj.aS underlying157 rfl) ?_;refine aN 1 [0,1,5,7,21,59,60,61] rfl ?_;refine G.block rfl rfl ?_;refine bO (σ:=Nat×Value) (fun q=>[(0,.pointer (some ⟨nb,0,none⟩)),(7,q.2),(59,.slice (some ⟨h.size,0,none⟩) ss.length ss.length),(60,.int .i64 (ss.length:Nat)),(61,.int .i64 (q.1:Nat))]) (fun q h'=>q.1<=ss.length/\aC g h'/\cR eE h' g.size 3 q.2 ((List.range q.1).filter (D9 ss seen))) (fun q=>ss.length-q.1) ((0,.slice none 0 0)) rfl ⟨rfl,rfl,rfl,rfl,rfl,trivial⟩ ⟨Nat.zero_le _,Ext.refl _ _,cR.nil _ _ _ _⟩ ?_;rintro⟨i,ov⟩ g2 ⟨hi,e2,ho2⟩ ih2
     try dsimp only
     dsimp only at hi ho2;have eg2:Ext (cV tb) h g2:=eg.trans (e2.mono fun _ _ k=>k.elim);have hn2:=hnc eg2;have hz2:=e2.size;refine bf func98 1 [0,7,59,60,61,62] rfl ?_;refine av rfl ?_;refine aM rfl rfl (fun hlti=>?_) (fun hlti=>?_)
     · have hil:i<ss.length:=by omega
       obtain⟨bx,hbx⟩:∃bx,seen[i]? =some bx:=⟨_,List.getElem?_eq_getElem (by omega)⟩
       obtain⟨y,hy⟩:∃y,ss[i]? =some y:=⟨_,List.getElem?_eq_getElem hil⟩
       obtain⟨sa2,sc2,hsv2,hsow2⟩:=(aT.FM hs e2).open;cases hsv2;obtain⟨g',hg',_,hsg,hscell,hsnf⟩:=hsow2.at (i:=i) (x:=.bool bx) (by rw[List.getElem?_map,hbx];rfl);cases hg';obtain⟨gs,cs,ws,hvs,hgs,hrow,hws⟩:=hn2.get hy;cases hvs;have hlen2:((List.range i).filter (D9 ss seen)).length<=i:=by have:=List.length_filter_le (D9 ss seen) (List.range i);simpa using this
       have hnext:(List.range (i+1)).filter (D9 ss seen)=(List.range i).filter (D9 ss seen)++(if D9 ss seen i then [i] else []):=by
        rw[List.range_succ,List.filter_append];cases hpr:D9 ss seen i<;>simp[hpr]
       refine aB rfl ?_;refine av rfl ?_;refine G.block rfl rfl ?_;refine bl func98 1 rfl ?_;refine xp rfl (aj.aH underlying157 H.lN rfl rfl i rfl rfl (by omega)) ?_;refine xp rfl (ai H.uJ rfl hscell) ?_;refine aN 2 [0,7,8,9,59,60,61,62] rfl ?_;refine av rfl ?_;refine G.bw [(77,.bool (D9 ss seen i))] [(0,_),(7,_),(8,_),(9,_),(59,_),(60,_),(61,_),(62,_)] ⟨rfl,rfl,rfl,rfl,rfl,rfl,rfl,rfl,trivial⟩ func98 rfl ?_ ?_
       · refine aV 2 rfl ?_;refine aL (d:=67) rfl (fun hg=>?_) (fun hg=>?_)
         · refine cI 2 rfl rfl (af (off:=0) underlying126 rfl rfl H.gy rfl) ?_;refine xp rfl (ai H.iq rfl (hn2.blk.cell (i:=0) rfl)) ?_;refine cI 1 rfl rfl (aj.aH underlying124 H.lF rfl rfl i rfl rfl hil) ?_;refine xp rfl (af (off:=0) underlying138 rfl rfl H.bV rfl) ?_;refine xp rfl (ai H.cK rfl (hrow 0 _ rfl)) ?_;refine aV 2 rfl ?_;refine aD rfl ?_;exact⟨rfl,aF rfl (by subst hg;simp[D9,hbx,hy];by_cases hk0:y.kind=0<;>simp[hk0]),rfl,rfl,rfl,rfl,rfl,rfl,rfl,rfl,trivial⟩
         · refine aV 10 rfl ?_;refine aD rfl ?_;exact⟨rfl,aF rfl (by subst hg;simp[D9,hbx]),rfl,rfl,rfl,rfl,rfl,rfl,rfl,rfl,trivial⟩
       · refine aJ rfl rfl (fun hb=>?_) (fun hb=>?_)
         · rw[if_pos hb] at hnext;refine G.cz func98 rfl ?_;refine aV 2 rfl ?_;refine xo rfl (az.bg (us:=[_]) underlying127 H.pP rfl rfl (by decide) (by simp[Value.oneCell'])) ?_;rintro _ _ ⟨rfl,rfl⟩;refine xo rfl (az.bU underlying127 H.pP rfl rfl (ho2) rfl rfl (by first|decide|simp[Value.oneCell']) (by omega) (by decide) (by omega)) ?_;rintro ov3 g3 ⟨ho3,hx3,-,hv3⟩;refine aN 1 [0,7,8,9,59,60,61,62,77] rfl ?_;refine G.aR ?_;refine G.cz func98 rfl ?_;refine xp rfl (aj.bJ rfl rfl ⟨by omega,by omega⟩) ?_;refine aN 1 [0,7,8,9,59,60,61,62,77] rfl ?_;have ho3':cR eE g3 g.size 3 ov3 ((List.range (i+1)).filter (D9 ss seen)):=by rw[hnext];exact cR.of (ys:=[i]) ho3 rfl rfl rfl
           have e3:aC g g3:=cR.grown e2 ho2 (Nat.le_refl _) hx3;exact ih2 (i+1,ov3) _ _ ⟨rfl,rfl,rfl,rfl,rfl,trivial⟩ ⟨by show i+1<=_;omega,e3,ho3'⟩ (by show ss.length-(i+1)<ss.length-i;omega)
         · rw[if_neg (by rw[hb];decide)] at hnext;rw[List.append_nil] at hnext;rw[<-hnext] at ho2;refine aB rfl ?_;refine G.aR ?_;refine G.cz func98 rfl ?_;refine xp rfl (aj.bJ rfl rfl ⟨by omega,by omega⟩) ?_;refine aN 1 [0,7,8,9,59,60,61,62,77] rfl ?_;exact ih2 (i+1,ov) _ _ ⟨rfl,rfl,rfl,rfl,rfl,trivial⟩ ⟨by show i+1<=_;omega,e2,ho2⟩ (by show ss.length-(i+1)<ss.length-i;omega)
     · obtain rfl:i=ss.length:=by omega
       refine bD rfl rfl ?_;refine bf func98 2 [0,4,7,59,60,61,62] rfl ?_;refine G.ret func98 rfl rfl ?_;rw[hcl];exact⟨_,rfl,aT.lower ho2 (by omega),eg2⟩
   · obtain⟨m,hm⟩:∃m,td.length=m+1:=⟨td.length-1,by omega⟩
     obtain⟨gd,cd,x,rfl,hcd,hgd,hbd,hcell,hlast,hcut,hcb⟩:=EW hd hm;have hgl:td.getLast? =some x:=by rw[hlast];simp
     have hxl:x<ss.length:=hlt' x (by rw[hlast];simp);have hltd:∀j∈td.dropLast,j<ss.length:=fun j hj=>hlt' j (List.dropLast_subset _ hj)
     have hdl:td.dropLast.length=m:=by simp[hm]
     obtain⟨n,rfl⟩:∃n',n=n'+1:=⟨n-1,by omega⟩
     obtain⟨bx,hbx⟩:∃bx,seen[x]? =some bx:=⟨_,List.getElem?_eq_getElem (by omega)⟩
     obtain⟨y,hy⟩:∃y,ss[x]? =some y:=⟨_,List.getElem?_eq_getElem hxl⟩
     obtain⟨g',hg',_,hsg,hscell,hsnf⟩:=hsow.at (i:=x) (x:=.bool bx) (by rw[List.getElem?_map,hbx];rfl);cases hg';refine av rfl ?_;refine bl func98 1 rfl ?_;refine xp rfl (aj.aS underlying127 rfl) ?_;refine aN 1 [0,1,5,21] rfl ?_;refine aJ rfl rfl (fun _=>?_) (fun hc=>absurd hc (by simp only[decide_eq_false_iff_not];omega));refine aB rfl ?_;refine G.block rfl rfl ?_;refine bl func98 2 rfl ?_;refine xp rfl (aj.aS underlying127 rfl) ?_;refine xp rfl (aj.j9 rfl rfl ⟨by omega,by omega⟩) ?_;refine xp rfl (aj.aH underlying127 H.bV rfl rfl m (by omega) rfl (by omega)) ?_;refine xp rfl (ai H.cK rfl hcell) ?_;refine aN 1 [0,1,5,6,21] rfl ?_;refine bl func98 2 rfl ?_;refine xp rfl (aj.aS underlying127 rfl) ?_;refine xp rfl (aj.j9 rfl rfl ⟨by omega,by omega⟩) ?_;refine xp rfl (aj.wY underlying127 H.bV rfl rfl m (by omega) (by omega)) ?_;refine aN 1 [0,1,5,6,21] rfl ?_;refine av rfl ?_;refine bl func98 2 rfl ?_;refine xp rfl (aj.aH underlying157 H.lN rfl rfl x rfl rfl (by omega)) ?_;refine xp rfl (ai H.uJ rfl hscell) ?_;refine xd [0,1,5,6,21,36] rfl ?_;refine aJ rfl rfl (fun hb=>?_) (fun hb=>?_)
     · subst hb;rw[BN hgl hbx] at hcon;refine bD rfl rfl ?_;exact ih (n,_,td.dropLast,seen) _ _ ⟨rfl,rfl,rfl,trivial⟩ ⟨eg,hcut,fun b hb=>hdo b (by rw[<-hb];exact hcb▸rfl),hs,hsl,hltd,⟨by show td.dropLast.length+qT ss seen<=n;omega,by show n<=_;omega,hgz⟩,hcon⟩ (by show n<n+1;omega)
     · subst hb;rw[DU hgl hbx hy] at hcon;have hpt:=xq ss seen x y hy hbx
       have hgne:¬gd=h.size:=fun k=>by
        rcases hdo gd rfl with k2|k2
        · rcases htl with k3|⟨b3,k3,k4⟩
          · rw[k3] at k2;cases k2
          · rw[k3] at k2;cases k2;omega
        · omega
       refine aB rfl ?_;refine bl func98 2 rfl ?_;refine xp rfl (aj.aH underlying157 H.lN rfl rfl x rfl rfl (by omega)) ?_;refine RW.bB rfl rfl rfl (cH H.lN rfl rfl rfl hscell hsnf) ?_;rintro _ g2 ⟨rfl,hg2⟩;have x2:Ext (fun b=>b=h.size) g g2:=by rw[hg2];exact Ext.ew _ _ _ rfl
       have hz2:=x2.size;have eg2:Ext (cV tb) h g2:=⟨by omega,fun b hb hn=>by rw[x2.block b (by omega) (by omega)];exact eg.block b hb hn⟩
       have hs2:aT g2 h.size 4 1 (.slice (some ⟨h.size,0,none⟩) ss.length ss.length) ss.length ((seen.set x true).map .bool):=by
        have k:=(hsow.set (i:=x) rfl hxl (.bool true)).own;rw[<-hg2] at k;rw[List.map_set];exact k
       have hcut2:aT g2 base 3 1 _ td.dropLast.length (td.dropLast.map eE):=aT.ext x2 hcut (fun b hb k=>hgne (by have:=hcb.symm.trans hb;cases this;exact k));have hn2:cB g2 O nb _ ss st:=hn.ext eg2 (fun k=>(hOt nb k.symm).2.1 rfl) (fun b hb k=>(hOt b k.symm).2.2 hb) (fun b _ k=>(hOt b k.symm).1) (fun _ _ k=>k);obtain⟨gs,cs,ws,hvs,hgs,hrow,hws⟩:=hn2.get hy;cases hvs;have hsl2:(seen.set x true).length=ss.length:=by simpa using hsl
       refine xd [0,1,5,6,21,36] rfl ?_;refine bl func98 2 rfl ?_;refine xp rfl (af (off:=0) underlying126 rfl rfl H.gy rfl) ?_;refine xp rfl (ai H.iq rfl (hn2.blk.cell (i:=0) rfl)) ?_;refine cI 1 rfl rfl (aj.aH underlying124 H.lF rfl rfl x rfl rfl hxl) ?_;refine xp rfl (af (off:=0) underlying138 rfl rfl H.bV rfl) ?_;refine xp rfl (ai H.cK rfl (hrow 0 _ rfl)) ?_;refine aN 1 [0,1,5,6,21,36,48] rfl ?_;refine aM rfl rfl (fun hk=>?_) (fun hk=>?_)
       · rw[if_pos (by omega)] at hcon;obtain⟨wa,wn,wc,rfl,_⟩:=id hws;obtain⟨hwl,hwn,hwm⟩:=AM hws;rw[hdl] at hcut2;refine G.cz func98 rfl ?_;refine cI 3 rfl rfl (af (off:=0) underlying126 rfl rfl H.gy rfl) ?_;refine xp rfl (ai H.iq rfl (hn2.blk.cell (i:=0) rfl)) ?_;refine cI 1 rfl rfl (aj.aH underlying124 H.lF rfl rfl x rfl rfl hxl) ?_;refine xp rfl (af (off:=5) underlying138 rfl rfl H.gK rfl) ?_;refine xp rfl (ai H.nQ rfl (hrow 5 _ rfl)) ?_;refine xo rfl (az.append underlying127 H.pP rfl rfl hcut2 (by simp[hwl]) hwn (by intro u hu;simp at hu;obtain⟨j,_,rfl⟩:=hu;rfl) (by simp only[maxLen];omega) (by omega) (by omega)) ?_;rintro dv3 g3 ⟨hd3,ex3,-,ho3⟩;refine aN 1 [0,1,5,6,21,36,48] rfl ?_;refine G.aR ?_;have hz3:=ex3.size;rw[hcb] at ex3 ho3
         have hd3':cR eE g3 base 3 dv3 (td.dropLast++y.to):=by
          unfold cR;rw[List.length_append,hdl,hwl,List.map_append];exact hd3
         have hdo3:∀b,dv3.ownBlock=some b->tb=some b\/h1.size<=b:=fun b hb=>by
          rcases ho3 b hb with k|k
          · exact hdo b k
          · exact .inr (by omega)
         have eg3:Ext (cV tb) h g3:=⟨by omega,fun b hb hn=>by
          rw[ex3.block b (by omega) ?_]
          · exact eg2.block b hb hn
          · intro k;cases k
            rcases hdo gd rfl with k2|k2
            · exact hn k2.symm
            · omega⟩
         have hgood':∀j∈td.dropLast++y.to,j<ss.length:=fun j hj=>by
          rcases List.mem_append.1 hj with k|k
          · exact hltd j k
          · exact hgood y (List.mem_of_getElem? hy) j k
         exact ih (n,dv3,td.dropLast++y.to,seen.set x true) _ _ ⟨rfl,rfl,rfl,trivial⟩ ⟨eg3,hd3',hdo3,aT.ext ex3 hs2 (fun b hb k=>by cases k;cases hb;exact hgne rfl),hsl2,hgood',⟨by show (td.dropLast++y.to).length+qT ss (seen.set x true)<=n;rw[List.length_append];omega,by show n<=_;omega,by show h1.size<=g3.size;omega⟩,hcon⟩ (by show n<n+1;omega)
       · rw[if_neg (by omega)] at hcon;refine aB rfl ?_;refine G.aR ?_;exact ih (n,_,td.dropLast,seen.set x true) _ _ ⟨rfl,rfl,rfl,trivial⟩ ⟨eg2,hcut2,fun b hb=>hdo b (by rw[<-hb];exact hcb▸rfl),hs2,hsl2,hltd,⟨by show td.dropLast.length+qT ss (seen.set x true)<=n;omega,by show n<=_;omega,by show h1.size<=g2.size;omega⟩,hcon⟩ (by show n<n+1;omega)
theorem zq {ss:List bT}(hn:cB h O nb v ss st) (hgood:Good ss) (hss:ss.length<=1000000) (hst:ss.length=0\/st<ss.length) (hpot:1+qT ss (List.replicate ss.length false)<=1000000) :
 ah Tryz.prog 51 #[.pointer (some ⟨nb,0,none⟩)] h (cM fun r h'=>cR eE h' h.size 3 r (cL ss st)/\aC h h'):=by
 have hown:=hn.own;have hnlt:=hn.blk.lt;refine ah.of func51 rfl rfl ?_;refine bf func51 1 [0,2] rfl ?_;refine av rfl ?_;refine bl func51 1 rfl ?_;refine xo rfl (aq (vs:=[_]) func97 rfl H.Jl rfl (ah.bq (nZ hn))) ?_;rintro _ h0 ⟨rfl,hh0⟩;refine xd [0,2,4] rfl ?_;subst hh0;refine aM rfl rfl (fun hz=>?_) (fun hz=>?_)
 · refine bf func51 1 [0,2,4] rfl ?_;refine G.ret func51 rfl rfl ?_;rw[cL,if_pos hz];exact⟨_,rfl,cR.nil _ _ _ _,Ext.refl _ _⟩
 · have hn1:cB (h0.push (.cells #[.int .i64 (st:Nat)] 3)) (fun b=>O b\/b=h0.size) nb v ss st:=hn.ax (Ext.push _ _ _) (fun b hb k=>k.elim id (fun k=>by omega));have ho1:cR eE (h0.push (.cells #[.int .i64 (st:Nat)] 3)) h0.size 3 (.slice (some ⟨h0.size,0,none⟩) 1 1) [st]:=mP eE h0 3 [st] 1 rfl (by simp[maxLen]) h0.size (Nat.le_refl _) rfl;refine aB rfl ?_;refine bl func51 3 rfl ?_;refine xp rfl (af (off:=1) underlying126 rfl rfl H.bV rfl) ?_;refine xp rfl (ai H.cK rfl (hn.blk.cell (i:=1) rfl)) ?_;refine xo rfl (az.bg (us:=[_]) underlying127 H.pP rfl rfl (by decide) (by simp[Value.oneCell'])) ?_;rintro _ _ ⟨rfl,rfl⟩;refine xo rfl (aq (vs:=[_,_]) func98 rfl H.Ko rfl (ah.bq (pT (tb:=some h0.size) hn1 hgood hss ho1 rfl (by simp) (fun b hb=>by cases hb;exact⟨.inr rfl,by omega,fun k=>by have:=(hown _ k).2;omega⟩) (fun j hj=>by simp at hj;omega) hpot))) ?_;rintro _ h2 ⟨ho2,hx2⟩;refine aN 1 [0,2,4] rfl ?_;refine G.ret func51 rfl rfl ?_;rw[cL,if_neg hz];have hps:(h0.push (.cells #[.int .i64 (st:Nat)] 3)).size=h0.size+1:=by simp
   refine⟨_,rfl,aT.lower ho2 (by omega),⟨by have:=hx2.size;omega,fun b hb _=>?_⟩⟩;rw[hx2.block b (by omega) (fun k=>by cases k;omega)];exact(Ext.push (fun _=>False) h0 _).block b hb (fun k=>k)
theorem vG {nv:Value}{ss:List bT}{now:List Nat}(hn:cB h O nb v ss st) (_hss:ss.length<=1000000) (hnow:bX iw h (fun _=>False) nv now) (hlt:∀j∈now,j<ss.length) (hnn:now.length<=1000000) :
 ah Tryz.prog 54 #[.pointer (some ⟨nb,0,none⟩),nv] h (cM fun r h'=>r= .int .i64 (bG ss now)/\h'=h):=by
 obtain⟨css,hc1,hc2,hc3⟩:=id hn.row;obtain⟨va,vc,rfl,_⟩:=hc2.open;obtain⟨na,nn,nc,rfl,hnl,hnc,hnm,hget⟩:=id hnow;generalize htgt:pY ss now (-1)=tgt;refine ah.of func54 rfl rfl ?_;refine bf func54 1 [0,1,4] rfl ?_;refine bf func54 1 [0,1,4,5] rfl ?_;refine av rfl ?_;refine bl func54 1 rfl ?_;refine xo rfl (aq (vs:=[_]) func97 rfl H.Jl rfl (ah.bq (nZ hn))) ?_;rintro _ h0 ⟨rfl,hh0⟩;refine xd [0,1,4,5,9] rfl ?_;subst hh0;refine aM rfl rfl (fun hz=>?_) (fun hz=>?_)
 · refine bf func54 2 [0,1,4,5,9] rfl ?_;refine G.ret func54 rfl rfl ?_;rw[bG,if_pos hz];exact⟨_,rfl,rfl,rfl⟩
 · refine aB rfl ?_;refine av rfl ?_;refine bl func54 1 rfl ?_;refine xp rfl (aj.aS underlying127 rfl) ?_;refine aN 1 [0,1,4,5,9,11,12,13] rfl ?_;refine G.block rfl rfl ?_;refine bO (σ:=Nat×Int) (fun q=>[(0,.pointer (some ⟨nb,0,none⟩)),(5,.int .i64 q.2),(11,.slice na nn nc),(12,.int .i64 (nn:Nat)),(13,.int .i64 (q.1:Nat))]) (fun q h'=>h'=h0/\q.1<=nn/\pY ss (now.drop q.1) q.2=tgt) (fun q=>nn-q.1) ((0,-1)) rfl ⟨rfl,rfl,rfl,rfl,rfl,trivial⟩ ⟨rfl,Nat.zero_le _,htgt⟩ ?_;rintro⟨i,b⟩ h1 ⟨rfl,hi,hcon⟩ ih
   try dsimp only
   dsimp only at hi hcon;refine bf func54 1 [0,5,11,12,13,14] rfl ?_;refine av rfl ?_;refine aM rfl rfl (fun hlti=>?_) (fun hlti=>?_)
   · obtain⟨j,hj⟩:∃j,now[i]? =some j:=⟨_,List.getElem?_eq_getElem (by omega)⟩
     obtain⟨bb,o,cs,ha,_,hrow,rfl⟩:=hget i j hj;have hjl:j<ss.length:=hlt j (List.mem_of_getElem? hj);obtain⟨y,hy⟩:∃y,ss[j]? =some y:=⟨_,List.getElem?_eq_getElem hjl⟩
     obtain⟨gs,cs,ws,hvs,hgs,hrw,hws⟩:=hn.get hy;cases hvs
     have hdr:now.drop i=j::now.drop (i+1):=by
      obtain⟨hi',rfl⟩:=List.getElem?_eq_some_iff.1 hj;exact List.drop_eq_getElem_cons hi'
     rw[hdr,pY,hy] at hcon;simp only at hcon;refine aB rfl ?_;refine av rfl ?_;refine G.block rfl rfl ?_;refine xr func54 rfl ?_;refine xp rfl (aj.aH underlying127 H.bV rfl rfl i rfl ha (by omega)) ?_;refine xp rfl (ai H.cK rfl (hrow 0 _ rfl)) ?_;refine aN 1 [0,5,7,11,12,13,14] rfl ?_;refine av rfl ?_;refine G.bw [(54,.bool (pX y b))] [(0,_),(5,_),(7,_),(11,_),(12,_),(13,_),(14,_)] ⟨rfl,rfl,rfl,rfl,rfl,rfl,rfl,trivial⟩ func54 rfl ?_ ?_
     · refine aV 3 rfl ?_;refine RW.cS (d:=19) (b':=true) rfl (decide_eq_true (by omega)) ?_;refine cI 3 rfl rfl (af (off:=0) underlying126 rfl rfl H.gy rfl) ?_;refine xp rfl (ai H.iq rfl (hn.blk.cell (i:=0) rfl)) ?_;refine xp rfl (aj.aS underlying124 rfl) ?_;refine aV 3 rfl ?_;refine RW.cS (d:=28) (b':=true) rfl (decide_eq_true (by omega)) ?_;refine cI 2 rfl rfl (af (off:=0) underlying126 rfl rfl H.gy rfl) ?_;refine xp rfl (ai H.iq rfl (hn.blk.cell (i:=0) rfl)) ?_;refine cI 1 rfl rfl (aj.aH underlying124 H.lF rfl rfl j rfl rfl hjl) ?_;refine xp rfl (af (off:=0) underlying138 rfl rfl H.bV rfl) ?_;refine xp rfl (ai H.cK rfl (hrw 0 _ rfl)) ?_;refine aV 3 rfl ?_;refine aL (d:=39) rfl (fun hk=>?_) (fun hk=>?_)
       · have hk':=of_decide_eq_true hk;refine aV 3 rfl ?_;refine aL (d:=42) rfl (fun hb=>?_) (fun hb=>?_)
         · have hb':=of_decide_eq_true hb;refine aV 12 rfl ?_;refine aD rfl ?_;exact⟨rfl,aF rfl (by simp[pX];omega),rfl,rfl,rfl,rfl,rfl,rfl,rfl,trivial⟩
         · have hb':=of_decide_eq_false hb;refine cI 2 rfl rfl (af (off:=0) underlying126 rfl rfl H.gy rfl) ?_;refine xp rfl (ai H.iq rfl (hn.blk.cell (i:=0) rfl)) ?_;refine cI 1 rfl rfl (aj.aH underlying124 H.lF rfl rfl j rfl rfl hjl) ?_;refine xp rfl (af (off:=6) underlying138 rfl rfl H.bV rfl) ?_;refine xp rfl (ai H.cK rfl (hrw 6 _ rfl)) ?_;refine aV 4 rfl ?_;refine aD rfl ?_;exact⟨rfl,aF rfl (by simp only[pX,decide_eq_decide];omega),rfl,rfl,rfl,rfl,rfl,rfl,rfl,trivial⟩
       · have hk':=of_decide_eq_false hk;refine aV 15 rfl ?_;refine aD rfl ?_;exact⟨rfl,aF rfl (by simp[pX];omega),rfl,rfl,rfl,rfl,rfl,rfl,rfl,trivial⟩
     · refine aJ rfl rfl (fun hb=>?_) (fun hb=>?_)
       · rw[if_pos hb] at hcon;refine G.cz func54 rfl ?_;refine cI 2 rfl rfl (af (off:=0) underlying126 rfl rfl H.gy rfl) ?_;refine xp rfl (ai H.iq rfl (hn.blk.cell (i:=0) rfl)) ?_;refine cI 1 rfl rfl (aj.aH underlying124 H.lF rfl rfl j rfl rfl hjl) ?_;refine xp rfl (af (off:=6) underlying138 rfl rfl H.bV rfl) ?_;refine xp rfl (ai H.cK rfl (hrw 6 _ rfl)) ?_;refine aN 1 [0,5,7,11,12,13,14,54] rfl ?_;refine G.aR ?_;refine G.cz func54 rfl ?_;refine xp rfl (aj.bJ rfl rfl ⟨by omega,by omega⟩) ?_;refine aN 1 [0,5,7,11,12,13,14,54] rfl ?_;exact ih (i+1,(y.rule:Int)) _ _ ⟨rfl,rfl,rfl,rfl,rfl,trivial⟩ ⟨rfl,by show i+1<=nn;omega,hcon⟩ (by show nn-(i+1)<nn-i;omega)
       · rw[if_neg (by rw[hb];decide)] at hcon;refine aB rfl ?_;refine G.aR ?_;refine G.cz func54 rfl ?_;refine xp rfl (aj.bJ rfl rfl ⟨by omega,by omega⟩) ?_;refine aN 1 [0,5,7,11,12,13,14,54] rfl ?_;exact ih (i+1,b) _ _ ⟨rfl,rfl,rfl,rfl,rfl,trivial⟩ ⟨rfl,by show i+1<=nn;omega,hcon⟩ (by show nn-(i+1)<nn-i;omega)
   · have hnil:now.drop i=[]:=List.drop_of_length_le (by omega);rw[hnil,pY] at hcon;refine bD rfl rfl ?_;refine bf func54 2 [0,4,5,11,12,13,14] rfl ?_;refine G.ret func54 rfl rfl ?_;rw[bG,if_neg hz,htgt];exact⟨_,rfl,by rw[hcon];rfl,rfl⟩
end
end Go.Proofs.YtmehdcdbeafljaaGreatDoor
