/- What the proof of the statement leans on (part 23). -/
import Derived.Test.YtiigijehmmcfgaaGreatDoorRows
import Derived.Test.YtiigijehmmcfgaaGreatDoorQv

namespace Go.Proofs.YtiigijehmmcfgaaGreatDoor.H
open Go Go.Lw
theorem CD:b7 Tryz.prog 109=some false:=by kernel_rfl
theorem lS:b7 Tryz.prog 112=some false:=by kernel_rfl
theorem FM:b7 Tryz.prog 113=some false:=by kernel_rfl
theorem Kg:b7 Tryz.prog 117=some false:=by kernel_rfl
theorem lR:b7 Tryz.prog 122=some true:=by kernel_rfl
theorem iD:b7 Tryz.prog 137=some false:=by kernel_rfl
theorem HL:b7 Tryz.prog 140=some true:=by kernel_rfl
theorem uJ:b7 Tryz.prog 141=some false:=by kernel_rfl
theorem eN:b7 Tryz.prog 143=some true:=by kernel_rfl
theorem Kf:b7 Tryz.prog 149=some true:=by kernel_rfl
theorem CC:b7 Tryz.prog 153=some false:=by kernel_rfl
theorem Ar:b7 Tryz.prog 155=some true:=by kernel_rfl
theorem qi:b7 Tryz.prog 158=some false:=by kernel_rfl
theorem uI:b7 Tryz.prog 164=some true:=by kernel_rfl
theorem HK:b7 Tryz.prog 198=some false:=by kernel_rfl
theorem gi:b7 Tryz.prog 24=some false:=by kernel_rfl
theorem IG:b7 Tryz.prog 25=some false:=by kernel_rfl
theorem aJ:b7 Tryz.prog 27=some true:=by kernel_rfl
theorem bD:b7 Tryz.prog 3=some false:=by kernel_rfl
theorem lU:b7 Tryz.prog 31=some true:=by kernel_rfl
theorem GK:b7 Tryz.prog 34=some false:=by kernel_rfl
theorem F1:b7 Tryz.prog 4=some false:=by kernel_rfl
theorem lB:b7 Tryz.prog 44=some false:=by kernel_rfl
theorem Lt:b7 Tryz.prog 5=some false:=by kernel_rfl
theorem IF:b7 Tryz.prog 81=some false:=by kernel_rfl
theorem jq:b7 Tryz.prog 87=some true:=by kernel_rfl
theorem cT:b7 Tryz.prog 9=some false:=by kernel_rfl
theorem IE:b7 Tryz.prog 99=some false:=by kernel_rfl
theorem ID  : Tryz.prog.built 111 []=some #[.slice none 0 0]:=by kernel_rfl
theorem IC  : Tryz.prog.built 122 []=some #[.int .i64 (0),.int .i64 (0),.int .i64 (0)]:=by kernel_rfl
theorem rS (a0:Int) (a1:Int) (a2:Int):Tryz.prog.built 122 [(0,.int .i64 a0),(1,.int .i64 a1),(2,.int .i64 a2)]=some #[.int .i64 a0,.int .i64 a1,.int .i64 a2]:=by kernel_rfl
theorem CA (a0:ByteArray):Tryz.prog.built 127 [(0,.string a0)]=some #[.string a0,.slice none 0 0]:=by kernel_rfl
theorem IB  : Tryz.prog.built 139 []=some #[.slice none 0 0,.int .i64 (0)]:=by kernel_rfl
theorem BM  : Tryz.prog.built 143 []=some #[.int .i64 (0),.int .u64 (0),.int .u64 (0),.int .u64 (0),.int .u64 (0),.slice none 0 0]:=by kernel_rfl
theorem qI (a0:Int) (a2:Option Addr) (n2 c2:Nat):Tryz.prog.built 143 [(0,.int .i64 a0),(2,.slice a2 n2 c2)]=some #[.int .i64 a0,.int .u64 (0),.int .u64 (0),.int .u64 (0),.int .u64 (0),.slice a2 n2 c2]:=by kernel_rfl
theorem Cz (a0:Int):Tryz.prog.built 143 [(0,.int .i64 a0)]=some #[.int .i64 a0,.int .u64 (0),.int .u64 (0),.int .u64 (0),.int .u64 (0),.slice none 0 0]:=by kernel_rfl
theorem FH  : Tryz.prog.built 149 []=some #[.int .i64 (0),.int .u64 (0),.int .u64 (0),.int .u64 (0),.int .u64 (0),.slice none 0 0,.int .i64 (0)]:=by kernel_rfl
theorem Ao (a0:Int) (a1_0 a1_1 a1_2 a1_3:Value) (a2:Option Addr) (n2 c2:Nat):Tryz.prog.built 149 [(0,.int .i64 a0),(1,.agg #[a1_0,a1_1,a1_2,a1_3]),(2,.slice a2 n2 c2)]=some #[.int .i64 a0,a1_0,a1_1,a1_2,a1_3,.slice a2 n2 c2,.int .i64 (0)]:=by kernel_rfl
theorem DS (a0:Int) (a3:Int):Tryz.prog.built 149 [(0,.int .i64 a0),(3,.int .i64 a3)]=some #[.int .i64 a0,.int .u64 (0),.int .u64 (0),.int .u64 (0),.int .u64 (0),.slice none 0 0,.int .i64 a3]:=by kernel_rfl
theorem yh (a2:Option Addr) (n2 c2:Nat):Tryz.prog.built 149 [(2,.slice a2 n2 c2)]=some #[.int .i64 (0),.int .u64 (0),.int .u64 (0),.int .u64 (0),.int .u64 (0),.slice a2 n2 c2,.int .i64 (0)]:=by kernel_rfl
theorem IA  : Tryz.prog.built 155 []=some #[.string ⟨#[]⟩,.int .i64 (0),.int .i64 (0)]:=by kernel_rfl
theorem FG  : Tryz.prog.built 160 []=some #[.slice none 0 0,.slice none 0 0]:=by kernel_rfl
theorem gX  : Tryz.prog.built 179 []=some #[]:=by kernel_rfl
theorem GG (a0:ByteArray):Tryz.prog.built 182 [(0,.string a0)]=some #[.string a0]:=by kernel_rfl
theorem uF (a0:ByteArray) (a3:Int) (a4:Option Addr) (n4 c4:Nat):Tryz.prog.built 27 [(0,.string a0),(3,.int .i64 a3),(4,.slice a4 n4 c4)]=some #[.string a0,.int .i64 (0),.int .i64 (0),.int .i64 a3,.slice a4 n4 c4,.slice none 0 0,.int .i64 (0),.string ⟨#[]⟩,.int .i64 (0),.int .i64 (0),.int .i64 (0),.string ⟨#[]⟩,.int .i64 (0),.string ⟨#[]⟩,.int .i64 (0),.int .i64 (0),.slice none 0 0,.slice none 0 0,.int .i64 (0)]:=by kernel_rfl
theorem Iz (a3:Int):Tryz.prog.built 27 [(3,.int .i64 a3)]=some #[.string ⟨#[]⟩,.int .i64 (0),.int .i64 (0),.int .i64 a3,.slice none 0 0,.slice none 0 0,.int .i64 (0),.string ⟨#[]⟩,.int .i64 (0),.int .i64 (0),.int .i64 (0),.string ⟨#[]⟩,.int .i64 (0),.string ⟨#[]⟩,.int .i64 (0),.int .i64 (0),.slice none 0 0,.slice none 0 0,.int .i64 (0)]:=by kernel_rfl
theorem uE (a0:Int) (a1:Int) (a2:Int):Tryz.prog.built 31 [(0,.int .i64 a0),(1,.int .i64 a1),(2,.int .i64 a2)]=some #[.int .i64 a0,.int .i64 a1,.int .i64 a2,.string ⟨#[]⟩,.bool false]:=by kernel_rfl
theorem An (a0:Int) (a2:Int):Tryz.prog.built 31 [(0,.int .i64 a0),(2,.int .i64 a2)]=some #[.int .i64 a0,.int .i64 (0),.int .i64 a2,.string ⟨#[]⟩,.bool false]:=by kernel_rfl
theorem oP (a0:Int) (a3:ByteArray) (a2:Int):Tryz.prog.built 31 [(0,.int .i64 a0),(3,.string a3),(2,.int .i64 a2)]=some #[.int .i64 a0,.int .i64 (0),.int .i64 a2,.string a3,.bool false]:=by kernel_rfl
theorem BL (a0:Int):Tryz.prog.built 31 [(0,.int .i64 a0)]=some #[.int .i64 a0,.int .i64 (0),.int .i64 (0),.string ⟨#[]⟩,.bool false]:=by kernel_rfl
theorem FF (a0_0 a0_1 a0_2 a0_3 a0_4 a0_5 a0_6 a0_7 a0_8 a0_9 a0_10 a0_11 a0_12 a0_13 a0_14 a0_15 a0_16 a0_17 a0_18:Value) (a1_0 a1_1 a1_2 a1_3 a1_4 a1_5 a1_6 a1_7 a1_8 a1_9 a1_10 a1_11 a1_12 a1_13 a1_14 a1_15 a1_16 a1_17 a1_18:Value):Tryz.prog.built 35 [(0,.agg #[a0_0,a0_1,a0_2,a0_3,a0_4,a0_5,a0_6,a0_7,a0_8,a0_9,a0_10,a0_11,a0_12,a0_13,a0_14,a0_15,a0_16,a0_17,a0_18]),(1,.agg #[a1_0,a1_1,a1_2,a1_3,a1_4,a1_5,a1_6,a1_7,a1_8,a1_9,a1_10,a1_11,a1_12,a1_13,a1_14,a1_15,a1_16,a1_17,a1_18])]=some #[a0_0,a0_1,a0_2,a0_3,a0_4,a0_5,a0_6,a0_7,a0_8,a0_9,a0_10,a0_11,a0_12,a0_13,a0_14,a0_15,a0_16,a0_17,a0_18,a1_0,a1_1,a1_2,a1_3,a1_4,a1_5,a1_6,a1_7,a1_8,a1_9,a1_10,a1_11,a1_12,a1_13,a1_14,a1_15,a1_16,a1_17,a1_18]:=by kernel_rfl
theorem Kc  : Tryz.prog.built 87 []=some #[.int .i64 (0),.int .i64 (0)]:=by kernel_rfl
theorem FE (a0:Int) (a1:Int):Tryz.prog.built 87 [(0,.int .i64 a0),(1,.int .i64 a1)]=some #[.int .i64 a0,.int .i64 a1]:=by kernel_rfl
theorem Iy (a0:Int):Tryz.prog.built 87 [(0,.int .i64 a0)]=some #[.int .i64 a0,.int .i64 (0)]:=by kernel_rfl
theorem kC:Tryz.prog.concrete 179=true:=by kernel_rfl
set_option maxRecDepth 100000 in
theorem HF:gu Tryz.prog 117 1 8:=⟨⟨_,_,rfl,rfl,rfl,rfl,rfl⟩,by decide⟩
set_option maxRecDepth 100000 in
theorem HE:gu Tryz.prog 122 3 24:=⟨⟨_,_,rfl,rfl,rfl,rfl,rfl⟩,by decide⟩
set_option maxRecDepth 100000 in
theorem uq:gu Tryz.prog 143 6 64:=⟨⟨_,_,rfl,rfl,rfl,rfl,rfl⟩,by decide⟩
set_option maxRecDepth 100000 in
theorem HD:gu Tryz.prog 149 7 72:=⟨⟨_,_,rfl,rfl,rfl,rfl,rfl⟩,by decide⟩
set_option maxRecDepth 100000 in
theorem Cr:gu Tryz.prog 164 256 2048:=⟨⟨_,_,rfl,rfl,rfl,rfl,rfl⟩,by decide⟩
set_option maxRecDepth 100000 in
theorem nH:gu Tryz.prog 3 1 8:=⟨⟨_,_,rfl,rfl,rfl,rfl,rfl⟩,by decide⟩
set_option maxRecDepth 100000 in
theorem JZ:gu Tryz.prog 31 5 48:=⟨⟨_,_,rfl,rfl,rfl,rfl,rfl⟩,by decide⟩
set_option maxRecDepth 100000 in
theorem JY:gu Tryz.prog 4 1 1:=⟨⟨_,_,rfl,rfl,rfl,rfl,rfl⟩,by decide⟩
set_option maxRecDepth 100000 in
theorem Ir:gu Tryz.prog 44 1 24:=⟨⟨_,_,rfl,rfl,rfl,rfl,rfl⟩,by decide⟩
set_option maxRecDepth 100000 in
theorem K7:gu Tryz.prog 5 1 1:=⟨⟨_,_,rfl,rfl,rfl,rfl,rfl⟩,by decide⟩
set_option maxRecDepth 100000 in
theorem uV:gu Tryz.prog 9 1 16:=⟨⟨_,_,rfl,rfl,rfl,rfl,rfl⟩,by decide⟩
theorem mixed:Tryz.prog.follows .mixedOrders=true:=by kernel_rfl
theorem JO:(Tryz.f100.name == "runtime.NumGoroutine")=false:=by decide +kernel
theorem JN:(Tryz.f101.name == "runtime.NumGoroutine")=false:=by decide +kernel
theorem JM:(Tryz.f102.name == "runtime.NumGoroutine")=false:=by decide +kernel
theorem JL:(Tryz.f103.name == "runtime.NumGoroutine")=false:=by decide +kernel
theorem JK:(Tryz.f104.name == "runtime.NumGoroutine")=false:=by decide +kernel
theorem Hz:(Tryz.f105.name == "runtime.NumGoroutine")=false:=by decide +kernel
theorem Hy:(Tryz.f106.name == "runtime.NumGoroutine")=false:=by decide +kernel
theorem Di:(Tryz.f11.name == "runtime.NumGoroutine")=false:=by decide +kernel
theorem Hx:(Tryz.f111.name == "runtime.NumGoroutine")=false:=by decide +kernel
theorem JJ:(Tryz.f113.name == "runtime.NumGoroutine")=false:=by decide +kernel
theorem vX:(Tryz.f114.name == "runtime.NumGoroutine")=false:=by decide +kernel
theorem s5:(Tryz.f115.name == "runtime.NumGoroutine")=false:=by decide +kernel
theorem JI:(Tryz.f116.name == "runtime.NumGoroutine")=false:=by decide +kernel
theorem JH:(Tryz.f117.name == "runtime.NumGoroutine")=false:=by decide +kernel
theorem Cg:(Tryz.f118.name == "runtime.NumGoroutine")=false:=by decide +kernel
theorem JG:(Tryz.f119.name == "runtime.NumGoroutine")=false:=by decide +kernel
theorem ot:(Tryz.f12.name == "runtime.NumGoroutine")=false:=by decide +kernel
theorem JF:(Tryz.f120.name == "runtime.NumGoroutine")=false:=by decide +kernel
theorem Hw:(Tryz.f121.name == "runtime.NumGoroutine")=false:=by decide +kernel
theorem JE:(Tryz.f122.name == "runtime.NumGoroutine")=false:=by decide +kernel
theorem JD:(Tryz.f123.name == "runtime.NumGoroutine")=false:=by decide +kernel
theorem Hv:(Tryz.f124.name == "runtime.NumGoroutine")=false:=by decide +kernel
theorem JC:(Tryz.f125.name == "runtime.NumGoroutine")=false:=by decide +kernel
theorem JB:(Tryz.f126.name == "runtime.NumGoroutine")=false:=by decide +kernel
theorem JA:(Tryz.f127.name == "runtime.NumGoroutine")=false:=by decide +kernel
theorem Hu:(Tryz.f128.name == "runtime.NumGoroutine")=false:=by decide +kernel
theorem Jz:(Tryz.f129.name == "runtime.NumGoroutine")=false:=by decide +kernel
theorem Jy:(Tryz.f130.name == "runtime.NumGoroutine")=false:=by decide +kernel
theorem Ht:(Tryz.f134.name == "runtime.NumGoroutine")=false:=by decide +kernel
theorem Jx:(Tryz.f135.name == "runtime.NumGoroutine")=false:=by decide +kernel
theorem EO:(Tryz.f137.name == "runtime.NumGoroutine")=false:=by decide +kernel
theorem Hs:(Tryz.f138.name == "runtime.NumGoroutine")=false:=by decide +kernel
theorem Jw:(Tryz.f139.name == "runtime.NumGoroutine")=false:=by decide +kernel
theorem A6:(Tryz.f14.name == "runtime.NumGoroutine")=false:=by decide +kernel
theorem Jv:(Tryz.f140.name == "runtime.NumGoroutine")=false:=by decide +kernel
theorem Ju:(Tryz.f141.name == "runtime.NumGoroutine")=false:=by decide +kernel
theorem Jt:(Tryz.f142.name == "runtime.NumGoroutine")=false:=by decide +kernel
theorem Hr:(Tryz.f143.name == "runtime.NumGoroutine")=false:=by decide +kernel
theorem Hq:(Tryz.f144.name == "runtime.NumGoroutine")=false:=by decide +kernel
theorem Hp:(Tryz.f145.name == "runtime.NumGoroutine")=false:=by decide +kernel
theorem Cf:(Tryz.f146.name == "runtime.NumGoroutine")=false:=by decide +kernel
theorem Ho:(Tryz.f147.name == "runtime.NumGoroutine")=false:=by decide +kernel
theorem K2:(Tryz.f15.name == "runtime.NumGoroutine")=false:=by decide +kernel
theorem Js:(Tryz.f151.name == "runtime.NumGoroutine")=false:=by decide +kernel
theorem Jr:(Tryz.f154.name == "runtime.NumGoroutine")=false:=by decide +kernel
theorem Hl:(Tryz.f155.name == "runtime.NumGoroutine")=false:=by decide +kernel
theorem sZ:(Tryz.f156.name == "runtime.NumGoroutine")=false:=by decide +kernel
theorem K1:(Tryz.f16.name == "runtime.NumGoroutine")=false:=by decide +kernel
theorem Hj:(Tryz.f164.name == "runtime.NumGoroutine")=false:=by decide +kernel
theorem Jq:(Tryz.f165.name == "runtime.NumGoroutine")=false:=by decide +kernel
theorem vW:(Tryz.f166.name == "runtime.NumGoroutine")=false:=by decide +kernel
theorem Hi:(Tryz.f167.name == "runtime.NumGoroutine")=false:=by decide +kernel
theorem oq:(Tryz.f17.name == "runtime.NumGoroutine")=false:=by decide +kernel
theorem Hh:(Tryz.f174.name == "runtime.NumGoroutine")=false:=by decide +kernel
theorem Hg:(Tryz.f175.name == "runtime.NumGoroutine")=false:=by decide +kernel
theorem pM:(Tryz.f18.name == "runtime.NumGoroutine")=false:=by decide +kernel
theorem Jp:(Tryz.f19.name == "runtime.NumGoroutine")=false:=by decide +kernel
theorem K0:(Tryz.f21.name == "runtime.NumGoroutine")=false:=by decide +kernel
theorem iT:(Tryz.f22.name == "runtime.NumGoroutine")=false:=by decide +kernel
theorem Ik:(Tryz.f23.name == "runtime.NumGoroutine")=false:=by decide +kernel
theorem Ij:(Tryz.f24.name == "runtime.NumGoroutine")=false:=by decide +kernel
theorem Ii:(Tryz.f25.name == "runtime.NumGoroutine")=false:=by decide +kernel
theorem Ih:(Tryz.f26.name == "runtime.NumGoroutine")=false:=by decide +kernel
theorem Gh:(Tryz.f27.name == "runtime.NumGoroutine")=false:=by decide +kernel
theorem Ig:(Tryz.f28.name == "runtime.NumGoroutine")=false:=by decide +kernel
theorem Jo:(Tryz.f29.name == "runtime.NumGoroutine")=false:=by decide +kernel
theorem Jn:(Tryz.f30.name == "runtime.NumGoroutine")=false:=by decide +kernel
theorem KZ:(Tryz.f31.name == "runtime.NumGoroutine")=false:=by decide +kernel
theorem KY:(Tryz.f32.name == "runtime.NumGoroutine")=false:=by decide +kernel
theorem Jm:(Tryz.f33.name == "runtime.NumGoroutine")=false:=by decide +kernel
theorem KX:(Tryz.f34.name == "runtime.NumGoroutine")=false:=by decide +kernel
theorem KW:(Tryz.f35.name == "runtime.NumGoroutine")=false:=by decide +kernel
theorem Jl:(Tryz.f36.name == "runtime.NumGoroutine")=false:=by decide +kernel
theorem Jk:(Tryz.f37.name == "runtime.NumGoroutine")=false:=by decide +kernel
theorem KV:(Tryz.f38.name == "runtime.NumGoroutine")=false:=by decide +kernel
theorem Jj:(Tryz.f39.name == "runtime.NumGoroutine")=false:=by decide +kernel
theorem Gg:(Tryz.f40.name == "runtime.NumGoroutine")=false:=by decide +kernel
theorem KU:(Tryz.f41.name == "runtime.NumGoroutine")=false:=by decide +kernel
theorem Ie:(Tryz.f43.name == "runtime.NumGoroutine")=false:=by decide +kernel
theorem Ic:(Tryz.f44.name == "runtime.NumGoroutine")=false:=by decide +kernel
theorem Ji:(Tryz.f45.name == "runtime.NumGoroutine")=false:=by decide +kernel
theorem A5:(Tryz.f46.name == "runtime.NumGoroutine")=false:=by decide +kernel
theorem Gf:(Tryz.f49.name == "runtime.NumGoroutine")=false:=by decide +kernel
theorem Ib:(Tryz.f50.name == "runtime.NumGoroutine")=false:=by decide +kernel
theorem Ge:(Tryz.f51.name == "runtime.NumGoroutine")=false:=by decide +kernel
theorem Ia:(Tryz.f53.name == "runtime.NumGoroutine")=false:=by decide +kernel
theorem KT:(Tryz.f54.name == "runtime.NumGoroutine")=false:=by decide +kernel
theorem KR:(Tryz.f55.name == "runtime.NumGoroutine")=false:=by decide +kernel
theorem KQ:(Tryz.f56.name == "runtime.NumGoroutine")=false:=by decide +kernel
theorem KP:(Tryz.f57.name == "runtime.NumGoroutine")=false:=by decide +kernel
theorem zi:(Tryz.f58.name == "runtime.NumGoroutine")=false:=by decide +kernel
theorem EN:(Tryz.f59.name == "runtime.NumGoroutine")=false:=by decide +kernel
theorem KO:(Tryz.f60.name == "runtime.NumGoroutine")=false:=by decide +kernel
theorem u6:(Tryz.f61.name == "runtime.NumGoroutine")=false:=by decide +kernel
theorem Jh:(Tryz.f62.name == "runtime.NumGoroutine")=false:=by decide +kernel
theorem H9:(Tryz.f63.name == "runtime.NumGoroutine")=false:=by decide +kernel
theorem KN:(Tryz.f64.name == "runtime.NumGoroutine")=false:=by decide +kernel
theorem KM:(Tryz.f65.name == "runtime.NumGoroutine")=false:=by decide +kernel
theorem H8:(Tryz.f66.name == "runtime.NumGoroutine")=false:=by decide +kernel
theorem Jg:(Tryz.f67.name == "runtime.NumGoroutine")=false:=by decide +kernel
theorem KL:(Tryz.f68.name == "runtime.NumGoroutine")=false:=by decide +kernel
theorem EM:(Tryz.f69.name == "runtime.NumGoroutine")=false:=by decide +kernel
theorem Lg:(Tryz.f7.name == "runtime.NumGoroutine")=false:=by decide +kernel
theorem KK:(Tryz.f70.name == "runtime.NumGoroutine")=false:=by decide +kernel
theorem Jf:(Tryz.f71.name == "runtime.NumGoroutine")=false:=by decide +kernel
theorem Je:(Tryz.f72.name == "runtime.NumGoroutine")=false:=by decide +kernel
theorem Jd:(Tryz.f73.name == "runtime.NumGoroutine")=false:=by decide +kernel
theorem H7:(Tryz.f76.name == "runtime.NumGoroutine")=false:=by decide +kernel
theorem Gd:(Tryz.f77.name == "runtime.NumGoroutine")=false:=by decide +kernel
theorem Jc:(Tryz.f78.name == "runtime.NumGoroutine")=false:=by decide +kernel
theorem KJ:(Tryz.f8.name == "runtime.NumGoroutine")=false:=by decide +kernel
theorem Jb:(Tryz.f80.name == "runtime.NumGoroutine")=false:=by decide +kernel
theorem KI:(Tryz.f81.name == "runtime.NumGoroutine")=false:=by decide +kernel
theorem Ja:(Tryz.f83.name == "runtime.NumGoroutine")=false:=by decide +kernel
theorem I9:(Tryz.f84.name == "runtime.NumGoroutine")=false:=by decide +kernel
theorem I8:(Tryz.f85.name == "runtime.NumGoroutine")=false:=by decide +kernel
theorem H6:(Tryz.f86.name == "runtime.NumGoroutine")=false:=by decide +kernel
theorem KH:(Tryz.f87.name == "runtime.NumGoroutine")=false:=by decide +kernel
theorem KG:(Tryz.f88.name == "runtime.NumGoroutine")=false:=by decide +kernel
theorem KF:(Tryz.f89.name == "runtime.NumGoroutine")=false:=by decide +kernel
theorem KE:(Tryz.f90.name == "runtime.NumGoroutine")=false:=by decide +kernel
theorem Dh:(Tryz.f91.name == "runtime.NumGoroutine")=false:=by decide +kernel
theorem KD:(Tryz.f98.name == "runtime.NumGoroutine")=false:=by decide +kernel
theorem vG:dL Tryz.prog 109=some 1:=by kernel_rfl
theorem Et:dL Tryz.prog 113=some 1:=by kernel_rfl
theorem I2:dL Tryz.prog 117=some 1:=by kernel_rfl
theorem eY:dL Tryz.prog 122=some 3:=by kernel_rfl
theorem gx:dL Tryz.prog 137=some 1:=by kernel_rfl
theorem lH:dL Tryz.prog 140=some 4:=by kernel_rfl
theorem yH:dL Tryz.prog 141=some 1:=by kernel_rfl
theorem b9:dL Tryz.prog 143=some 6:=by kernel_rfl
theorem lG:dL Tryz.prog 149=some 7:=by kernel_rfl
theorem Es:dL Tryz.prog 153=some 1:=by kernel_rfl
theorem jW:dL Tryz.prog 155=some 3:=by kernel_rfl
theorem jV:dL Tryz.prog 158=some 1:=by kernel_rfl
theorem jU:dL Tryz.prog 164=some 256:=by kernel_rfl
theorem dQ:dL Tryz.prog 24=some 1:=by kernel_rfl
theorem Er:dL Tryz.prog 25=some 1:=by kernel_rfl
theorem aB:dL Tryz.prog 27=some 19:=by kernel_rfl
theorem aQ:dL Tryz.prog 3=some 1:=by kernel_rfl
theorem iR:dL Tryz.prog 31=some 5:=by kernel_rfl
theorem yG:dL Tryz.prog 34=some 1:=by kernel_rfl
theorem vF:dL Tryz.prog 4=some 1:=by kernel_rfl
theorem fS:dL Tryz.prog 44=some 1:=by kernel_rfl
theorem I1:dL Tryz.prog 5=some 1:=by kernel_rfl
theorem AL:dL Tryz.prog 81=some 1:=by kernel_rfl
theorem eB:dL Tryz.prog 87=some 2:=by kernel_rfl
theorem ct:dL Tryz.prog 9=some 1:=by kernel_rfl
theorem Ep:dL Tryz.prog 99=some 1:=by kernel_rfl
theorem IX:(Tryz.prog.info? 101).bind (·.zero)=some (.agg #[.pointer none,.slice none 0 0]):=by kernel_rfl
theorem IW:(Tryz.prog.info? 113).bind (·.zero)=some (.int .i64 (0)):=by kernel_rfl
theorem vz:(Tryz.prog.info? 122).bind (·.zero)=some (.agg #[.int .i64 (0),.int .i64 (0),.int .i64 (0)]):=by kernel_rfl
theorem jT:(Tryz.prog.info? 143).bind (·.zero)=some (.agg #[.int .i64 (0),.int .u64 (0),.int .u64 (0),.int .u64 (0),.int .u64 (0),.slice none 0 0]):=by kernel_rfl
theorem yu:(Tryz.prog.info? 155).bind (·.zero)=some (.agg #[.string ⟨#[]⟩,.int .i64 (0),.int .i64 (0)]):=by kernel_rfl
theorem BX:(Tryz.prog.info? 164).bind (·.zero)=some (.agg (Array.replicate 256 (.int .i64 (0)))):=by kernel_rfl
theorem Ku:(Tryz.prog.info? 24).bind (·.zero)=some (.slice none 0 0):=by kernel_rfl
theorem dz:(Tryz.prog.info? 27).bind (·.zero)=some (.agg #[.string ⟨#[]⟩,.int .i64 (0),.int .i64 (0),.int .i64 (0),.slice none 0 0,.slice none 0 0,.int .i64 (0),.string ⟨#[]⟩,.int .i64 (0),.int .i64 (0),.int .i64 (0),.string ⟨#[]⟩,.int .i64 (0),.string ⟨#[]⟩,.int .i64 (0),.int .i64 (0),.slice none 0 0,.slice none 0 0,.int .i64 (0)]):=by kernel_rfl
theorem Lc:(Tryz.prog.info? 3).bind (·.zero)=some (.int .i64 (0)):=by kernel_rfl
theorem Lb:(Tryz.prog.info? 4).bind (·.zero)=some (.bool false):=by kernel_rfl
theorem Ll:(Tryz.prog.info? 5).bind (·.zero)=some (.int .u8 (0)):=by kernel_rfl
theorem wO:(Tryz.prog.info? 87).bind (·.zero)=some (.agg #[.int .i64 (0),.int .i64 (0)]):=by kernel_rfl
end Go.Proofs.YtiigijehmmcfgaaGreatDoor.H
namespace Go.Proofs.YtiigijehmmcfgaaGreatDoor
open Go.Proofs.Tryz
open Go Go.Lw
set_option maxRecDepth 20000
section
variable {rb n m d lim:Nat}{h h':ay}{c a:UInt8}{l r:By}{x:Nd}{M:Nat->Prop}
def sX:Value:=.iface 179 (.agg #[])
def BT (c:List PanicEntry):Prop:=c=[{ v:=sX,recovered:=false }]
def St (h:ay) (rb:Nat) (l:By):Prop:=br h rb 182 [.string (bs l)]
abbrev yq (rb:Nat):Value:=.pointer (some ⟨rb,0,none⟩)
abbrev only (rb:Nat):Nat->Prop:=fun b=>b=rb
def PR {α:Type}(rb:Nat) (h:ay) (p:Option (α×By)) (Φ:α->Value->ay->Prop):Ending->ay->Prop :=
 D4 (fun v h'=>∃x r,p=some (x,r)/\Φ x v h'/\St h' rb r/\Ext (only rb) h h') (fun ch h'=>BT ch/\p=none/\Ext (only rb) h h')
theorem dX {α:Type}{p:Option (α×By)}{Φ:α->Value->ay->Prop}{c:List PanicEntry}(hc:BT c) (hp:p=none) (hx:Ext (only rb) h h'):PR rb h p Φ (.panicked c) h':=⟨hc,hp,hx⟩
theorem GM {Φ:Value->ay->Prop}{X:List PanicEntry->ay->Prop}{c:List PanicEntry}(k:X c h):D4 Φ X (.panicked c) h:=k
theorem St.cell {h:ay}{rb:Nat}{l:By}(k:St h rb l):cellAt h ⟨rb,0,none⟩=some (.string (bs l)):=br.cell k (i:=0) rfl
theorem St.lt {h:ay}{rb:Nat}{l:By}(k:St h rb l):rb<h.size:=br.lt k
def El:By->Option (UInt8×By)| []=>none|c::r=>some (c,r)
theorem jc (h:El l=none):l=[]:=by cases l with|nil=>rfl|cons c r=>cases h
theorem fR (h:El l=some (c,r)):l=c::r:=by cases l with|nil=>cases h|cons d t=>cases h;rfl
theorem s7 (hs:St h rb l):ah Tryz.prog 155 #[yq rb] h (bX fun r h'=>r= .int .u8 ((l.head?.getD 0).toNat:Nat)/\h'=h):=by
 refine ah.of func155 rfl rfl ?_;refine aY func155 1 [0,2] rfl ?_;refine au rfl ?_;refine bB func155 2 rfl ?_;refine xp rfl (aa (off:=0) underlying182 rfl rfl H.ct rfl) ?_;refine xp rfl (af H.cT rfl hs.cell) ?_;refine xp rfl (ak.fG rfl rfl) ?_;refine xd [0,2,7] rfl ?_;refine aG rfl rfl (fun he=>?_) (fun he=>?_)
 · have hl:l=[]:=gE he;subst hl;refine aY func155 1 [0,2,7] rfl ?_;refine aK func155 rfl rfl ?_;exact⟨_,rfl,rfl,rfl⟩
 · obtain⟨c,r,rfl⟩:=List.exists_cons_of_ne_nil (fun(e:l=[])=>he (by rw[e];rfl));refine aA rfl ?_;refine bB func155 2 rfl ?_;refine xp rfl (aa (off:=0) underlying182 rfl rfl H.ct rfl) ?_;refine xp rfl (af H.cT rfl hs.cell) ?_;refine xp rfl (ak.iA underlying9 rfl rfl 0 rfl (rP rfl)) ?_;refine aS 1 [0,2,7] rfl ?_;refine aK func155 rfl rfl ?_;exact⟨_,rfl,rfl,rfl⟩
theorem fQ (hs:St h rb l) (hl:l.length<=1000000):ah Tryz.prog 156 #[yq rb] h (PR rb h (El l) fun c v _=>v= .int .u8 (c.toNat:Nat)):=by
 refine ah.of func156 rfl rfl ?_;refine aY func156 1 [0,2] rfl ?_;refine au rfl ?_;refine bB func156 2 rfl ?_;refine xp rfl (aa (off:=0) underlying182 rfl rfl H.ct rfl) ?_;refine xp rfl (af H.cT rfl hs.cell) ?_;refine xp rfl (ak.fG rfl rfl) ?_;refine xd [0,2,8] rfl ?_;refine aG rfl rfl (fun he=>?_) (fun he=>?_)
 · have hl:l=[]:=gE he;subst hl;refine G.bV func156 rfl ?_;refine xp rfl (aP (H.gX ) rfl) ?_;refine xp rfl (bK H.kC rfl) ?_;refine RW.bh rfl rfl rfl (dB (Φ:=fun _ _=>False) rfl (dX rfl rfl (Ext.refl _ _))) ?_;rintro _ _ hpn;exact hpn.elim
 · obtain⟨c,r,rfl⟩:=List.exists_cons_of_ne_nil (fun(e:l=[])=>he (by rw[e];rfl));have hz:(bs (c::r)).size=r.length+1:=by rw[aZ];rfl
   have hd:=jH (c::r) 1;simp only[List.length_cons] at hl;refine aA rfl ?_;refine bB func156 2 rfl ?_;refine xp rfl (aa (off:=0) underlying182 rfl rfl H.ct rfl) ?_;refine xp rfl (af H.cT rfl hs.cell) ?_;refine xp rfl (ak.iA underlying9 rfl rfl 0 rfl (rP rfl)) ?_;refine aS 1 [0,2,3,8] rfl ?_;refine bB func156 3 rfl ?_;refine xp rfl (aa (off:=0) underlying182 rfl rfl H.ct rfl) ?_;refine xp rfl (af H.cT rfl hs.cell) ?_;refine xp rfl (ak.fe underlying9 rfl rfl 1 rfl (by omega)) ?_;refine cx 1 rfl rfl (aa (off:=0) underlying182 rfl rfl H.ct rfl) ?_;refine RW.bh rfl rfl rfl (av.aE H.ct rfl rfl hs (by first|decide|exact of_decide_eq_true rfl|(simp;done)|(simp;omega)) rfl) ?_;rintro _ h1 ⟨rfl,hk,hx,hz1⟩;refine xd [0,2,3,8] rfl ?_;refine aY func156 2 [0,2,3,8] rfl ?_;refine aK func156 rfl rfl ?_;exact⟨c,r,rfl,rfl,by rw[hd] at hk;exact hk,hx⟩
theorem kL (c:UInt8) (hs:St h rb l) (hl:l.length<=1000000):ah Tryz.prog 146 #[yq rb,.int .u8 (c.toNat:Nat)] h (bX fun v h' =>
 ((l.head? =some c/\v= .bool true/\St h' rb l.tail)\/(l.head? ≠some c/\v= .bool false/\St h' rb l))/\Ext (only rb) h h'):=by
 refine ah.of func146 rfl rfl ?_;refine aY func146 1 [0,1,4] rfl ?_;refine au rfl ?_;refine au rfl ?_;refine G.bu [(18,.bool (decide (l.head? ≠some c)))] [(0,_),(1,_),(4,_)] ⟨rfl,rfl,rfl,trivial⟩ func146 rfl ?_ ?_
 · refine cx 2 rfl rfl (aa (off:=0) underlying182 rfl rfl H.ct rfl) ?_;refine xp rfl (af H.cT rfl hs.cell) ?_;refine xp rfl (ak.fG rfl rfl) ?_;refine aV 1 rfl ?_;refine aH (d:=10) rfl (fun he=>?_) (fun he=>?_)
   · have hl:l=[]:=gE (of_decide_eq_true he);refine aV 8 rfl ?_;refine aC rfl ?_;exact⟨rfl,az rfl (by subst hl;simp),rfl,rfl,rfl,trivial⟩
   · obtain⟨d,r,rfl⟩:=List.exists_cons_of_ne_nil (fun(e:l=[])=>(of_decide_eq_false he) (by rw[e];rfl));refine cx 2 rfl rfl (aa (off:=0) underlying182 rfl rfl H.ct rfl) ?_;refine xp rfl (af H.cT rfl hs.cell) ?_;refine xp rfl (ak.iA underlying9 rfl rfl 0 rfl (rP rfl)) ?_;refine aV 3 rfl ?_;refine aC rfl ?_;exact⟨rfl,az rfl (by simp only[List.head?_cons,Option.some.injEq,ne_eq];exact IZ d c),rfl,rfl,rfl,trivial⟩
 · refine aG rfl rfl (fun hn=>?_) (fun hn=>?_)
   · refine aY func146 1 [0,1,4,18] rfl ?_;refine aK func146 rfl rfl ?_;exact⟨_,rfl,.inr ⟨hn,rfl,hs⟩,Ext.refl _ _⟩
   · have hn:=Classical.not_not.1 hn;obtain⟨d,r,rfl⟩:=List.exists_cons_of_ne_nil (fun(e:l=[])=>by rw[e] at hn;cases hn);have hz:(bs (d::r)).size=r.length+1:=by rw[aZ];rfl
     have hd:=jH (d::r) 1;simp only[List.length_cons] at hl;refine aA rfl ?_;refine bB func146 3 rfl ?_;refine xp rfl (aa (off:=0) underlying182 rfl rfl H.ct rfl) ?_;refine xp rfl (af H.cT rfl hs.cell) ?_;refine xp rfl (ak.fe underlying9 rfl rfl 1 rfl (by omega)) ?_;refine cx 1 rfl rfl (aa (off:=0) underlying182 rfl rfl H.ct rfl) ?_;refine RW.bh rfl rfl rfl (av.aE H.ct rfl rfl hs (by first|decide|exact of_decide_eq_true rfl|(simp;done)|(simp;omega)) rfl) ?_;rintro _ h1 ⟨rfl,hk,hx,hz1⟩;refine xd [0,1,4,18] rfl ?_;refine aY func146 1 [0,1,4,18] rfl ?_;refine aK func146 rfl rfl ?_;exact⟨_,rfl,.inl ⟨hn,rfl,by rw[hd] at hk;exact hk⟩,hx⟩
theorem s8 (c:UInt8) (hs:St h rb l) (hl:l.length<=1000000):ah Tryz.prog 164 #[yq rb,.int .u8 (c.toNat:Nat)] h (PR rb h (if l.head? =some c then some ((),l.tail) else none) fun _ _ _=>True):=by
 refine ah.of func164 rfl rfl ?_;refine bB func164 2 rfl ?_;refine xo rfl (aj (vs:=[_,_]) func146 rfl H.Cf rfl (ah.aX (kL c hs hl))) ?_;rintro _ h1 ⟨hor,hx⟩
 rcases hor with ⟨h1,rfl,h2⟩|⟨h1,rfl,h2⟩
 · refine aS 1 [0,1,7] rfl ?_;refine aO rfl rfl (fun hc=>absurd hc (by decide)) (fun _=>?_);refine aA rfl ?_;refine G.DG func164 rfl ?_;exact⟨(),_,if_pos h1,trivial,h2,hx⟩
 · refine aS 1 [0,1,7] rfl ?_;refine aO rfl rfl (fun _=>?_) (fun hc=>absurd hc (by decide));refine G.bV func164 rfl ?_;refine xp rfl (aP (H.gX ) rfl) ?_;refine xp rfl (bK H.kC rfl) ?_;refine RW.bh rfl rfl rfl (dB (Φ:=fun _ _=>False) rfl (dX rfl (if_neg h1) hx)) ?_;rintro _ _ hpn;exact hpn.elim
theorem lW (x:UInt8):ah Tryz.prog 40 #[.string ⟨#[40,41,91,93,124,42,43,63,46,92,45,94]⟩,.int .u8 (x.toNat:Nat)] h (bX fun r h'=>r= .int .i64 (Lib.indexByte fJ x)/\h'=h) :=
 (iH _ _).ret fun _ _ ⟨ho,he⟩=>⟨by rw[ho];simp[fJ],he⟩
theorem jz:∀x:UInt8,(0<=Lib.indexByte fJ x)↔x∈fJ:=by
 have h:∀n:Fin 256,(0<=Lib.indexByte fJ (UInt8.ofNat n.val))↔(UInt8.ofNat n.val)∈fJ:=by decide +kernel
 intro x;have:=h ⟨x.toNat,x.toNat_lt⟩;simpa using this
def xX:By:=[48,49,50,51,52,53,54,55,56,57,97,98,99,100,101,102]
theorem xW (x:UInt8):ah Tryz.prog 40 #[.string ⟨#[48,49,50,51,52,53,54,55,56,57,97,98,99,100,101,102]⟩,.int .u8 (x.toNat:Nat)] h (bX fun r h'=>r= .int .i64 (Lib.indexByte xX x)/\h'=h) :=
 (iH _ _).ret fun _ _ ⟨ho,he⟩=>⟨by rw[ho];simp[xX],he⟩
theorem Gk:∀n:Fin 256,IntKind.u8.wrap ((BitVec.ofInt IntKind.u8.bits (n.val:Int) |||BitVec.ofInt IntKind.u8.bits 32).toNat)=(((UInt8.ofNat n.val) ||| 32).toNat:Nat):=by decide +kernel
theorem low (x:UInt8):IntKind.u8.wrap ((BitVec.ofInt IntKind.u8.bits (x.toNat:Int) |||BitVec.ofInt IntKind.u8.bits 32).toNat)=((x ||| 32).toNat:Nat):=by
 have:=Gk ⟨x.toNat,x.toNat_lt⟩;simpa using this
theorem GB:∀n:Fin 256,kY (UInt8.ofNat n.val)=if Lib.indexByte xX ((UInt8.ofNat n.val) ||| 32)<0\/n.val<48 then none else some (Lib.indexByte xX ((UInt8.ofNat n.val) ||| 32)).toNat:=by decide +kernel
theorem Lr (x:UInt8):kY x=if Lib.indexByte xX (x ||| 32)<0\/x.toNat<48 then none else some (Lib.indexByte xX (x ||| 32)).toNat:=by
 have:=GB ⟨x.toNat,x.toNat_lt⟩;simpa using this
theorem Dx {x:UInt8}(h:kY x=some n):n<16:=by
 unfold kY at h;split at h
 · cases h;omega
 · split at h
   · cases h;omega
   · split at h
     · cases h;omega
     · cases h
theorem rK (x:UInt8):ah Tryz.prog 175 #[.int .u8 (x.toNat:Nat)] h (D4 (fun v h'=>∃n:Nat,kY x=some n/\n<16/\v= .int .u8 n/\h'=h) (fun ch h'=>BT ch/\kY x=none/\h'=h)):=by
 have hd:=Lr x;refine ah.of func175 rfl rfl ?_;refine aY func175 1 [0,2] rfl ?_;refine bB func175 1 rfl ?_;refine xp rfl (ak.ye rfl rfl) ?_;refine xo rfl (aj (vs:=[_,_]) func40 rfl H.Gg rfl (ah.aX ((low x▸xW (x ||| 32))))) ?_;rintro _ _ ⟨rfl,rfl⟩;refine aS 1 [0,2,3] rfl ?_;refine au rfl ?_;refine au rfl ?_;refine G.bu [(12,.bool (decide (Lib.indexByte xX (x ||| 32)<0\/x.toNat<48)))] [(0,_),(2,_),(3,_)] ⟨rfl,rfl,rfl,trivial⟩ func175 rfl ?_ ?_
 · refine aV 3 rfl ?_;refine aH (d:=9) rfl (fun hg=>?_) (fun hg=>?_)
   · refine aV 3 rfl ?_;refine aC rfl ?_;exact⟨rfl,az rfl (by have:=of_decide_eq_true hg;simp[this]),rfl,rfl,rfl,trivial⟩
   · refine aV 3 rfl ?_;refine aC rfl ?_;exact⟨rfl,az rfl (by have:=of_decide_eq_false hg;simp only[decide_eq_decide];omega),rfl,rfl,rfl,trivial⟩
 · refine aG rfl rfl (fun hn=>?_) (fun hn=>?_)
   · rw[if_pos hn] at hd;refine G.bV func175 rfl ?_;refine xp rfl (aP (H.gX ) rfl) ?_;refine xp rfl (bK H.kC rfl) ?_;refine RW.bh rfl rfl rfl (dB (Φ:=fun _ _=>False) rfl (GM ⟨rfl,hd,rfl⟩)) ?_;rintro _ _ hpn;exact hpn.elim
   · rw[if_neg hn] at hd;have h16:=Dx hd;refine aA rfl ?_;refine bB func175 1 rfl ?_;refine xp rfl (ak.Ct underlying3 underlying5 rfl) ?_;refine aS 1 [0,2,3,12] rfl ?_;refine aK func175 rfl rfl ?_;refine⟨_,hd,h16,?_,rfl⟩
     show Value.int .u8 _=_
     congr 1
     have:IntKind.u8.wrap (Lib.indexByte xX (x ||| 32))=Lib.indexByte xX (x ||| 32):=wrap_u8 (by omega);rw[this];omega
theorem Fc:∀m n:Fin 16,IntKind.u8.wrap ((BitVec.ofInt IntKind.u8.bits (IntKind.u8.wrap ((m.val:Int)*2 ^ min (4:Int).toNat IntKind.u8.bits)) |||BitVec.ofInt IntKind.u8.bits (n.val:Int)).toNat)=((UInt8.ofNat (m.val*16+n.val)).toNat:Nat):=by decide +kernel
theorem K6 (hm:m<16) (hn:n<16):IntKind.u8.wrap ((BitVec.ofInt IntKind.u8.bits (IntKind.u8.wrap ((m:Int)*2 ^ min (4:Int).toNat IntKind.u8.bits)) |||BitVec.ofInt IntKind.u8.bits (n:Int)).toNat)=((UInt8.ofNat (m*16+n)).toNat:Nat):=Fc ⟨m,hm⟩ ⟨n,hn⟩
theorem Iq {x:UInt8}(t:By) (h:kY x=none):p6 (120::x::t)=none:=by
 unfold p6;cases t with
 |nil=>rfl
 |cons y t=>simp[h]
theorem nU (hs:St h rb l) (hl:l.length<=1000000):ah Tryz.prog 167 #[yq rb] h (PR rb h (p6 l) fun c v _=>v= .int .u8 (c.toNat:Nat)):=by
 refine ah.of func167 rfl rfl ?_;refine aY func167 1 [0,2] rfl ?_;refine au rfl ?_;refine bB func167 1 rfl ?_;refine xo rfl (aj (vs:=[_]) func156 rfl H.sZ rfl (ah.jv (fQ hs hl) ((fun _ _ ⟨hc,hp,hx⟩=>dX hc (by rw[jc hp];rfl) hx)))) ?_;rintro _ h1 ⟨c,r,hp,rfl,hs1,hx1⟩;refine aS 1 [0,2,3] rfl ?_;refine G.block rfl rfl ?_;refine aY func167 3 [0,2,3,7] rfl ?_;obtain rfl:=fR hp;simp only[List.length_cons] at hl;refine aG rfl rfl (fun e1=>?_) (fun e1=>?_)
 · have e1:c=110:=(de rfl).1 e1;refine aY func167 1 [0,2,3,7] rfl ?_;refine aK func167 rfl rfl ?_;exact⟨10,r,by unfold p6;simp[e1],rfl,hs1,hx1⟩
 · have e1:¬c=110:=fun e=>e1 ((de rfl).2 e)
   refine aY func167 3 [0,2,3,7,10] rfl ?_;refine aG rfl rfl (fun e2=>?_) (fun e2=>?_)
   · have e2:c=116:=(de rfl).1 e2;refine aY func167 1 [0,2,3,7,10] rfl ?_;refine aK func167 rfl rfl ?_;exact⟨9,r,by unfold p6;simp[e2],rfl,hs1,hx1⟩
   · have e2:¬c=116:=fun e=>e2 ((de rfl).2 e)
     refine aY func167 3 [0,2,3,7,10,13] rfl ?_;refine aG rfl rfl (fun e3=>?_) (fun e3=>?_)
     · have e3:c=114:=(de rfl).1 e3;refine aY func167 1 [0,2,3,7,10,13] rfl ?_;refine aK func167 rfl rfl ?_;exact⟨13,r,by unfold p6;simp[e3],rfl,hs1,hx1⟩
     · have e3:¬c=114:=fun e=>e3 ((de rfl).2 e)
       refine aY func167 3 [0,2,3,7,10,13,16] rfl ?_;refine aG rfl rfl (fun e4=>?_) (fun e4=>?_)
       · have e4:c=120:=(de rfl).1 e4;subst e4;refine bB func167 1 rfl ?_;refine xo rfl (aj (vs:=[_]) func156 rfl H.sZ rfl (ah.jv (fQ hs1 (by omega)) ((fun _ _ ⟨hc,hp,hx⟩=>dX hc (by rw[jc hp];rfl) (hx1.trans hx))))) ?_;rintro _ h2 ⟨x,r2,hp2,rfl,hs2,hx2⟩;refine xo rfl (aj (vs:=[_]) func175 rfl H.Hg rfl (ah.jv (rK x) ((fun _ h' ⟨hc,hq,hh⟩=>dX hc (by obtain rfl:=fR hp2;exact Iq _ hq) (by subst hh;exact hx1.trans hx2))))) ?_;rintro _ _ ⟨m,hm,hm16,rfl,rfl⟩;refine aS 1 [0,2,3,4,7,10,13,16] rfl ?_;refine bB func167 1 rfl ?_;refine xp rfl (CF rfl rfl (by omega)) ?_;refine aV 1 rfl ?_;obtain rfl:=fR hp2;simp only[List.length_cons] at hl;refine xo rfl (aj (vs:=[_]) func156 rfl H.sZ rfl (ah.jv (fQ hs2 (by omega)) ((fun _ _ ⟨hc,hp,hx⟩=>dX hc (by rw[jc hp];rfl) ((hx1.trans hx2).trans hx))))) ?_;rintro _ h3 ⟨y,r3,hp3,rfl,hs3,hx3⟩;refine xo rfl (aj (vs:=[_]) func175 rfl H.Hg rfl (ah.jv (rK y) ((fun _ h' ⟨hc,hq,hh⟩=>dX hc (by obtain rfl:=fR hp3;unfold p6;simp[hm,hq]) (by subst hh;exact(hx1.trans hx2).trans hx3))))) ?_;rintro _ _ ⟨n,hn,hn16,rfl,rfl⟩;refine xp rfl (ak.ye rfl rfl) ?_;refine aS 1 [0,2,3,4,7,10,13,16] rfl ?_;obtain rfl:=fR hp3;refine aK func167 rfl rfl ?_;exact⟨UInt8.ofNat (m*16+n),r3,by unfold p6;simp[hm,hn],by show Value.int _ _=_;rw[K6 hm16 hn16],hs3,(hx1.trans hx2).trans hx3⟩
       · have e4:¬c=120:=fun e=>e4 ((de rfl).2 e)
         refine bB func167 1 rfl ?_;refine xo rfl (aj (vs:=[_,_]) func40 rfl H.Gg rfl (ah.aX (lW c))) ?_;rintro _ _ ⟨rfl,rfl⟩;refine aS 2 [0,2,3,7,10,13,16,28] rfl ?_;refine aG rfl rfl (fun e5=>?_) (fun e5=>?_)
         · have e5:=(jz c).1 e5;refine aY func167 2 [0,2,3,7,10,13,16,28] rfl ?_;refine aK func167 rfl rfl ?_;exact⟨c,r,by unfold p6;simp[e1,e2,e3,e4,e5],rfl,hs1,hx1⟩
         · have e5:¬c∈fJ:=fun e=>e5 ((jz c).2 e)
           refine aA rfl ?_;refine G.aT ?_;refine G.bV func167 rfl ?_;refine xp rfl (aP (H.gX ) rfl) ?_;refine xp rfl (bK H.kC rfl) ?_;refine RW.bh rfl rfl rfl (dB (Φ:=fun _ _=>False) rfl (dX rfl (by unfold p6;simp[e1,e2,e3,e4,e5]) hx1)) ?_;rintro _ _ hpn;exact hpn.elim
theorem pQ (hs:St h rb l) (hl:l.length<=1000000):ah Tryz.prog 174 #[yq rb] h (PR rb h (ox l) fun c v _=>v= .int .u8 (c.toNat:Nat)):=by
 refine ah.of func174 rfl rfl ?_;refine aY func174 1 [0,2] rfl ?_;refine bB func174 1 rfl ?_;refine xo rfl (aj (vs:=[_]) func156 rfl H.sZ rfl (ah.jv (fQ hs hl) ((fun _ _ ⟨hc,hp,hx⟩=>dX hc (by rw[jc hp];rfl) hx)))) ?_;rintro _ h1 ⟨c,r,hp,rfl,hs1,hx1⟩;refine aS 1 [0,2,3] rfl ?_;refine au rfl ?_;refine G.block rfl rfl ?_;refine aY func174 3 [0,2,3,6] rfl ?_;obtain rfl:=fR hp;simp only[List.length_cons] at hl;refine aG rfl rfl (fun e1=>?_) (fun e1=>?_)
 · have e1:c=92:=(de rfl).1 e1;refine bB func174 1 rfl ?_;refine xo rfl (aj (vs:=[_]) func167 rfl H.Hi rfl (ah.jv (nU hs1 (by omega)) ((fun _ _ ⟨hc,hp,hx⟩=>dX hc (by unfold ox;simp[e1,hp]) (hx1.trans hx))))) ?_;rintro _ h2 ⟨d,r2,hp2,rfl,hs2,hx2⟩;refine aS 1 [0,2,3,6] rfl ?_;refine aK func174 rfl rfl ?_;exact⟨d,r2,by unfold ox;simp[e1,hp2],rfl,hs2,hx1.trans hx2⟩
 · have e1:¬c=92:=fun e=>e1 ((de rfl).2 e)
   refine bB func174 1 rfl ?_;refine xo rfl (aj (vs:=[_,_]) func40 rfl H.Gg rfl (ah.aX (lW c))) ?_;rintro _ _ ⟨rfl,rfl⟩;refine aS 2 [0,2,3,6,11] rfl ?_;refine aG rfl rfl (fun e5=>?_) (fun e5=>?_)
   · have e5:=(jz c).1 e5;refine G.bV func174 rfl ?_;refine xp rfl (aP (H.gX ) rfl) ?_;refine xp rfl (bK H.kC rfl) ?_;refine RW.bh rfl rfl rfl (dB (Φ:=fun _ _=>False) rfl (dX rfl (by unfold ox;simp[e1,e5]) hx1)) ?_;rintro _ _ hpn;exact hpn.elim
   · have e5:¬c∈fJ:=fun e=>e5 ((jz c).2 e)
     refine aA rfl ?_;refine G.aT ?_;refine aY func174 2 [0,2,3,6,11] rfl ?_;refine aK func174 rfl rfl ?_;exact⟨c,r,by unfold ox;simp[e1,e5],rfl,hs1,hx1⟩
theorem ES (k s:Nat) (v:Value) (i:Nat) (hi:i<256):(dV k s v).set (1+i / 64*1) (.int .u64 ((AB s (i / 64) ||| 2 ^ (i%64):Nat):Int))=dV k (s |||(1 <<< i)) v:=by
 have h4:i / 64<4:=by omega
 have hw:=Ec s i;have hs:∀q,q≠i / 64->eK (s |||(1 <<< i)) q=eK s q:=fun q hq=>by unfold eK;rw[Ed s i q hq]
 have he:eK (s |||(1 <<< i)) (i / 64)= .int .u64 ((AB s (i / 64) ||| 2 ^ (i%64):Nat):Int):=by unfold eK;rw[hw]
 rw[<-he];generalize i / 64=q at *;unfold dV
 match q,h4 with
 | 0,_=>rw[hs 1 (by decide),hs 2 (by decide),hs 3 (by decide)];rfl
 | 1,_=>rw[hs 0 (by decide),hs 2 (by decide),hs 3 (by decide)];rfl
 | 2,_=>rw[hs 0 (by decide),hs 1 (by decide),hs 3 (by decide)];rfl
 | 3,_=>rw[hs 0 (by decide),hs 1 (by decide),hs 2 (by decide)];rfl
theorem ER (k s:Nat) (v:Value) (q:Nat) (hq:q<4):(dV k s v)[1+q*1]? =some (eK s q):=by
 match q,hq with
 | 0,_=>rfl
 | 1,_=>rfl
 | 2,_=>rfl
 | 3,_=>rfl
theorem HW {w i:Nat}(hw:w<18446744073709551616):IntKind.u64.wrap ((BitVec.ofInt IntKind.u64.bits (w:Int) |||BitVec.ofInt IntKind.u64.bits (IntKind.u64.wrap (1*2 ^ min (((i:Int)).tmod 64).toNat IntKind.u64.bits))).toNat:Int)=((w ||| 2 ^ (i%64):Nat):Int):=by
 have h1:((i:Int)).tmod 64=((i%64:Nat):Int):=by rw[Int.tmod_eq_emod_of_nonneg (by omega)];omega
 have hb:i%64<64:=Nat.mod_lt _ (by decide);have h2:2 ^ (i%64)<2 ^ 64:=Nat.pow_lt_pow_right (by decide) hb;rw[h1,I4,KA hw h2]
theorem AP (s i n:Nat) (h:0<n):vK s i n=vK (s |||(1 <<< i)) (i+1) (n-1):=by
 cases n with
 |zero=>omega
 |succ n=>rfl
theorem gQ {nb k s:Nat}{v:Value}(hk:br h nb 143 (dV k s v)) (a b:UInt8):ah Tryz.prog 166 #[.pointer (some ⟨nb,1,none⟩),.int .u8 (a.toNat:Nat),.int .u8 (b.toNat:Nat)] h (bX fun _ h' =>
 br h' nb 143 (dV k (nM s a b) v)/\Ext (only nb) h h'):=by
 have ha:=a.toNat_lt;have hb:=b.toNat_lt;refine ah.of func166 rfl rfl ?_;refine bB func166 1 rfl ?_;refine xp rfl (ak.uw underlying5 underlying3 rfl (wrap_i64 ⟨by omega,by omega⟩)) ?_;refine aS 1 [0,1,2,6] rfl ?_;refine G.block rfl rfl ?_;refine bT (σ:=Nat×Nat) (fun q=>[(0,.pointer (some ⟨nb,1,none⟩)),(2,.int .u8 (b.toNat:Nat)),(6,.int .i64 (q.1:Nat))]) (fun q h'=>br h' nb 143 (dV k q.2 v)/\Ext (only nb) h h'/\q.1<=256/\vK q.2 q.1 (b.toNat+1-q.1)=nM s a b) (fun q=>b.toNat+1-q.1) ((a.toNat,s)) rfl ⟨rfl,rfl,rfl,trivial⟩ ⟨hk,Ext.refl _ _,by show a.toNat<=256;omega,rfl⟩ ?_;rintro⟨i,s'⟩ h1 ⟨hk1,hx1,hi,hsp⟩ ih
 try dsimp only
 dsimp only at hk1 hi hsp;refine au rfl ?_;refine bB func166 2 rfl ?_;refine xp rfl (ak.uw underlying5 underlying3 rfl (wrap_i64 ⟨by omega,by omega⟩)) ?_;refine aS 1 [0,2,6,12] rfl ?_;refine aG rfl rfl (fun hle=>?_) (fun hle=>?_)
 · have hi255:i<=b.toNat:=by omega
   rw[AP _ _ _ (by omega)] at hsp;have hq:i / 64<4:=by omega
   have hdiv:IntKind.i64.wrap (((i:Int)).tdiv 64)=((i / 64:Nat):Int):=by
    rw[Int.tdiv_eq_ediv_of_nonneg (by omega),wrap_i64 ⟨by omega,by omega⟩];omega
   have hw:=AA s' (i / 64);have hset:=ES k s' v i (by omega);have hk1':br h1 nb 143 [.int .i64 k,eK s' 0,eK s' 1,eK s' 2,eK s' 3,v]:=hk1;refine aA rfl ?_;refine au rfl ?_;refine G.block rfl rfl ?_;refine bU (fun b=>Array.size h1<=b) (fun i=>Nat.blt i 12) (sz:=13) (listed:= #[false,false,false,false,false,false,false,false,false,false,false,false,false]) func166 H.mixed rfl rfl rfl ?_;refine bF 0 1 (by kernel_rfl) rfl ?_;refine bF 1 3 (by kernel_rfl) rfl ?_;refine bf 2 7 (by kernel_rfl) rfl (fun h' e=>ym rfl rfl (by decide)) ?_;refine bF 3 15 (by kernel_rfl) rfl ?_;refine bf 4 31 (by kernel_rfl) rfl (fun h' e=>ak.dW underlying140 H.AL rfl rfl (i / 64) hdiv hq) ?_;refine bf 5 63 (by kernel_rfl) rfl (fun h' e=>af H.IF rfl (e.old (hk1.cell (ER k s' v _ hq)))) ?_;refine bF 6 127 (by kernel_rfl) rfl ?_;refine bf 7 255 (by kernel_rfl) rfl (fun h' e=>CG rfl rfl (by decide)) ?_;refine bf 8 511 (by kernel_rfl) rfl (fun h' e=>CF rfl rfl (by rw[Int.tmod_eq_emod_of_nonneg (by omega)];omega)) ?_;refine bf 9 1023 (by kernel_rfl) rfl (fun h' e=>ak.ye rfl rfl) ?_;refine dK 10 2047 (by kernel_rfl) rfl (ak.aX (cB rfl)) ?_;rintro _ hq_ ⟨rfl,hqe_⟩;replace hqe_:=hqe_.symm;subst hqe_;refine⟨fun _=>Ext.refl _ _,?_⟩;refine bf 11 4095 (by kernel_rfl) rfl (fun h' e=>ak.dW underlying140 H.AL rfl rfl (i / 64) hdiv hq) ?_;refine iF 12 8191 (by kernel_rfl) rfl (av.aE H.AL rfl rfl hk1' (by first|decide|exact of_decide_eq_true rfl|(simp;done)|(simp;omega)) rfl) ?_;rintro _ h2 ⟨rfl,hk2,hx2,hz2⟩;refine⟨fun hk=>(nomatch hk),?_⟩;refine aR (by kernel_rfl) ?_;refine xu [0,2,6,12] rfl ?_;refine G.aT ?_;refine G.bV func166 rfl ?_;refine cx 1 rfl rfl (ak.bL rfl rfl ⟨by omega,by omega⟩) ?_;refine aS 1 [0,2,6,12] rfl ?_;rw[HW hw,show [.int .i64 (k:Int),eK s' 0,eK s' 1,eK s' 2,eK s' 3,v]=dV k s' v from rfl,hset] at hk2;exact ih (i+1,s' |||(1 <<< i)) _ _ ⟨rfl,rfl,rfl,trivial⟩ ⟨hk2,hx1.trans hx2,by show i+1<=256;omega,by show vK _ (i+1) (b.toNat+1-(i+1))=_;rw[<-hsp];rfl⟩ (by show b.toNat+1-(i+1)<b.toNat+1-i;omega)
 · have h0:b.toNat+1-i=0:=by omega
   rw[h0] at hsp;refine bN rfl rfl ?_;refine G.DG func166 rfl ?_;exact⟨_,rfl,by rw[<-hsp];exact hk1,hx1⟩
theorem Dy (s:Nat) (b:UInt8):ah Tryz.prog 141 #[.agg (uo s).toArray,.int .u8 (b.toNat:Nat)] h (bX fun r h'=>r= .bool (s.testBit b.toNat)/\aD h h'):=by
 have hb:=b.toNat_lt;have hq:b.toNat / 64<4:=by omega
 have hdiv:IntKind.u8.wrap (((b.toNat:Int)).tdiv 64)=((b.toNat / 64:Nat):Int):=by
  rw[Int.tdiv_eq_ediv_of_nonneg (by omega),wrap_u8 (by omega)];omega
 have hmod:((b.toNat:Int)).tmod 64=((b.toNat%64:Nat):Int):=by rw[Int.tmod_eq_emod_of_nonneg (by omega)];omega
 have hm64:b.toNat%64<64:=Nat.mod_lt _ (by decide)
 have hword:∀q,q<4->(uo s)[0+q*1]? =some (eK s q):=fun q hq=>by
  match q,hq with
  | 0,_=>rfl
  | 1,_=>rfl
  | 2,_=>rfl
  | 3,_=>rfl
 refine ah.of func141 rfl rfl ?_;refine xr func141 rfl ?_;refine xo rfl (av.cR rfl) ?_;rintro _ h1 ⟨rfl,hk,he,hz⟩;refine aS 1 [0,1,2,4] rfl ?_;refine bB func141 1 rfl ?_;refine xp rfl (ym rfl rfl (by decide)) ?_;have hk:br h1 h.size 140 (uo s):=hk;refine xp rfl (ak.dW underlying140 H.AL rfl rfl (b.toNat / 64) hdiv hq) ?_;refine xp rfl (af H.IF rfl (hk.cell (hword _ hq))) ?_;refine cx 1 rfl rfl (CG rfl rfl (by decide)) ?_;refine xp rfl (GS rfl rfl (by rw[hmod];omega)) ?_;refine xp rfl (ak.FC rfl rfl) ?_;refine aS 2 [0,1,2,4] rfl ?_;refine aK func141 rfl rfl ?_;refine⟨_,rfl,?_,he⟩;rw[hmod,I3 _ _ hm64,K9 (Nat.lt_of_le_of_lt (Nat.shiftRight_le _ _) (AA s _)),F7];cases s.testBit b.toNat<;>rfl
theorem jy.only {h0:ay}{g:Nat}(e:Ext M h0 h) (x:Ext (fun b=>b=g) h h') (hg:h0.size<=g):Ext M h0 h' :=
 ⟨Nat.le_trans e.size x.size,fun b hb hm=>by rw[x.block b (Nat.lt_of_lt_of_le hb e.size) (by omega)];exact e.block b hb hm⟩
theorem jy.ax {h0:ay}(e:Ext M h0 h) (x:aD h h'):Ext M h0 h':=e.trans (aD.of x)
theorem sJ:∀(n m acc:Nat) (s:By),s.length<n->s.length<m->lI n acc s=lI m acc s
 | 0,_,_,_,h,_=>by omega
 |_,0,_,_,_,h=>by omega
 |n+1,m+1,acc,s,hn,hm=>by
  rw[lI,lI];cases hf:eV s with
  |none=>rfl
  |some p =>
   obtain⟨⟨a,b⟩,r⟩:=p;have hlen:=mE hf;simp only;split
   · rfl
   · exact sJ n m _ _ (by omega) (by omega)
def nW (first:Bool) (acc:Nat) (l:By):Option (Nat×By):=if first=false/\l.head? =some 93 then some (acc,l.tail) else lI (l.length+1) acc l
theorem oL {first:Bool}{acc:Nat}(h:¬(first=false/\l.head? =some 93)) (hf:eV l=none):nW first acc l=none:=by
 unfold nW;rw[if_neg h,lI,hf]
theorem ux {first:Bool}{acc:Nat}{b:UInt8}(h:¬(first=false/\l.head? =some 93)) (hf:eV l=some ((a,b),r)):nW first acc l=nW false (nM acc a b) r:=by
 have hlen:=mE hf;unfold nW;rw[if_neg h,lI,hf];simp only[true_and];split
 · simp
 · rename_i hne
   rw[if_neg (fun e=>by
    cases r with
    |nil=>cases e
    |cons c t=>simp at e;subst e;exact hne t rfl)]
   exact sJ _ _ _ _ (by omega) (by omega)
theorem JV (h:ox l=none):eV l=none:=by unfold eV;rw[h]
theorem JU (h:ox l=some (a,r)) (hr:r.head? ≠some 45):eV l=some ((a,a),r):=by
 unfold eV;rw[h];simp only;split
 · exact absurd rfl hr
 · rfl
theorem JT (h:ox l=some (a,r)) (hr:r.head? =some 45) (hb:ox r.tail=none):eV l=none:=by
 unfold eV;rw[h];cases r with
 |nil=>cases hr
 |cons c t=>simp at hr;subst hr;simp at hb;simp[hb]
theorem JS {r':By}{b:UInt8}(h:ox l=some (a,r)) (hr:r.head? =some 45) (hb:ox r.tail=some (b,r')):eV l=if b.toNat<a.toNat then none else some ((a,b),r'):=by
 unfold eV;rw[h];cases r with
 |nil=>cases hr
 |cons c t=>simp at hr;subst hr;simp at hb;simp[hb]
theorem vk (l:By):iC l=(nW true 0 (if l.head? =some 94 then l.tail else l)).map fun p=>(.mk 1 (if l.head? =some 94 then mj p.1 else p.1) [],p.2):=by
 unfold iC nW;split
 · simp
 · rename_i hne
   have h1:l.head? ≠some 94:=fun e=>by
    cases l with
    |nil=>cases e
    |cons c t=>simp at e;subst e;exact hne t rfl
   simp[h1]
theorem F6 (s q:Nat) (hq:q<4):AB (mj s) q=18446744073709551615 ^^^ AB s q:=by
 apply Nat.eq_of_testBit_eq
 intro i;rw[kJ,Nat.testBit_xor,kJ];unfold mj;rw[Nat.testBit_xor,show FK=2 ^ 256-1 from rfl,Nat.testBit_two_pow_sub_one,show (18446744073709551615:Nat)=2 ^ 64-1 from rfl,Nat.testBit_two_pow_sub_one]
 by_cases hi:i<64
 · have:64*q+i<256:=by omega
   simp[hi,this]
 · simp[hi]
theorem IY {x:Nat}(hx:x<18446744073709551616):IntKind.u64.wrap ((BitVec.ofInt IntKind.u64.bits (if IntKind.u64.signed then -1 else IntKind.u64.max) ^^^ BitVec.ofInt IntKind.u64.bits (x:Int)).toNat:Int)=((18446744073709551615 ^^^ x:Nat):Int):=by
 have e:(BitVec.ofInt IntKind.u64.bits (if IntKind.u64.signed then -1 else IntKind.u64.max) ^^^ BitVec.ofInt IntKind.u64.bits (x:Int)).toNat=18446744073709551615 ^^^ x:=by
  rw[BitVec.toNat_xor]
  have h1:(BitVec.ofInt IntKind.u64.bits (x:Int)).toNat=x:=by
   show (BitVec.ofInt 64 (x:Int)).toNat=x
   simp only[BitVec.toNat_ofInt];omega
  rw[h1];rfl
 rw[e];have:18446744073709551615 ^^^ x<2 ^ 64:=Nat.xor_lt_two_pow (by decide) hx;exact mX ⟨by omega,by omega⟩
def zk (s q i:Nat):Value:=if i<q then eK (mj s) i else eK s i
def Im (s q:Nat):List Value:=[.int .i64 1,zk s q 0,zk s q 1,zk s q 2,zk s q 3,.slice none 0 0]
theorem EP (s q:Nat) (hq:q<4):(Im s q)[1+q*1]? =some (eK s q):=by
 match q,hq with
 | 0,_=>rfl
 | 1,_=>rfl
 | 2,_=>rfl
 | 3,_=>rfl
theorem Gi (s q:Nat) (hq:q<4):(Im s q).set (1+q*1) (.int .u64 ((18446744073709551615 ^^^ AB s q:Nat):Int))=Im s (q+1):=by
 rw[<-F6 s q hq]
 match q,hq with
 | 0,_=>rfl
 | 1,_=>rfl
 | 2,_=>rfl
 | 3,_=>rfl
abbrev Cw (n:Nat):Nat->Prop:=fun b=>b<n
def BQ (n:Nat) (x:Nd) (v:Value) (h':ay):Prop:=∃w,v= .agg (dV x.kind x.set w).toArray/\b6 h' (Cw n) (dV x.kind x.set w) x
theorem fu (h:ay) (O:Nat->Prop) (k s:Nat):b6 h O (dV k s (.slice none 0 0)) (.mk k s []):=.of k s (cn.nil _ _ _)
theorem vj (hs:St h rb l) (hl:l.length<=1000000):ah Tryz.prog 165 #[yq rb] h (PR rb h (iC l) (BQ h.size)):=by
 have hlt:=hs.lt;have hbr:=vk l;refine ah.of func165 rfl rfl ?_;refine xr func165 rfl ?_;refine xo rfl (av.aW H.jT) ?_;rintro _ h1 ⟨rfl,hkr,he1,hz1⟩;refine xd [0,2] rfl ?_;refine xr func165 rfl ?_;refine xp rfl (aP (H.Cz _) rfl) ?_;refine xo rfl (av.aW H.jT) ?_;rintro _ h2 ⟨rfl,hk2,he2,hz2⟩;refine RW.bh rfl rfl rfl (av.an H.b9 rfl rfl hk2 (by first|rfl|(simp;done)|(simp;omega)) (by first|decide|exact of_decide_eq_true rfl|(simp;done)|(simp;omega)) (by first|decide|simp[Value.oneCell'])) ?_;rintro _ h3 ⟨rfl,hk3,hx3,hz3⟩;have hk3:br h3 h1.size 143 (dV 1 0 (.slice none 0 0)):=hk3;have hkr:br h1 h.size 143 (dV 0 0 (.slice none 0 0)):=hkr;have e3:aD h h3:=aD.only (he1.trans he2) hx3 (by omega);have hkr3:br h3 h.size 143 (dV 0 0 (.slice none 0 0)):=(hkr.ax he2).ext hx3 (by show ¬_=_;omega);have hs3:St h3 rb l:=br.ax hs e3;refine xd [0,2,3] rfl ?_;refine bB func165 1 rfl ?_;refine xo rfl (aj (vs:=[_,_]) func146 rfl H.Cf rfl (ah.aX (kL 94 hs3 hl))) ?_;rintro _ h4 ⟨hor,hx4⟩
 obtain⟨nt,l1,rfl,hnt,hl1,hs4⟩:∃(nt:Bool) (l1:By),_=Value.bool nt/\nt=decide (l.head? =some 94)/\l1=(if l.head? =some 94 then l.tail else l)/\St h4 rb l1:=by
  rcases hor with ⟨a1,a2,a3⟩|⟨a1,a2,a3⟩
  · exact⟨true,_,a2,by simp[a1],by rw[if_pos a1],a3⟩
  · exact⟨false,_,a2,by simp[a1],by rw[if_neg a1],a3⟩
 rw[<-hl1] at hbr;have hl1l:l1.length<=1000000:=by rw[hl1];split;(have:l.tail.length<=l.length:=by simp);omega;exact hl
 have hkr4:=hkr3.ext hx4 (by show ¬_=_;omega);have hk4:=hk3.ext hx4 (by show ¬_=_;omega);have e4:Ext (only rb) h h4:=(aD.of e3).trans hx4;have hz4:=hx4.size;generalize htg:nW true 0 l1=tgt at hbr;refine aS 1 [0,2,3,4] rfl ?_;refine au rfl ?_;refine aY func165 1 [0,2,3,4,5] rfl ?_;refine G.block rfl rfl ?_;refine bT (σ:=Bool×Nat×By) (fun q=>[(0,yq rb),(2,.pointer (some ⟨h.size,0,none⟩)),(3,.pointer (some ⟨h1.size,0,none⟩)),(4,.bool nt),(5,.bool q.1)]) (fun q h'=>St h' rb q.2.2/\br h' h1.size 143 (dV 1 q.2.1 (.slice none 0 0))/\br h' h.size 143 (dV 0 0 (.slice none 0 0))/\Ext (only rb) h h'/\q.2.2.length<=1000000/\nW q.1 q.2.1 q.2.2=tgt) (fun q=>q.2.2.length) ((true,0,l1)) rfl ⟨rfl,rfl,rfl,rfl,rfl,trivial⟩ ⟨hs4,hk4,hkr4,e4,hl1l,htg⟩ ?_;rintro⟨first,acc,m⟩ h5 ⟨hs5,hk5,hkr5,e5,hm,hcon⟩ ih
 try dsimp only
 dsimp only at hs5 hk5 hm hcon;refine au rfl ?_;refine au rfl ?_;refine G.bu [(17,.bool (decide (¬(first=false/\m.head? =some 93))))] [(0,_),(2,_),(3,_),(4,_),(5,_)] ⟨rfl,rfl,rfl,rfl,rfl,trivial⟩ func165 rfl ?_ ?_
 · refine aV 2 rfl ?_;refine aH (d:=13) rfl (fun hf=>?_) (fun hf=>?_)
   · refine aV 4 rfl ?_;refine aC rfl ?_;exact⟨rfl,az rfl (by simp[hf]),rfl,rfl,rfl,rfl,rfl,trivial⟩
   · refine aV 1 rfl ?_;refine xo rfl (aj (vs:=[_]) func155 rfl H.Hl rfl (ah.aX (s7 hs5))) ?_;rintro _ _ ⟨rfl,rfl⟩;refine aV 2 rfl ?_;refine aC rfl ?_;exact⟨rfl,az rfl (by cases m with|nil=>simp|cons c t=>simp only[hf,List.head?_cons,Option.getD_some,Option.some.injEq,true_and];exact decide_eq_decide.2 (not_congr (de rfl))),rfl,rfl,rfl,rfl,rfl,trivial⟩
 · refine aG rfl rfl (fun hgo=>?_) (fun hgo=>?_)
   · refine aA rfl ?_;refine au rfl ?_;refine G.block rfl rfl ?_;refine bB func165 1 rfl ?_;refine xo rfl (aj (vs:=[_]) func174 rfl H.Hh rfl (ah.jv (pQ hs5 hm) ((fun _ _ ⟨hc,hp,hx⟩=>dX hc (by rw[hbr,<-hcon,oL hgo (JV hp)];rfl) (e5.trans hx))))) ?_;rintro _ h6 ⟨a,r,ha,rfl,hs6,hx6⟩;have hrl:=pR ha;have hk6:=hk5.ext hx6 (by show ¬_=_;omega);have hkr6:=hkr5.ext hx6 (by show ¬_=_;omega);have e6:=e5.trans hx6;refine aS 1 [0,2,3,4,5,6,17] rfl ?_;refine aY func165 2 [0,2,3,4,5,6,7,17] rfl ?_;refine au rfl ?_;refine bB func165 1 rfl ?_;refine xo rfl (aj (vs:=[_,_]) func146 rfl H.Cf rfl (ah.aX (kL 45 hs6 (by omega)))) ?_;rintro _ h7 ⟨hor7,hx7⟩;have hk7:=hk6.ext hx7 (by show ¬_=_;omega);have hkr7:=hkr6.ext hx7 (by show ¬_=_;omega);have e7:=e6.trans hx7
     rcases hor7 with ⟨a1,rfl,hs7⟩|⟨a1,rfl,hs7⟩
     · have htl:r.tail.length<=r.length:=by simp
       refine xd [0,2,3,4,5,6,7,17,22] rfl ?_;refine aO rfl rfl (fun _=>?_) (fun hc=>absurd hc (by decide));refine G.bV func165 rfl ?_;refine aV 1 rfl ?_;refine xo rfl (aj (vs:=[_]) func174 rfl H.Hh rfl (ah.jv (pQ hs7 (by omega)) ((fun _ _ ⟨hc,hp,hx⟩=>dX hc (by rw[hbr,<-hcon,oL hgo (JT ha a1 hp)];rfl) (e7.trans hx))))) ?_;rintro _ h8 ⟨b,r8,hb,rfl,hs8,hx8⟩;have hbl:=pR hb;have hk8:=hk7.ext hx8 (by show ¬_=_;omega);have hkr8:=hkr7.ext hx8 (by show ¬_=_;omega);have e8:=e7.trans hx8;have hf4:=JS ha a1 hb;refine aS 1 [0,2,3,4,5,6,7,17,22] rfl ?_;refine au rfl ?_;refine aY func165 3 [0,2,3,4,5,6,7,17,22,27] rfl ?_;refine aG rfl rfl (fun hlow=>?_) (fun hlow=>?_)
       · rw[if_pos (by omega)] at hf4;refine G.bV func165 rfl ?_;refine xp rfl (aP (H.gX ) rfl) ?_;refine xp rfl (bK H.kC rfl) ?_;refine RW.bh rfl rfl rfl (dB (Φ:=fun _ _=>False) rfl (dX rfl (by rw[hbr,<-hcon,oL hgo hf4];rfl) e8)) ?_;rintro _ _ hpn;exact hpn.elim
       · rw[if_neg (by omega)] at hf4;refine aA rfl ?_;refine G.bV func165 rfl ?_;refine xp rfl (aa (off:=1) underlying143 rfl rfl H.lH rfl) ?_;refine aV 2 rfl ?_;refine xo rfl (aj (vs:=[_,_,_]) func166 rfl H.vW rfl (ah.aX (gQ hk8 a b))) ?_;rintro _ h9 ⟨hk9,hx9⟩;refine xd [0,2,3,4,5,6,7,17,22,27] rfl ?_;refine G.aT ?_;refine G.bV func165 rfl ?_;refine aS 1 [0,2,3,4,5,6,7,17,22,27] rfl ?_;have hsp:=ux (acc:=acc) hgo hf4;exact ih (false,nM acc a b,r8) _ _ ⟨rfl,rfl,rfl,rfl,rfl,trivial⟩ ⟨br.ext hs8 hx9 (by show ¬_=_;omega),hk9,hkr8.ext hx9 (by show ¬_=_;omega),jy.only e8 hx9 (by omega),by show r8.length<=_;omega,by rw[<-hcon,hsp]⟩ (by show r8.length<m.length;omega)
     · have hf2:=JU ha a1;refine xd [0,2,3,4,5,6,7,17,22] rfl ?_;refine aO rfl rfl (fun hc=>absurd hc (by decide)) (fun _=>?_);refine aA rfl ?_;refine au rfl ?_;refine aY func165 3 [0,2,3,4,5,6,7,17,22,27] rfl ?_;refine aO rfl rfl (fun hc=>absurd hc (by simp)) (fun _=>?_);refine aA rfl ?_;refine G.bV func165 rfl ?_;refine xp rfl (aa (off:=1) underlying143 rfl rfl H.lH rfl) ?_;refine aV 2 rfl ?_;refine xo rfl (aj (vs:=[_,_,_]) func166 rfl H.vW rfl (ah.aX (gQ hk7 a a))) ?_;rintro _ h9 ⟨hk9,hx9⟩;refine xd [0,2,3,4,5,6,7,17,22,27] rfl ?_;refine G.aT ?_;refine G.bV func165 rfl ?_;refine aS 1 [0,2,3,4,5,6,7,17,22,27] rfl ?_;have hsp:=ux (acc:=acc) hgo hf2;exact ih (false,nM acc a a,r) _ _ ⟨rfl,rfl,rfl,rfl,rfl,trivial⟩ ⟨br.ext hs7 hx9 (by show ¬_=_;omega),hk9,hkr7.ext hx9 (by show ¬_=_;omega),jy.only e7 hx9 (by omega),by show r.length<=_;omega,by rw[<-hcon,hsp]⟩ (by show r.length<m.length;omega)
   · have hgo:=Classical.not_not.1 hgo;have htgt:tgt=some (acc,m.tail):=by rw[<-hcon];unfold nW;rw[if_pos hgo]
     refine bN rfl rfl ?_;refine bB func165 1 rfl ?_;refine xo rfl (aj (vs:=[_,_]) func164 rfl H.Hj rfl (ah.jv (s8 93 hs5 hm) ((fun _ _ ⟨hc,hp,hx⟩=>absurd hp (by rw[if_pos hgo.2];simp))))) ?_;rintro _ h6 ⟨_,r,hp,_,hs6,hx6⟩;refine xd [0,2,3,4,5,17] rfl ?_;refine au rfl ?_;refine aY func165 1 [0,2,3,4,5,17,36] rfl ?_;refine G.block rfl rfl ?_;rw[if_pos hgo.2] at hp;cases hp;have hk6:=hk5.ext hx6 (by show ¬_=_;omega);have hkr6:=hkr5.ext hx6 (by show ¬_=_;omega);have e6:=e5.trans hx6;have hk6:br h6 h1.size 143 (Im acc 0):=hk6;refine bT (σ:=Nat) (fun q=>[(2,.pointer (some ⟨h.size,0,none⟩)),(3,.pointer (some ⟨h1.size,0,none⟩)),(4,.bool nt),(36,.int .i64 (q:Nat))]) (fun q h'=>q<=4/\St h' rb m.tail/\br h' h1.size 143 (Im acc (if nt then q else 0))/\br h' h.size 143 (dV 0 0 (.slice none 0 0))/\Ext (only rb) h h') (fun q=>4-q) (0) rfl ⟨rfl,rfl,rfl,rfl,trivial⟩ ⟨by omega,hs6,by cases nt<;>exact hk6,hkr6,e6⟩ ?_;rintro q h7 ⟨hq,hs7,hk7,hkr7,e7⟩ ih;refine aY func165 1 [2,3,4,36,37] rfl ?_;refine au rfl ?_;refine aG rfl rfl (fun hq4=>?_) (fun hq4=>?_)
     · have hq4':q<4:=by omega
       refine aA rfl ?_;refine au rfl ?_;refine G.block rfl rfl ?_;refine aY func165 2 [2,3,4,8,36,37] rfl ?_;refine aY func165 1 [2,3,4,8,36,37,39] rfl ?_;refine aO rfl rfl (fun hb=>?_) (fun hb=>?_)
       · rw[if_pos hb] at hk7;have hk7':br h7 h1.size 143 [.int .i64 1,zk acc q 0,zk acc q 1,zk acc q 2,zk acc q 3,.slice none 0 0]:=hk7;refine G.bV func165 rfl ?_;refine cx 2 rfl rfl (aa (off:=1) underlying143 rfl rfl H.lH rfl) ?_;refine xp rfl (ak.dW underlying140 H.AL rfl rfl q rfl hq4') ?_;refine xp rfl (af H.IF rfl (hk7.cell (EP acc q hq4'))) ?_;refine xp rfl (ak.J0 rfl) ?_;refine xp rfl (aa (off:=1) underlying143 rfl rfl H.lH rfl) ?_;refine xp rfl (ak.dW underlying140 H.AL rfl rfl q rfl hq4') ?_;refine RW.bh rfl rfl rfl (av.aE H.AL rfl rfl hk7' (by first|decide|exact of_decide_eq_true rfl|(simp;done)|(simp;omega)) rfl) ?_;rintro _ h8 ⟨rfl,hk8,hx8,hz8⟩;refine xd [2,3,4,8,36,37,39] rfl ?_;refine G.aT ?_;refine G.bV func165 rfl ?_;refine xp rfl (ak.bL rfl rfl ⟨by omega,by omega⟩) ?_;refine aS 1 [2,3,4,8,36,37,39] rfl ?_;have hk8:br h8 h1.size 143 (Im acc (q+1)):=by rw[<-Gi acc q hq4',<-IY (AA acc q)];exact hk8
         exact ih (q+1) _ _ ⟨rfl,rfl,rfl,rfl,trivial⟩ ⟨by omega,br.ext hs7 hx8 (by show ¬_=_;omega),by rw[if_pos hb];exact hk8,hkr7.ext hx8 (by show ¬_=_;omega),jy.only e7 hx8 (by omega)⟩ (by omega)
       · rw[if_neg (by rw[hb];decide)] at hk7;refine aA rfl ?_;refine G.aT ?_;refine G.bV func165 rfl ?_;refine xp rfl (ak.bL rfl rfl ⟨by omega,by omega⟩) ?_;refine aS 1 [2,3,4,8,36,37,39] rfl ?_;exact ih (q+1) _ _ ⟨rfl,rfl,rfl,rfl,trivial⟩ ⟨by omega,hs7,by rw[if_neg (by rw[hb];decide)];exact hk7,hkr7,e7⟩ (by omega)
     · obtain rfl:q=4:=by omega
       have hfin:Im acc (if nt then 4 else 0)=dV 1 (if l.head? =some 94 then mj acc else acc) (.slice none 0 0):=by
        subst hnt
        by_cases hd:l.head? =some 94<;>simp[hd]<;>rfl
       rw[hfin] at hk7;have hbr2:iC l=some (.mk 1 (if l.head? =some 94 then mj acc else acc) [],m.tail):=by rw[hbr,htgt];rfl
       generalize (if l.head? =some 94 then mj acc else acc)=fs at hk7 hbr2;refine bN rfl rfl ?_;refine xr func165 rfl ?_;refine xp rfl (ak.aq H.eN H.b9 rfl hk7.row (by first|rfl|(simp;done)|(simp;omega))) ?_;refine RW.bh rfl rfl rfl (av.an H.b9 rfl rfl hkr7 (by first|rfl|(simp;done)|(simp;omega)) (by first|decide|exact of_decide_eq_true rfl|(simp;done)|(simp;omega)) (b6.one (fu h7 (only rb) 1 fs))) ?_;rintro _ h8 ⟨rfl,hk8,hx8,hz8⟩;refine xd [2,3,4,36,37] rfl ?_;have hk8:br h8 h.size 143 (dV 1 fs (.slice none 0 0)):=hk8;refine G.bq func165 rfl (.cons (aL.bn H.eN H.b9 rfl (hk8.row) (by first|rfl|(simp;done)|(simp;omega))) (.nil)) ?_;exact⟨_,m.tail,hbr2,⟨_,rfl,fu _ _ _ _⟩,br.ext hs7 hx8 (by show ¬_=_;omega),jy.only e7 hx8 (Nat.le_refl _)⟩
theorem gH {cs:List Value}(k:b6 h (Cw m) cs x) (hn:n<=m) (e:Ext M h h') (hM:∀b,b<h.size->M b->b<m):b6 h' (Cw n) cs x :=
 k.mv (Mv.eE e fun b hb ho=>⟨fun hm=>ho (hM b hb hm),fun k=>ho (Nat.lt_of_lt_of_le k hn)⟩)
theorem EI {cs ds:List Value}(h:cs.length=ds.length):over cs 0 ds=ds:=by
 unfold over;rw[List.drop_of_length_le (by omega)];simp
theorem pY {O:Nat->Prop}{v:Value}{xs:List Nd}(kind:Nat) (hv:cn rF h O v xs):ah Tryz.prog 147 #[.int .i64 (kind:Nat),v] h (bX fun r h'=>(∃w,r= .agg (dV (cD kind xs).kind (cD kind xs).set w).toArray/\b6 h' O (dV (cD kind xs).kind (cD kind xs).set w) (cD kind xs))/\aD h h'):=by
 obtain⟨oa,n,c,rfl,hsl⟩:=hv.open;have hn:=hsl.len;refine ah.of func147 rfl rfl ?_;refine xr func147 rfl ?_;refine xo rfl (av.aW H.jT) ?_;rintro _ h1 ⟨rfl,hk,he,hz⟩;refine xd [0,1,4] rfl ?_;refine au rfl ?_;refine bB func147 1 rfl ?_;refine xp rfl (ak.aN underlying141 rfl) ?_;refine xd [0,1,4,6] rfl ?_;refine G.block rfl rfl ?_;refine aY func147 2 [0,1,4,6,7] rfl ?_;have hk:br h1 h.size 143 (dV 0 0 (.slice none 0 0)):=hk;have hsl1:=hsl.mv (Mv.ax he);have hv1:=hv.ax he;refine aG rfl rfl (fun e0=>?_) (fun e0=>?_)
 · obtain rfl:n=0:=by omega
   have hx:xs=[]:=List.eq_nil_of_length_eq_zero hn;subst hx;refine xr func147 rfl ?_;refine xp rfl (aP (H.BM ) rfl) ?_;refine RW.bh rfl rfl rfl (av.an H.b9 rfl rfl hk (by first|rfl|(simp;done)|(simp;omega)) (by first|decide|exact of_decide_eq_true rfl|(simp;done)|(simp;omega)) (by first|decide|simp[Value.oneCell'])) ?_;rintro _ h2 ⟨rfl,hk2,hx2,hz2⟩;refine xd [0,1,4,6,7] rfl ?_;have hk2:br h2 h.size 143 (dV 0 0 (.slice none 0 0)):=hk2;refine G.bq func147 rfl (.cons (aL.bn H.eN H.b9 rfl (hk2.row) (by first|rfl|(simp;done)|(simp;omega))) (.nil)) ?_;exact⟨_,rfl,⟨_,rfl,fu _ _ 0 0⟩,aD.only he hx2 (Nat.le_refl _)⟩
 · refine aY func147 2 [0,1,4,6,7,10] rfl ?_;refine aG rfl rfl (fun e1=>?_) (fun e1=>?_)
   · obtain rfl:n=1:=by omega
     obtain⟨x,rfl⟩:=List.length_eq_one_iff.1 hn;obtain⟨b,o,cs,ha,ho,hr,hR⟩:=hsl.get 0 x rfl;have hr:=he.rowAt (fun k=>k) hr;obtain⟨w,rfl,hw⟩:=b6.open hR;refine bB func147 1 rfl ?_;refine xp rfl (ak.aF underlying141 H.b9 rfl rfl 0 rfl ha (by decide)) ?_;refine xp rfl (ak.aq H.eN H.b9 rfl hr (by first|rfl|(simp;done)|(simp;omega))) ?_;refine RW.bh rfl rfl rfl (av.an H.b9 rfl rfl hk (by first|rfl|(simp;done)|(simp;omega)) (by first|decide|exact of_decide_eq_true rfl|(simp;done)|(simp;omega)) (rF.one hR)) ?_;rintro _ h2 ⟨rfl,hk2,hx2,hz2⟩;refine xd [0,1,4,6,7,10] rfl ?_;have hk2:br h2 h.size 143 (dV x.kind x.set w):=hk2;refine G.bq func147 rfl (.cons (aL.bn H.eN H.b9 rfl (hk2.row) (by first|rfl|(simp;done)|(simp;omega))) (.nil)) ?_;exact⟨_,rfl,⟨w,rfl,b6.ax hR (aD.only he hx2 (Nat.le_refl _))⟩,aD.only he hx2 (Nat.le_refl _)⟩
   · refine aA rfl ?_;refine G.aT ?_;refine bB func147 2 rfl ?_;refine xp rfl (aP (H.qI _ _ _ _) rfl) ?_;refine RW.bh rfl rfl rfl (av.an H.b9 rfl rfl hk (by first|rfl|(simp;done)|(simp;omega)) (by first|decide|exact of_decide_eq_true rfl|(simp;done)|(simp;omega)) (by first|decide|simp[Value.oneCell'])) ?_;rintro _ h2 ⟨rfl,hk2,hx2,hz2⟩;refine xd [0,1,4,6,7,10] rfl ?_;have hk2:br h2 h.size 143 (dV kind 0 (.slice oa n c)):=hk2;refine G.bq func147 rfl (.cons (aL.bn H.eN H.b9 rfl (hk2.row) (by first|rfl|(simp;done)|(simp;omega))) (.nil)) ?_
     have hj:cD kind xs= .mk kind 0 xs:=by
      unfold cD;split
      · simp at hn;omega
      · simp at hn;omega
      · rfl
     rw[hj];exact⟨_,rfl,⟨.slice oa n c,rfl,b6.of kind 0 (hv.ax (aD.only he hx2 (Nat.le_refl _)))⟩,aD.only he hx2 (Nat.le_refl _)⟩
def Sg (h:ay) (lim:Nat):Prop:=∃m,4<lim/\m<lim/\cellAt h ⟨4,0,none⟩=some (.map (some m)) /\
 ∃l:List (Int×Int),fy (Value.int .u8) (Value.int .i64) h m l/\∀c:UInt8,((kI (c.toNat:Int) l).map (Value.int .i64)).getD (Value.int .i64 0)=Value.int .i64 (dF c:Nat)
theorem Sg.ext {h h':ay}{lim:Nat}(k:Sg h lim){M:Nat->Prop}(e:Ext M h h') (hM:∀b,M b->lim<=b):Sg h' lim:=by
 obtain⟨m,h1,h2,h3,l,h4,h5⟩:=k;exact⟨m,h1,h2,e.cell (fun k=>absurd (hM _ k) (by show ¬lim<=4;omega)) h3,l,h4.ext e (fun k=>by have:=hM _ k;omega),h5⟩
def uN (d lim:Nat):Prop:=∀(h:ay) (rb:Nat) (l:By),Sg h lim->lim<=rb->St h rb l->l.length<d->l.length<=1000000 ->
 ah Tryz.prog 134 #[yq rb] h (PR rb h (er d l) (BQ h.size))
theorem BN (ih:uN d lim) (hg:Sg h lim) (hrb:lim<=rb) (hs:St h rb l) (hd:l.length<=d) (hl:l.length<=1000000):ah Tryz.prog 154 #[yq rb] h (PR rb h (fm (er d) l) (BQ h.size)):=by
 have hlt:=hs.lt;refine ah.of func154 rfl rfl ?_;refine xr func154 rfl ?_;refine xo rfl (av.aW H.jT) ?_;rintro _ h1 ⟨rfl,hkr,he1,hz1⟩;refine xd [0,2] rfl ?_;refine xr func154 rfl ?_;refine xp rfl (aP (H.Cz _) rfl) ?_;refine xo rfl (av.aW H.jT) ?_;rintro _ h2 ⟨rfl,hk2,he2,hz2⟩;refine RW.bh rfl rfl rfl (av.an H.b9 rfl rfl hk2 (by first|rfl|(simp;done)|(simp;omega)) (by first|decide|exact of_decide_eq_true rfl|(simp;done)|(simp;omega)) (by first|decide|simp[Value.oneCell'])) ?_;rintro _ h3 ⟨rfl,hk3,hx3,hz3⟩;have hk3:br h3 h1.size 143 (dV 1 0 (.slice none 0 0)):=hk3;have hkr:br h1 h.size 143 (dV 0 0 (.slice none 0 0)):=hkr;have e3:aD h h3:=aD.only (he1.trans he2) hx3 (by omega);have hkr3:br h3 h.size 143 (dV 0 0 (.slice none 0 0)):=(hkr.ax he2).ext hx3 (by show ¬_=_;omega);have hs3:St h3 rb l:=br.ax hs e3;refine xd [0,2,3] rfl ?_;refine au rfl ?_;refine bB func154 1 rfl ?_;refine xo rfl (aj (vs:=[_]) func156 rfl H.sZ rfl (ah.jv (fQ hs3 hl) ((fun _ _ ⟨hc,hp,hx⟩=>dX hc (by rw[jc hp];rfl) ((aD.of e3).trans hx))))) ?_;rintro _ h4 ⟨c,r,hp,rfl,hs4,hx4⟩;obtain rfl:=fR hp;simp only[List.length_cons] at hl hd;have hkr4:=hkr3.ext hx4 (by show ¬_=_;omega);have hk4:=hk3.ext hx4 (by show ¬_=_;omega);have e4:Ext (only rb) h h4:=(aD.of e3).trans hx4;have hz4:=hx4.size;have hg4:Sg h4 lim:=hg.ext e4 (fun b (hb:b=rb)=>by omega);refine aS 1 [0,2,3,4] rfl ?_;refine aY func154 1 [0,2,3,4,8] rfl ?_;refine G.block rfl rfl ?_;refine aY func154 2 [0,2,3,4,8,13] rfl ?_
 have fin:∀(x:Nd) (w:Value) (m:By) (h':ay) (ρ':Env),Sub [(0,yq rb),(2,.pointer (some ⟨h.size,0,none⟩)),(3,.pointer (some ⟨h1.size,0,none⟩))] ρ'->br h' h1.size 143 (dV x.kind x.set w)->br h' h.size 143 (dV 0 0 (.slice none 0 0))->St h' rb m->b6 h' (Cw (h.size+1)) (dV x.kind x.set w) x->Ext (only rb) h h'->fm (er d) (c::r)=some (x,m)->G Tryz.prog 154 f154 [.code [1,1,1]] ρ' h' (PR rb h (fm (er d) (c::r)) (BQ h.size)):=by
  rintro x w m hh ρ' hsub hkx hkrr hst hnd hee hat;refine G.sub (ρ':=[(0,yq rb),(2,.pointer (some ⟨h.size,0,none⟩)),(3,.pointer (some ⟨h1.size,0,none⟩))]) hsub ?_;refine xr func154 rfl ?_;refine xp rfl (ak.aq H.eN H.b9 rfl hkx.row (by first|rfl|(simp;done)|(simp;omega))) ?_;refine RW.bh rfl rfl rfl (av.an H.b9 rfl rfl hkrr (by first|rfl|(simp;done)|(simp;omega)) (by first|decide|exact of_decide_eq_true rfl|(simp;done)|(simp;omega)) (b6.one hnd)) ?_;rintro _ h9 ⟨rfl,hk9,hx9,hz9⟩;refine xd [0,2,3] rfl ?_;have hk9:br h9 h.size 143 (dV x.kind x.set w):=hk9;refine G.bq func154 rfl (.cons (aL.bn H.eN H.b9 rfl (hk9.row) (by first|rfl|(simp;done)|(simp;omega))) (.nil)) ?_;exact⟨x,m,hat,⟨w,rfl,gH hnd (Nat.le_succ _) hx9 (fun b _ (hb:b=h.size)=>by omega)⟩,br.ext hst hx9 (by show ¬_=_;omega),jy.only hee hx9 (Nat.le_refl _)⟩
 refine aG rfl rfl (fun c1=>?_) (fun c1=>?_)
 · have c1:c=40:=(de rfl).1 c1;subst c1;refine bB func154 1 rfl ?_;refine xo rfl (aj (vs:=[_]) func134 rfl H.Ht rfl (ah.jv (ih h4 rb r hg4 hrb hs4 (by omega) (by omega)) ((fun _ _ ⟨hc,hp,hx⟩=>dX hc (by unfold fm;simp[hp]) (e4.trans hx))))) ?_;rintro _ h5 ⟨x,r5,hp5,⟨w,rfl,hnd5⟩,hs5,hx5⟩;have hk5:=hk4.ext hx5 (by show ¬_=_;omega);have hkr5:=hkr4.ext hx5 (by show ¬_=_;omega);have hr5:=j9 d hp5;refine RW.bh rfl rfl rfl (av.an H.b9 rfl rfl hk5 (by first|rfl|(simp;done)|(simp;omega)) (by first|decide|exact of_decide_eq_true rfl|(simp;done)|(simp;omega)) (b6.one hnd5)) ?_;rintro _ h6 ⟨rfl,hk6,hx6,hz6⟩;refine xd [0,2,3,4,8,13] rfl ?_;refine G.bV func154 rfl ?_;refine aV 1 rfl ?_;have hk6:br h6 h1.size 143 (dV x.kind x.set w):=hk6;have hs6:St h6 rb r5:=br.ext hs5 hx6 (by show ¬_=_;omega);have hnd6:b6 h6 (Cw (h.size+1)) (dV x.kind x.set w) x:=gH hnd5 (by omega) hx6 (fun b _ (hb:b=h1.size)=>by omega);have e6:=jy.only (e4.trans hx5) hx6 (by omega);refine xo rfl (aj (vs:=[_,_]) func164 rfl H.Hj rfl (ah.jv (s8 41 hs6 (by omega)) ((fun _ _ ⟨hc,hp,hx⟩=>dX hc (by unfold fm;simp only[if_true,hp5];split;rename_i t ht;cases ht;simp at hp;rfl) (e6.trans hx))))) ?_;rintro _ h7 ⟨_,r7,hp7,_,hs7,hx7⟩;refine xd [0,2,3,4,8,13] rfl ?_;refine G.aT ?_
   have hcl:r5=41::r7:=by
    split at hp7
    · rename_i hh;cases hp7;cases r5 with|nil=>cases hh|cons a b=>simp at hh;subst hh;rfl
    · cases hp7
   subst hcl;exact fin x w r7 _ _ ⟨rfl,rfl,rfl,trivial⟩ (hk6.ext hx7 (by show ¬_=_;omega)) ((hkr5.ext hx6 (by show ¬_=_;omega)).ext hx7 (by show ¬_=_;omega)) hs7 (gH hnd6 (Nat.le_refl _) hx7 (fun b _ (hb:b=rb)=>by omega)) (e6.trans hx7) (by unfold fm;simp[hp5])
 · have c1:¬c=40:=fun e=>c1 ((de rfl).2 e)
   refine aY func154 2 [0,2,3,4,8,13,19] rfl ?_;refine aG rfl rfl (fun c2=>?_) (fun c2=>?_)
   · have c2:c=91:=(de rfl).1 c2;refine G.bV func154 rfl ?_;refine aV 1 rfl ?_;refine xo rfl (aj (vs:=[_]) func165 rfl H.Jq rfl (ah.jv (vj hs4 (by omega)) ((fun _ _ ⟨hc,hp,hx⟩=>dX hc (by unfold fm;simp[c2,hp]) (e4.trans hx))))) ?_;rintro _ h5 ⟨x,r5,hp5,⟨w,rfl,hnd5⟩,hs5,hx5⟩;have hk5:=hk4.ext hx5 (by show ¬_=_;omega);have hkr5:=hkr4.ext hx5 (by show ¬_=_;omega);refine RW.bh rfl rfl rfl (av.an H.b9 rfl rfl hk5 (by first|rfl|(simp;done)|(simp;omega)) (by first|decide|exact of_decide_eq_true rfl|(simp;done)|(simp;omega)) (b6.one hnd5)) ?_;rintro _ h6 ⟨rfl,hk6,hx6,hz6⟩;refine xd [0,2,3,4,8,13,19] rfl ?_;refine G.aT ?_;have hk6:br h6 h1.size 143 (dV x.kind x.set w):=hk6;exact fin x w r5 _ _ ⟨rfl,rfl,rfl,trivial⟩ hk6 (hkr5.ext hx6 (by show ¬_=_;omega)) (br.ext hs5 hx6 (by show ¬_=_;omega)) (gH hnd5 (by omega) hx6 (fun b _ (hb:b=h1.size)=>by omega)) (jy.only (e4.trans hx5) hx6 (by omega)) (by unfold fm;simp[c2,hp5])
   · have c2:¬c=91:=fun e=>c2 ((de rfl).2 e)
     refine aY func154 2 [0,2,3,4,8,13,19,23] rfl ?_;refine aG rfl rfl (fun c3=>?_) (fun c3=>?_)
     · have c3:c=46:=(de rfl).1 c3;refine xr func154 rfl ?_;refine xp rfl (aa (off:=1) underlying143 rfl rfl H.lH rfl) ?_;refine xo rfl (aj (vs:=[_,_,_]) func166 rfl H.vW rfl (ah.aX (gQ hk4 0 9))) ?_;rintro _ h5 ⟨hk5,hx5⟩;refine xd [0,2,3,4,8,13,19,23] rfl ?_;refine G.bV func154 rfl ?_;refine xp rfl (aa (off:=1) underlying143 rfl rfl H.lH rfl) ?_;refine xo rfl (aj (vs:=[_,_,_]) func166 rfl H.vW rfl (ah.aX (gQ hk5 11 255))) ?_;rintro _ h6 ⟨hk6,hx6⟩;refine xd [0,2,3,4,8,13,19,23] rfl ?_;refine G.aT ?_;have hx56:=hx5.trans hx6;exact fin HG (.slice none 0 0) r _ _ ⟨rfl,rfl,rfl,trivial⟩ hk6 (hkr4.ext hx56 (by show ¬_=_;omega)) (br.ext hs4 hx56 (by show ¬_=_;omega)) (fu _ _ _ _) (jy.only e4 hx56 (by omega)) (by unfold fm;simp[c3])
     · have c3:¬c=46:=fun e=>c3 ((de rfl).2 e)
       refine aY func154 2 [0,2,3,4,8,13,19,23,29] rfl ?_;refine aG rfl rfl (fun c4=>?_) (fun c4=>?_)
       · have c4:c=92:=(de rfl).1 c4;refine bB func154 1 rfl ?_;refine xo rfl (aj (vs:=[_]) func167 rfl H.Hi rfl (ah.jv (nU hs4 (by omega)) ((fun _ _ ⟨hc,hp,hx⟩=>dX hc (by unfold fm;simp[c4,hp]) (e4.trans hx))))) ?_;rintro _ h5 ⟨b,r5,hp5,rfl,hs5,hx5⟩;have hk5:=hk4.ext hx5 (by show ¬_=_;omega);have hkr5:=hkr4.ext hx5 (by show ¬_=_;omega);refine aS 1 [0,2,3,4,8,13,19,23,29] rfl ?_;refine G.bV func154 rfl ?_;refine xp rfl (aa (off:=1) underlying143 rfl rfl H.lH rfl) ?_;refine aV 2 rfl ?_;refine xo rfl (aj (vs:=[_,_,_]) func166 rfl H.vW rfl (ah.aX (gQ hk5 b b))) ?_;rintro _ h6 ⟨hk6,hx6⟩;refine xd [0,2,3,4,8,13,19,23,29] rfl ?_;refine G.aT ?_;exact fin (yd b) (.slice none 0 0) r5 _ _ ⟨rfl,rfl,rfl,trivial⟩ hk6 (hkr5.ext hx6 (by show ¬_=_;omega)) (br.ext hs5 hx6 (by show ¬_=_;omega)) (fu _ _ _ _) (jy.only (e4.trans hx5) hx6 (by omega)) (by unfold fm;simp[c4,hp5])
       · have c4:¬c=92:=fun e=>c4 ((de rfl).2 e)
         refine au rfl ?_;refine aY func154 2 [0,2,3,4,8,13,19,23,29,37] rfl ?_;refine aG rfl rfl (fun d41=>?_) (fun d41=>?_)
         · have d41:c=41:=(de rfl).1 d41;refine aA rfl ?_;refine aO rfl rfl (fun _=>?_) (fun hc=>absurd hc (by rw[d41];decide));refine G.bV func154 rfl ?_;refine xp rfl (aP (H.gX ) rfl) ?_;refine xp rfl (bK H.kC rfl) ?_;refine RW.bh rfl rfl rfl (dB (Φ:=fun _ _=>False) rfl (dX rfl (by unfold fm;simp[d41]) e4)) ?_;rintro _ _ hpn;exact hpn.elim
         · have d41:¬c=41:=fun e=>d41 ((de rfl).2 e)
           refine aY func154 2 [0,2,3,4,8,13,19,23,29,37] rfl ?_;refine aG rfl rfl (fun d93=>?_) (fun d93=>?_)
           · have d93:c=93:=(de rfl).1 d93;refine aA rfl ?_;refine aO rfl rfl (fun _=>?_) (fun hc=>absurd hc (by rw[d93];decide));refine G.bV func154 rfl ?_;refine xp rfl (aP (H.gX ) rfl) ?_;refine xp rfl (bK H.kC rfl) ?_;refine RW.bh rfl rfl rfl (dB (Φ:=fun _ _=>False) rfl (dX rfl (by unfold fm;simp[d93]) e4)) ?_;rintro _ _ hpn;exact hpn.elim
           · have d93:¬c=93:=fun e=>d93 ((de rfl).2 e)
             refine aY func154 2 [0,2,3,4,8,13,19,23,29,37] rfl ?_;refine aG rfl rfl (fun d124=>?_) (fun d124=>?_)
             · have d124:c=124:=(de rfl).1 d124;refine aA rfl ?_;refine aO rfl rfl (fun _=>?_) (fun hc=>absurd hc (by rw[d124];decide));refine G.bV func154 rfl ?_;refine xp rfl (aP (H.gX ) rfl) ?_;refine xp rfl (bK H.kC rfl) ?_;refine RW.bh rfl rfl rfl (dB (Φ:=fun _ _=>False) rfl (dX rfl (by unfold fm;simp[d124]) e4)) ?_;rintro _ _ hpn;exact hpn.elim
             · have d124:¬c=124:=fun e=>d124 ((de rfl).2 e)
               refine aY func154 2 [0,2,3,4,8,13,19,23,29,37] rfl ?_;refine aG rfl rfl (fun d42=>?_) (fun d42=>?_)
               · have d42:c=42:=(de rfl).1 d42;refine aA rfl ?_;refine aO rfl rfl (fun _=>?_) (fun hc=>absurd hc (by rw[d42];decide));refine G.bV func154 rfl ?_;refine xp rfl (aP (H.gX ) rfl) ?_;refine xp rfl (bK H.kC rfl) ?_;refine RW.bh rfl rfl rfl (dB (Φ:=fun _ _=>False) rfl (dX rfl (by unfold fm;simp[d42]) e4)) ?_;rintro _ _ hpn;exact hpn.elim
               · have d42:¬c=42:=fun e=>d42 ((de rfl).2 e)
                 refine aY func154 2 [0,2,3,4,8,13,19,23,29,37] rfl ?_;refine aG rfl rfl (fun d43=>?_) (fun d43=>?_)
                 · have d43:c=43:=(de rfl).1 d43;refine aA rfl ?_;refine aO rfl rfl (fun _=>?_) (fun hc=>absurd hc (by rw[d43];decide));refine G.bV func154 rfl ?_;refine xp rfl (aP (H.gX ) rfl) ?_;refine xp rfl (bK H.kC rfl) ?_;refine RW.bh rfl rfl rfl (dB (Φ:=fun _ _=>False) rfl (dX rfl (by unfold fm;simp[d43]) e4)) ?_;rintro _ _ hpn;exact hpn.elim
                 · have d43:¬c=43:=fun e=>d43 ((de rfl).2 e)
                   refine G.bV func154 rfl ?_;refine aS 2 [0,2,3,4,8,13,19,23,29,37] rfl ?_;refine aG rfl rfl (fun d63=>?_) (fun d63=>?_)
                   · have d63:c=63:=(de rfl).1 d63;refine G.bV func154 rfl ?_;refine xp rfl (aP (H.gX ) rfl) ?_;refine xp rfl (bK H.kC rfl) ?_;refine RW.bh rfl rfl rfl (dB (Φ:=fun _ _=>False) rfl (dX rfl (by unfold fm;simp[d63]) e4)) ?_;rintro _ _ hpn;exact hpn.elim
                   · have d63:¬c=63:=fun e=>d63 ((de rfl).2 e)
                     refine G.bV func154 rfl ?_;refine xp rfl (aa (off:=1) underlying143 rfl rfl H.lH rfl) ?_;refine aV 2 rfl ?_;refine xo rfl (aj (vs:=[_,_,_]) func166 rfl H.vW rfl (ah.aX (gQ hk4 c c))) ?_;rintro _ h6 ⟨hk6,hx6⟩;refine xd [0,2,3,4,8,13,19,23,29,37] rfl ?_;refine G.aT ?_;exact fin (yd c) (.slice none 0 0) r _ _ ⟨rfl,rfl,rfl,trivial⟩ hk6 (hkr4.ext hx6 (by show ¬_=_;omega)) (br.ext hs4 hx6 (by show ¬_=_;omega)) (fu _ _ _ _) (jy.only e4 hx6 (by omega)) (by unfold fm;simp[c1,c2,c3,c4,d41,d93,d124,d42,d43,d63])
theorem xe {ρ:Env}{dst:Option Nat}{ty:TypeId}{pos:String}{after:Array Edge}{guard:Option (Nat×Bool)}{x y:Operand}{l:List (Int×Int)}
 (hx:bQ ρ x=some (.map (some m))) (hy:bQ ρ y=some (.int .u8 (c.toNat:Nat))) (hm:fy (Value.int .u8) (Value.int .i64) h m l) (hv:∀c:UInt8,((kI (c.toNat:Int) l).map (Value.int .i64)).getD (Value.int .i64 0)=Value.int .i64 (dF c:Nat)) :
 ak Tryz.prog ⟨dst,.lookup 198 x y false,ty,pos,after,guard⟩ ρ h (.int .i64 (dF c:Nat)):=by
 have:=ak.lookup (P:=Tryz.prog) (ρ:=ρ) (h:=h) (dst:=dst) (ty:=ty) (pos:=pos) (after:=after) (guard:=guard) (js.int .u8) underlying198 underlying5 (z:=.int .i64 0) (et:=3) (by kernel_rfl) hx hy rfl hm
 rwa [hv c] at this
theorem yP (h:0<dF c):eR x (c::r)=eR (.mk (dF c) 0 [x]) r:=by
 rw[eR,if_neg (by omega)]
theorem yO {m:By}(h:dF (m.head?.getD 0)=0):eR x m=(x,m):=by
 cases m with
 |nil=>rfl
 |cons c r=>rw[eR,if_pos (by simpa using h)]
theorem y9 (ih:uN d lim) (hg:Sg h lim) (hrb:lim<=rb) (hs:St h rb l) (hd:l.length<=d) (hl:l.length<=1000000):ah Tryz.prog 151 #[yq rb] h (PR rb h (fV (er d) l) (BQ h.size)):=by
 have hlt:=hs.lt;refine ah.of func151 rfl rfl ?_;refine xr func151 rfl ?_;refine xo rfl (av.aW H.jT) ?_;rintro _ h1 ⟨rfl,hkr,he1,hz1⟩;refine xd [0,2] rfl ?_;refine bB func151 1 rfl ?_;refine xo rfl (aj (vs:=[_]) func154 rfl H.Jr rfl (ah.jv (BN ih (hg.ext he1 (fun _ k=>k.elim)) hrb (br.ax hs he1) hd hl) ((fun _ _ ⟨hc,hp,hx⟩=>dX hc (by unfold fV;rw[hp];rfl) ((aD.of he1).trans hx))))) ?_;rintro _ h2 ⟨x0,m0,hp0,⟨w0,rfl,hnd2⟩,hs2,hx2⟩;refine xo rfl (av.aW H.jT) ?_;rintro _ h3 ⟨rfl,hk3,he3,hz3⟩;refine RW.bh rfl rfl rfl (av.an H.b9 rfl rfl hk3 (by first|rfl|(simp;done)|(simp;omega)) (by first|decide|exact of_decide_eq_true rfl|(simp;done)|(simp;omega)) (b6.one hnd2)) ?_;rintro _ h4 ⟨rfl,hk4,hx4,hz4⟩;have hz2:=hx2.size;have hkr:br h1 h.size 143 (dV 0 0 (.slice none 0 0)):=hkr;have hk4:br h4 h2.size 143 (dV x0.kind x0.set w0):=hk4;have e2:Ext (only rb) h h2:=(aD.of he1).trans hx2;have hkr2:=hkr.ext hx2 (by show ¬_=_;omega);have e24:aD h2 h4:=aD.only he3 hx4 (Nat.le_refl _);have hnd4:b6 h4 (fun b=>b<h.size+1\/b=h2.size) (dV x0.kind x0.set w0) x0:=hnd2.mv (Mv.eE e24 fun b hb hn=>⟨fun k=>k,fun k=>by have:¬b<h1.size:=hn;omega⟩);have hm0:=wI (fun h=>j9 d h) hp0;have hpc:fV (er d) l=some (eR x0 m0):=by unfold fV;rw[hp0];rfl
 generalize htg:eR x0 m0=tgt at hpc;generalize hnb:h2.size=nb at hk4 hnd4 hs2;have hnb1:h.size+1<=nb:=by omega
 refine xd [0,2,3] rfl ?_;refine au rfl ?_;refine G.block rfl rfl ?_;refine bT (σ:=Nd×Value×By) (fun q=>[(0,yq rb),(2,.pointer (some ⟨h.size,0,none⟩)),(3,.pointer (some ⟨nb,0,none⟩))]) (fun q h'=>St h' rb q.2.2/\br h' nb 143 (dV q.1.kind q.1.set q.2.1)/\br h' h.size 143 (dV 0 0 (.slice none 0 0))/\Ext (only rb) h h'/\b6 h' (fun b=>b<h.size+1\/b=nb) (dV q.1.kind q.1.set q.2.1) q.1/\q.2.2.length<=1000000/\eR q.1 q.2.2=tgt) (fun q=>q.2.2.length) ((x0,w0,m0)) rfl ⟨rfl,rfl,rfl,trivial⟩ ⟨br.ax hs2 e24,hk4,hkr2.ax e24,jy.ax e2 e24,hnd4,by show m0.length<=_;omega,htg⟩ ?_;rintro⟨x,w,m⟩ h5 ⟨hs5,hk5,hkr5,e5,hnd5,hm,hsg⟩ ih
 try dsimp only
 dsimp only at hs5 hk5 hnd5 hm hsg;have hg5:Sg h5 lim:=hg.ext e5 (fun b (hb:b=rb)=>by omega);obtain⟨mp,hm1,hm2,hcell,lm,hmap,hval⟩:=hg5;refine au rfl ?_;refine au rfl ?_;refine G.ur func151 H.mixed rfl (by kernel_rfl) ?_;refine RQ.aU rfl rfl rfl rfl (af H.HK rfl hcell) ?_;refine RQ.aU rfl rfl rfl rfl (bS rfl) ?_;refine RQ.Ka (vs:=[_]) rfl rfl rfl rfl rfl func155 rfl H.Hl rfl (s7 hs5) ?_;refine RQ.aU rfl rfl rfl rfl (xe rfl rfl hmap hval) ?_;refine RQ.aU rfl rfl rfl rfl (CI rfl rfl) ?_;refine iX rfl ?_;refine xu [0,2,3,10] rfl ?_;refine aG rfl rfl (fun hgo=>?_) (fun hgo=>?_)
 · have hgo:0<dF (m.head?.getD 0):=by omega
   obtain⟨c,r,rfl⟩:=List.exists_cons_of_ne_nil (fun(e:m=[])=>by rw[e] at hgo;revert hgo;decide);have hgo:0<dF c:=hgo;rw[yP hgo] at hsg;simp only[List.length_cons] at hm;have hlt5:=hk5.lt;have hltr:=hkr5.lt
   have hn1:¬((⟨4,0,none⟩:Addr).block=rb\/Array.size h5<=(⟨4,0,none⟩:Addr).block):=by
    show ¬(4=rb\/Array.size h5<=4);omega
   have hn2:¬(nb=rb\/Array.size h5<=nb):=by omega
   have hn3:¬(mp=rb\/Array.size h5<=mp):=by omega
   have hO5:¬(h5.size<h.size+1\/h5.size=nb):=by have:=hkr5.lt;omega
   refine aA rfl ?_;refine G.block rfl rfl ?_;refine bU (fun b=>b=rb\/Array.size h5<=b) (fun i=>Nat.blt i 7) (sz:=8) (listed:= #[false,false,false,false,false,false,false,false]) func151 H.mixed rfl rfl rfl ?_;refine bf 0 1 (by kernel_rfl) rfl (fun h' e=>af H.HK rfl (e.cell hn1 hcell)) ?_;refine bF 1 3 (by kernel_rfl) rfl ?_;refine bf 4 19 (by kernel_rfl) rfl (fun h' e=>ak.aq H.eN H.b9 rfl (e.rowAt hn2 hk5.row) (by first|rfl|(simp;done)|(simp;omega))) ?_;refine RD.wR 2 5 (li:= #[true,true,true,false,true,false,false,false]) (lj:= #[true,true,false,false,true,true,false,false]) rfl rfl (by kernel_rfl) rfl rfl rfl rfl rfl rfl (aj (vs:=[_]) func156 rfl H.sZ rfl (ah.jv (fQ hs5 (by simp only[List.length_cons];omega)) ((fun _ _ ⟨_,hp,_⟩=>by cases hp)))) (av.gD (cs:=[_,_,_,_,_,_]) underlying141 H.uq rfl rfl (by decide)) (by kernel_rfl) (by kernel_rfl) ?_ ?_
   · rintro _ h6 ⟨_,_,hp6,rfl,hs6,hx6⟩;refine⟨fun _=>hx6.mono (fun _ _ k=>.inl k),?_⟩;cases hp6;have hmap6:=hmap.ext hx6 (by show ¬_=_;omega);have hz6:=hx6.size;have hk6:=hk5.ext hx6 (by show ¬_=_;omega);have hnd6:b6 h6 (fun b=>b<h.size+1\/b=nb) (dV x.kind x.set w) x:=hnd5.mv (Mv.eE hx6 fun b hb hn=>⟨fun(k:b=rb)=>hn (.inl (by omega)),hn⟩);refine bf 3 31 (by kernel_rfl) rfl (fun h' e=>xe rfl rfl (hmap6.ext e hn3) hval) ?_;refine dK 5 63 (by kernel_rfl) rfl (av.gD (cs:=[_,_,_,_,_,_]) underlying141 H.uq rfl rfl (by decide)) ?_;rintro _ _ ⟨rfl,rfl⟩;refine⟨fun _=>by first|exact Ext.push _ _ _|assumption,?_⟩;refine bf 6 127 (by kernel_rfl) rfl (fun h' e=>aP (H.qI _ _ _ _) rfl) ?_;have hsl:=cn.pO (e:=rF) (t:=143) hnd6 (show ¬(h6.size<h.size+1\/h6.size=nb) by omega);have ep:=Ext.push (fun _=>False) h6 (.cells (dV x.kind x.set w).toArray 143);have hk7:=hk6.ax ep;have hs7:St _ rb r:=br.ax hs6 ep;have hkr7:=(hkr5.ext hx6 (by show ¬_=_;omega)).ax ep;have e7:=jy.ax (e5.trans hx6) ep;refine iF 7 255 (by kernel_rfl) rfl (av.an H.b9 rfl rfl hk7 (by first|rfl|(simp;done)|(simp;omega)) (by first|decide|exact of_decide_eq_true rfl|(simp;done)|(simp;omega)) (b6.one (b6.of (dF c) 0 hsl))) ?_;rintro _ h8 ⟨rfl,hk8,hx8,hz8⟩;refine⟨fun hk=>(nomatch hk),?_⟩;refine aR (by kernel_rfl) ?_;refine xu [0,2,3,10] rfl ?_;refine G.aT ?_;have hk8:br h8 nb 143 (dV (dF c) 0 (.slice (some ⟨h6.size,0,none⟩) 1 1)):=hk8;exact ih (.mk (dF c) 0 [x],.slice (some ⟨h6.size,0,none⟩) 1 1,r) _ _ ⟨rfl,rfl,rfl,trivial⟩ ⟨br.ext hs7 hx8 (by show ¬_=_;omega),hk8,hkr7.ext hx8 (by show ¬_=_;omega),jy.only e7 hx8 (by omega),(b6.of (dF c) 0 hsl).mv (Mv.eE hx8 fun b hb hn=>⟨fun(k:b=nb)=>hn (.inr k),hn⟩),by show r.length<=_;omega,hsg⟩ (by show r.length<(c::r).length;simp)
   · rintro _ _ ⟨rfl,rfl⟩;refine⟨fun _=>by first|exact Ext.push _ _ _|assumption,?_⟩;have hsl:=cn.pO (e:=rF) (t:=143) hnd5 hO5;have ep:=Ext.push (fun _=>False) h5 (.cells (dV x.kind x.set w).toArray 143);refine dK 2 55 (by kernel_rfl) rfl (aj (vs:=[_]) func156 rfl H.sZ rfl (ah.jv (fQ (br.ax hs5 ep) (by simp only[List.length_cons];omega)) ((fun _ _ ⟨_,hp,_⟩=>by cases hp)))) ?_;rintro _ h6 ⟨_,_,hp6,rfl,hs6,hx6⟩;refine⟨fun _=>hx6.mono (fun _ _ k=>.inl k),?_⟩;cases hp6;have hmap6:=(hmap.ext ep (fun k=>k)).ext hx6 (by show ¬_=_;omega);have hz6:=hx6.size;have hzp:(h5.push (.cells (dV x.kind x.set w).toArray 143)).size=h5.size+1:=by simp
     have hk6:=(hk5.ax ep).ext hx6 (by show ¬_=_;omega);have hkr6:=(hkr5.ax ep).ext hx6 (by show ¬_=_;omega);have hn4:¬(mp=rb\/Array.size h5<=mp):=hn3;refine bf 3 63 (by kernel_rfl) rfl (fun h' e=>xe rfl rfl (hmap6.ext e hn4) hval) ?_;refine bf 6 127 (by kernel_rfl) rfl (fun h' e=>aP (H.qI _ _ _ _) rfl) ?_;have hsl6:cn rF h6 (fun b=>b<h.size+1\/b=nb) (.slice (some ⟨h5.size,0,none⟩) 1 1) [x]:=hsl.mv (Mv.eE hx6 fun b hb hn=>⟨fun(k:b=rb)=>hn (.inl (by omega)),hn⟩);refine iF 7 255 (by kernel_rfl) rfl (av.an H.b9 rfl rfl hk6 (by first|rfl|(simp;done)|(simp;omega)) (by first|decide|exact of_decide_eq_true rfl|(simp;done)|(simp;omega)) (b6.one (b6.of (dF c) 0 hsl6))) ?_;rintro _ h8 ⟨rfl,hk8,hx8,hz8⟩;refine⟨fun hk=>(nomatch hk),?_⟩;refine aR (by kernel_rfl) ?_;refine xu [0,2,3,10] rfl ?_;refine G.aT ?_;have hk8:br h8 nb 143 (dV (dF c) 0 (.slice (some ⟨h5.size,0,none⟩) 1 1)):=hk8;exact ih (.mk (dF c) 0 [x],.slice (some ⟨h5.size,0,none⟩) 1 1,r) _ _ ⟨rfl,rfl,rfl,trivial⟩ ⟨br.ext hs6 hx8 (by show ¬_=_;omega),hk8,hkr6.ext hx8 (by show ¬_=_;omega),jy.only ((jy.ax e5 ep).trans hx6) hx8 (by omega),(b6.of (dF c) 0 hsl6).mv (Mv.eE hx8 fun b hb hn=>⟨fun(k:b=nb)=>hn (.inr k),hn⟩),by show r.length<=_;omega,hsg⟩ (by show r.length<(c::r).length;simp)
 · rw[yO (by omega)] at hsg;refine bN rfl rfl ?_;refine xr func151 rfl ?_;refine xp rfl (ak.aq H.eN H.b9 rfl hk5.row (by first|rfl|(simp;done)|(simp;omega))) ?_;refine RW.bh rfl rfl rfl (av.an H.b9 rfl rfl hkr5 (by first|rfl|(simp;done)|(simp;omega)) (by first|decide|exact of_decide_eq_true rfl|(simp;done)|(simp;omega)) (b6.one hnd5)) ?_;rintro _ h6 ⟨rfl,hk6,hx6,hz6⟩;refine xd [0,2,3,10] rfl ?_;have hk6:br h6 h.size 143 (dV x.kind x.set w):=hk6;refine G.bq func151 rfl (.cons (aL.bn H.eN H.b9 rfl (hk6.row) (by first|rfl|(simp;done)|(simp;omega))) (.nil)) ?_;exact⟨x,m,by rw[hpc,<-hsg],⟨w,rfl,hnd5.mv (Mv.eE hx6 fun b hb hn=>⟨fun(k:b=h.size)=>hn (.inl (by omega)),fun(k:b<h.size)=>hn (.inl (by omega))⟩)⟩,br.ext hs5 hx6 (by show ¬_=_;omega),jy.only e5 hx6 (Nat.le_refl _)⟩
theorem vO (ih:uN d lim) (hg:Sg h lim) (hrb:lim<=rb) (hs:St h rb l) (hd:l.length<=d) (hl:l.length<=1000000):ah Tryz.prog 145 #[yq rb] h (PR rb h (xj (er d) l) (BQ h.size)):=by
 have hlt:=hs.lt;have hrl:∀{s x r},er d s=some (x,r)->r.length<=s.length:=fun h=>j9 d h
 refine ah.of func145 rfl rfl ?_;refine xr func145 rfl ?_;refine xo rfl (av.aW H.jT) ?_;rintro _ h1 ⟨rfl,hkr,he1,hz1⟩;refine xd [0,2] rfl ?_;refine aY func145 1 [0,2,3] rfl ?_;refine au rfl ?_;refine G.block rfl rfl ?_;have hkr:br h1 h.size 143 (dV 0 0 (.slice none 0 0)):=hkr;generalize htg:l9 (er d) (l.length+1) l=tgt;have hrow:xj (er d) l=tgt.map fun p=>(cD 2 p.1,p.2):=by unfold xj;rw[htg]
 have htg0:tgt.map (fun p=>(([]:List Nd)++p.1,p.2))=tgt:=by cases tgt<;>rfl
 refine bT (σ:=List Nd×Value×By) (fun q=>[(0,yq rb),(2,.pointer (some ⟨h.size,0,none⟩)),(3,q.2.1)]) (fun q h'=>St h' rb q.2.2/\gO rF (Cw h1.size) h' h1.size 143 q.2.1 q.1/\br h' h.size 143 (dV 0 0 (.slice none 0 0))/\Ext (only rb) h h'/\q.2.2.length+q.1.length<=l.length/\(l9 (er d) (q.2.2.length+1) q.2.2).map (fun p=>(q.1++p.1,p.2))=tgt) (fun q=>q.2.2.length) (([],.slice none 0 0,l)) rfl ⟨rfl,rfl,rfl,trivial⟩ ⟨br.ax hs he1,gO.nil _ _ _ _ _,hkr,aD.of he1,by show l.length+0<=_;omega,by rw[htg];exact htg0⟩ ?_;rintro⟨acc,v,m⟩ h5 ⟨hs5,hv5,hkr5,e5,hm,hcon⟩ ih'
 try dsimp only
 dsimp only at hs5 hv5 hm hcon;refine au rfl ?_;refine au rfl ?_;refine G.bu [(24,.bool (!jK m))] [(0,_),(2,_),(3,_)] ⟨rfl,rfl,rfl,trivial⟩ func145 rfl ?_ ?_
 · refine cx 2 rfl rfl (aa (off:=0) underlying182 rfl rfl H.ct rfl) ?_;refine xp rfl (af H.cT rfl hs5.cell) ?_;refine xp rfl (ak.mq rfl rfl) ?_;refine aV 1 rfl ?_;refine aH (d:=9) rfl (fun he=>?_) (fun he=>?_)
   · have hne:¬bs m=⟨#[]⟩:=of_decide_eq_true he;obtain⟨c,r,rfl⟩:=List.exists_cons_of_ne_nil (fun(e:m=[])=>hne (by rw[e];rfl));refine cx 2 rfl rfl (aa (off:=0) underlying182 rfl rfl H.ct rfl) ?_;refine xp rfl (af H.cT rfl hs5.cell) ?_;refine xp rfl (ak.iA underlying9 rfl rfl 0 rfl (rP rfl)) ?_;refine aV 3 rfl ?_;refine aH (d:=17) rfl (fun h124=>?_) (fun h124=>?_)
     · have h124:¬c=124:=fun e=>(of_decide_eq_true h124) ((de rfl).2 e)
       refine cx 2 rfl rfl (aa (off:=0) underlying182 rfl rfl H.ct rfl) ?_;refine xp rfl (af H.cT rfl hs5.cell) ?_;refine xp rfl (ak.iA underlying9 rfl rfl 0 rfl (rP rfl)) ?_;refine aV 2 rfl ?_;refine aC rfl ?_;exact⟨rfl,az rfl (by simp only[jK];rw[show (c ==124)=false by simpa using h124,Bool.false_or,show (c ==41)=decide (c=41) by rw[Bool.eq_iff_iff];simp,<-decide_not];exact decide_eq_decide.2 (not_congr (de rfl))),rfl,rfl,rfl,trivial⟩
     · have h124:c=124:=(de rfl).1 (Classical.not_not.1 (of_decide_eq_false h124));refine aV 7 rfl ?_;refine aC rfl ?_;exact⟨rfl,az rfl (by simp[jK,h124]),rfl,rfl,rfl,trivial⟩
   · have hne:bs m=⟨#[]⟩:=Classical.not_not.1 (of_decide_eq_false he);obtain rfl:m=[]:=gE hne;refine aV 15 rfl ?_;refine aC rfl ?_;exact⟨rfl,az rfl (by rfl),rfl,rfl,rfl,trivial⟩
 · obtain⟨css,hc1,hc2,hc3⟩:=id hv5;have hlt5:=hkr5.lt;have hz5:=e5.size;refine aO rfl rfl (fun hgo=>?_) (fun hgo=>?_)
   · have hend:jK m=false:=by simpa using hgo
     have hcon':tgt=(match fV (er d) m with|none=>none|some (x,r)=>((l9 (er d) (r.length+1) r).map fun p=>(x::p.1,p.2)).map (fun p=>(acc++p.1,p.2))):=by
      rw[<-hcon,l9,if_neg (by rw[hend];decide)];cases hp:fV (er d) m with
      |none=>rfl
      |some q =>
       obtain⟨x,r⟩:=q;have:=fU hrl hp;simp only;rw[vP hrl m.length (r.length+1) r (by omega) (by omega)]
     refine aA rfl ?_;refine G.block rfl rfl ?_;refine G.bV func145 rfl ?_;refine aV 2 rfl ?_;refine xo rfl (aj (vs:=[_]) func151 rfl H.Js rfl (ah.jv (y9 ih (hg.ext e5 (fun b (hb:b=rb)=>by omega)) hrb hs5 (by omega) (by omega)) ((fun _ _ ⟨hc,hp,hx⟩=>dX hc (by rw[hrow,hcon',hp];rfl) (e5.trans hx))))) ?_;rintro _ h6 ⟨x,r,hp,⟨w,rfl,hnd6⟩,hs6,hx6⟩;have hr6:=fU hrl hp;have hz6:=hx6.size;have hown:∀b,v.ownBlock=some b->h1.size<=b/\b<h5.size:=fun b hb=>hc2.lt hb
     have hc26:=hc2.ext hx6 (fun b hb (k:b=rb)=>by have:=hown b hb;omega);have hc36:∀(i:Nat) (cs:List Value) (x:Nd),css[i]? =some cs->acc[i]? =some x->rF.R h6 (fun b=>dn v.ownBlock b\/b<h1.size) cs x:=fun i cs x h1' h2'=>rF.mv (hc3 i cs x h1' h2') (Mv.eE hx6 fun b hb hn=>⟨fun(k:b=rb)=>hn (.inr (by show b<_;omega)),hn⟩)
     have hnd6':rF.R h6 (fun b=>dn v.ownBlock b\/b<h1.size) (dV x.kind x.set w) x:=b6.mv hnd6 ⟨Nat.le_refl _,fun b hb hn=>⟨rfl,fun k=>by
      have hn:¬b<h5.size:=hn
      rcases k with k|k
      · have:=hown b k.symm;omega
      · omega⟩⟩
     refine xo rfl (av.gD (cs:=[_,_,_,_,_,_]) underlying141 H.uq rfl rfl (by decide)) ?_;rintro _ _ ⟨rfl,rfl⟩;refine xo rfl (av.cH underlying141 H.uq rfl rfl (hc26) rfl rfl (b6.one hnd6) (by omega) (by decide) (by omega)) ?_;rintro v7 h7 ⟨ho7,hx7,-,hv7⟩;refine aS 1 [0,2,3,24] rfl ?_;refine G.aT ?_;have hrb7:¬dn v.ownBlock rb:=fun k=>by have:=hown rb k.symm;omega
     have hr7:¬dn v.ownBlock h.size:=fun k=>by have:=hown _ k.symm;omega
     have e7:Ext (only rb) h h7:=⟨by have:=hx7.size;omega,fun b hb hn=>by rw[hx7.block b (by omega) (fun k=>by have:=hown b k.symm;omega)];exact(e5.trans hx6).block b hb hn⟩
     rw[hp] at hcon';exact ih' (acc++[x],v7,r) _ _ ⟨rfl,rfl,rfl,trivial⟩ ⟨br.ext hs6 hx7 hrb7,gO.om hc1 hc36 ho7 hx7 hv7 hnd6',(hkr5.ext hx6 (by show ¬_=_;omega)).ext hx7 hr7,e7,by show r.length+(acc++[x]).length<=_;rw[List.length_append,List.length_singleton];omega,by rw[hcon'];simp only[Option.map_map];congr 1;funext p;simp⟩ (by show r.length<m.length;omega)
   · have hend:jK m=true:=by simpa using hgo
     rw[l9,if_pos hend] at hcon;have hsl:cn rF h5 (Cw h1.size) v acc:=hv5.read (fun b hb (k:b<h1.size)=>by omega) (fun b _ k=>k);refine bN rfl rfl ?_;refine bB func145 1 rfl ?_;refine xo rfl (aj (vs:=[_,_]) func147 rfl H.Ho rfl (ah.aX (pY 2 hsl))) ?_;rintro _ h6 ⟨⟨w,rfl,hnd6⟩,he6⟩;refine RW.bh rfl rfl rfl (av.an H.b9 rfl rfl (hkr5.ax he6) (by first|rfl|(simp;done)|(simp;omega)) (by first|decide|exact of_decide_eq_true rfl|(simp;done)|(simp;omega)) (b6.one hnd6)) ?_;rintro _ h7 ⟨rfl,hk7,hx7,hz7⟩;refine xd [0,2,3,24] rfl ?_;have hk7:br h7 h.size 143 (dV (cD 2 acc).kind (cD 2 acc).set w):=hk7;have hz6:=he6.size;refine G.bq func145 rfl (.cons (aL.bn H.eN H.b9 rfl (hk7.row) (by first|rfl|(simp;done)|(simp;omega))) (.nil)) ?_;exact⟨cD 2 acc,m,by rw[hrow,<-hcon];simp,⟨w,rfl,gH hnd6 (by omega) hx7 (fun b _ (hb:b=h.size)=>by omega)⟩,br.ext (br.ax hs5 he6) hx7 (by show ¬_=_;omega),jy.only (jy.ax e5 he6) hx7 (Nat.le_refl _)⟩
theorem C5 (ih:uN d lim) (hg:Sg h lim) (hrb:lim<=rb) (hs:St h rb l) (hd:l.length<=d) (hl:l.length<=1000000):ah Tryz.prog 134 #[yq rb] h (PR rb h (er (d+1) l) (BQ h.size)):=by
 have hlt:=hs.lt;have hrl:∀{s x r},er d s=some (x,r)->r.length<=s.length:=fun h=>j9 d h
 have hrows:er (d+1) l=match xj (er d) l with|none=>none|some (x,r)=>rM (er d) [x] r:=sP hrl [] l
 refine ah.of func134 rfl rfl ?_;refine xr func134 rfl ?_;refine xo rfl (av.aW H.jT) ?_;rintro _ h1 ⟨rfl,hkr,he1,hz1⟩;refine xd [0,2] rfl ?_;refine bB func134 1 rfl ?_;refine xo rfl (aj (vs:=[_]) func145 rfl H.Hp rfl (ah.jv (vO ih (hg.ext he1 (fun _ k=>k.elim)) hrb (br.ax hs he1) hd hl) ((fun _ _ ⟨hc,hp,hx⟩=>dX hc (by rw[hrows,hp]) ((aD.of he1).trans hx))))) ?_;rintro _ h2 ⟨x0,m0,hp0,⟨w0,rfl,hnd2⟩,hs2,hx2⟩;have hkr:br h1 h.size 143 (dV 0 0 (.slice none 0 0)):=hkr;have hz2:=hx2.size;have hm0:=yS hrl hp0;have ep:=Ext.push (fun _=>False) h2 (.cells (dV x0.kind x0.set w0).toArray 143);have hv0:gO rF (Cw h1.size) (h2.push (.cells (dV x0.kind x0.set w0).toArray 143)) h1.size 143 (.slice (some ⟨h2.size,0,none⟩) 1 1) [x0]:=gO.pO (e:=rF) hnd2 hz2;have hs3:St _ rb m0:=br.ax hs2 ep;have hkr3:=(hkr.ext hx2 (by show ¬_=_;omega)).ax ep;have e3:=jy.ax ((aD.of he1).trans hx2) ep;rw[hp0] at hrows;simp only at hrows;generalize htg:rM (er d) [x0] m0=tgt at hrows;refine xo rfl (av.gD (cs:=[_,_,_,_,_,_]) underlying141 H.uq rfl rfl (by decide)) ?_;rintro _ _ ⟨rfl,rfl⟩;refine aS 1 [0,2,3] rfl ?_;refine au rfl ?_;refine G.block rfl rfl ?_;refine bT (σ:=List Nd×Value×By) (fun q=>[(0,yq rb),(2,.pointer (some ⟨h.size,0,none⟩)),(3,q.2.1)]) (fun q h'=>St h' rb q.2.2/\gO rF (Cw h1.size) h' h1.size 143 q.2.1 q.1/\br h' h.size 143 (dV 0 0 (.slice none 0 0))/\Ext (only rb) h h'/\(q.2.2.length<=l.length/\q.2.2.length+q.1.length<=l.length+1)/\rM (er d) q.1 q.2.2=tgt) (fun q=>q.2.2.length) (([x0],.slice (some ⟨h2.size,0,none⟩) 1 1,m0)) rfl ⟨rfl,rfl,rfl,trivial⟩ ⟨hs3,hv0,hkr3,e3,⟨by show m0.length<=_;omega,by show m0.length+1<=_;omega⟩,htg⟩ ?_;rintro⟨acc,v,m⟩ h5 ⟨hs5,hv5,hkr5,e5,⟨hml,hm⟩,hcon⟩ ih'
 try dsimp only
 dsimp only at hs5 hv5 hml hm hcon;refine au rfl ?_;refine bB func134 1 rfl ?_;refine xo rfl (aj (vs:=[_,_]) func146 rfl H.Cf rfl (ah.aX (kL 124 hs5 (by omega)))) ?_;rintro _ h6 ⟨hor,hx6⟩;refine xd [0,2,3,8] rfl ?_;have hlt5:=hkr5.lt;have hz5:=e5.size;have hz6:=hx6.size;have hkr6:=hkr5.ext hx6 (by show ¬_=_;omega);have e6:=e5.trans hx6;have hv6:gO rF (Cw h1.size) h6 h1.size 143 v acc:=hv5.mv (hx6.mono fun b _ (k:b=rb)=>(by omega:b<h1.size)) (fun b hb (k:b<h1.size)=>by omega) (fun b _ k=>k);obtain⟨css,hc1,hc2,hc3⟩:=id hv6
 rcases hor with ⟨a1,rfl,hs6⟩|⟨a1,rfl,hs6⟩
 · obtain⟨c,t,rfl⟩:=List.exists_cons_of_ne_nil (fun(e:m=[])=>by rw[e] at a1;cases a1);have hs6:St h6 rb t:=hs6;simp only[List.length_cons] at hm hml
   have hcon':tgt=match xj (er d) t with|none=>none|some (x,r)=>rM (er d) (acc++[x]) r:=by
    have hG:=sP (rows:=er d) hrl acc t;rw[<-hcon];refine Eq.trans ?_ hG;unfold rM;rw[if_pos a1];rfl
   refine aO rfl rfl (fun _=>?_) (fun hc=>absurd hc (by decide));refine aA rfl ?_;refine G.block rfl rfl ?_;refine G.bV func134 rfl ?_;refine aV 2 rfl ?_;refine xo rfl (aj (vs:=[_]) func145 rfl H.Hp rfl (ah.jv (vO ih (hg.ext e6 (fun b (hb:b=rb)=>by omega)) hrb hs6 (by omega) (by omega)) ((fun _ _ ⟨hc,hp,hx⟩=>dX hc (by rw[hrows,hcon',hp]) (e6.trans hx))))) ?_;rintro _ h7 ⟨x,r,hp,⟨w,rfl,hnd7⟩,hs7,hx7⟩;have hr7:=yS hrl hp;have hz7:=hx7.size;have hown:∀b,v.ownBlock=some b->h1.size<=b/\b<h6.size:=fun b hb=>hc2.lt hb
   have hc27:=hc2.ext hx7 (fun b hb (k:b=rb)=>by have:=hown b hb;omega);have hc37:∀(i:Nat) (cs:List Value) (x:Nd),css[i]? =some cs->acc[i]? =some x->rF.R h7 (fun b=>dn v.ownBlock b\/b<h1.size) cs x:=fun i cs x h1' h2'=>rF.mv (hc3 i cs x h1' h2') (Mv.eE hx7 fun b hb hn=>⟨fun(k:b=rb)=>hn (.inr (by show b<_;omega)),hn⟩)
   have hnd7':rF.R h7 (fun b=>dn v.ownBlock b\/b<h1.size) (dV x.kind x.set w) x:=b6.mv hnd7 ⟨Nat.le_refl _,fun b hb hn=>⟨rfl,fun k=>by
    have hn:¬b<h6.size:=hn
    rcases k with k|k
    · have:=hown b k.symm;omega
    · omega⟩⟩
   refine xo rfl (av.gD (cs:=[_,_,_,_,_,_]) underlying141 H.uq rfl rfl (by decide)) ?_;rintro _ _ ⟨rfl,rfl⟩;refine xo rfl (av.cH underlying141 H.uq rfl rfl (hc27) rfl rfl (b6.one hnd7) (by omega) (by decide) (by omega)) ?_;rintro v8 h8 ⟨ho8,hx8,-,hv8⟩;refine aS 1 [0,2,3,8] rfl ?_;refine G.aT ?_;have hrb8:¬dn v.ownBlock rb:=fun k=>by have:=hown rb k.symm;omega
   have hr8:¬dn v.ownBlock h.size:=fun k=>by have:=hown _ k.symm;omega
   have e8:Ext (only rb) h h8:=⟨by have:=hx8.size;omega,fun b hb hn=>by rw[hx8.block b (by omega) (fun k=>by have:=hown b k.symm;omega)];exact(e6.trans hx7).block b hb hn⟩
   rw[hp] at hcon';exact ih' (acc++[x],v8,r) _ _ ⟨rfl,rfl,rfl,trivial⟩ ⟨br.ext hs7 hx8 hrb8,gO.om hc1 hc37 ho8 hx8 hv8 hnd7',(hkr6.ext hx7 (by show ¬_=_;omega)).ext hx8 hr8,e8,⟨by show r.length<=_;omega,by show r.length+(acc++[x]).length<=_;rw[List.length_append,List.length_singleton];omega⟩,hcon'.symm⟩ (by show r.length<(c::t).length;simp only[List.length_cons];omega)
 · refine aO rfl rfl (fun hc=>absurd hc (by decide)) (fun _=>?_);have hsl:cn rF h6 (Cw h1.size) v acc:=hv6.read (fun b hb (k:b<h1.size)=>by omega) (fun b _ k=>k);have hfin:tgt=some (cD 3 acc,m):=by rw[<-hcon];unfold rM;rw[if_neg a1]
   refine bN rfl rfl ?_;refine bB func134 1 rfl ?_;refine xo rfl (aj (vs:=[_,_]) func147 rfl H.Ho rfl (ah.aX (pY 3 hsl))) ?_;rintro _ h7 ⟨⟨w,rfl,hnd7⟩,he7⟩;refine RW.bh rfl rfl rfl (av.an H.b9 rfl rfl (hkr6.ax he7) (by first|rfl|(simp;done)|(simp;omega)) (by first|decide|exact of_decide_eq_true rfl|(simp;done)|(simp;omega)) (b6.one hnd7)) ?_;rintro _ h8 ⟨rfl,hk8,hx8,hz8⟩;refine xd [0,2,3,8] rfl ?_;have hk8:br h8 h.size 143 (dV (cD 3 acc).kind (cD 3 acc).set w):=hk8;have hz7:=he7.size;refine G.bq func134 rfl (.cons (aL.bn H.eN H.b9 rfl (hk8.row) (by first|rfl|(simp;done)|(simp;omega))) (.nil)) ?_;exact⟨cD 3 acc,m,by rw[hrows,hfin],⟨w,rfl,gH hnd7 (by omega) hx8 (fun b _ (hb:b=h.size)=>by omega)⟩,br.ext (br.ax hs6 he7) hx8 (by show ¬_=_;omega),jy.only (jy.ax e6 he7) hx8 (Nat.le_refl _)⟩
theorem B9 (lim:Nat):∀d,uN d lim
 | 0=>fun _ _ l _ _ _ h _=>absurd h (Nat.not_lt_zero _)
 |d+1=>fun _ _ _ hg hrb hs hd hl=>C5 (B9 lim d) hg hrb hs (by omega) hl
end
end Go.Proofs.YtiigijehmmcfgaaGreatDoor
namespace Go.Proofs.YtiigijehmmcfgaaGreatDoor
open Go.Proofs.Tryz
open Go Go.Lw Go.RowKit
set_option maxRecDepth 20000
section
variable {h:ay}{nb eb:Nat}
abbrev vB:List Value:=dV 0 0 (.slice none 0 0)
theorem BG {cs:List Value}{v0:Value}(hcs:cs.length=6) (hk:br h nb 143 cs) (he:br h eb 113 [v0]) (hne:nb≠eb) (B w:World) (ha:At B h w) :
 CallsD Tryz.prog 133 #[.pointer (some ⟨nb,0,none⟩),.pointer (some ⟨eb,0,none⟩)] (.panicking [{ v:=sX,recovered:=false }]) w fun e u' w' =>
  (∃r,e= .returned r)/\u'= .panicking [{ v:=sX,recovered:=true }]/\∃h',At B h' w'/\br h' nb 143 vB/\br h' eb 113 [.int .i64 10]/\Ext (fun b=>b=nb\/b=eb) h h':=by
 refine mN (v:=sX) (vs:=[.pointer (some ⟨nb,0,none⟩),.pointer (some ⟨eb,0,none⟩)]) (u':=.panicking [{ v:=sX,recovered:=true }]) func133 rfl rfl rfl rfl rfl rfl rfl rfl rfl rfl (fun c₀ cs hu=>.inl (by simp[recoverD,hu])) (fun a hf=>?_);refine wp_seq (wp_region ?_);refine(show RW Tryz.prog Tryz.f133.ntmps _ 0 _ h (fun ρ' h'=>h'=h/\Sub [(5,.bool true),(2,sX),(0,.pointer (some ⟨nb,0,none⟩)),(1,.pointer (some ⟨eb,0,none⟩))] ρ') (fun _ _=>False) from ?_) B a w hf ha _ ?_ (fun _ _ _ _ _ _ k=>k.elim)
 · refine cx 1 rfl rfl (ak.zj underlying20 rfl (.inr ⟨_,_,rfl⟩)) ?_;exact aC rfl ⟨rfl,rfl,rfl,rfl,rfl,trivial⟩
 rintro ρ' h' a1 w1 hf1 ha1 ⟨rfl,hsub⟩;have hf1:=hf1.sub hsub;refine wp_cond_true (hf1.eval (x:=.tmp 5) rfl) ?_;refine wp_seq (wp_region ?_);refine(show RW Tryz.prog Tryz.f133.ntmps _ 0 _ h' (fun ρ' g=>g=h'/\Sub [(0,.pointer (some ⟨nb,0,none⟩)),(1,.pointer (some ⟨eb,0,none⟩))] ρ') (fun _ _=>False) from ?_) B a1 w1 hf1 ha1 _ ?_ (fun _ _ _ _ _ _ k=>k.elim)
 · refine cx 1 rfl rfl (ak.uX underlying179 rfl) ?_;exact aC rfl ⟨rfl,rfl,rfl,trivial⟩
 rintro ρ'' h'' a2 w2 hf2 ha2 ⟨rfl,hsub2⟩;have hf2:=hf2.sub hsub2;refine wp_region ?_;refine(show RW Tryz.prog Tryz.f133.ntmps _ 0 _ h'' (fun _ g=>br g nb 143 vB/\br g eb 113 [.int .i64 10]/\Ext (fun b=>b=nb\/b=eb) h'' g) (fun _ _=>False) from ?_) B a2 w2 hf2 ha2 _ ?_ (fun _ _ _ _ _ _ k=>k.elim)
 · refine xp rfl (aP (H.BM ) rfl) ?_;refine RW.bh rfl rfl rfl (av.an H.b9 rfl rfl hk rfl (by rw[hcs];decide) (by first|decide|simp[Value.oneCell'])) ?_;rintro _ h3 ⟨rfl,hk3,hx3,hz3⟩
   have hk3:br h3 nb 143 vB:=by
    rw[EI (by rw[hcs];rfl)] at hk3;exact hk3
   refine RW.bh rfl rfl rfl (av.aE H.Et rfl rfl (he.ext hx3 (fun e=>hne e.symm)) (by simp) rfl) ?_;rintro _ h4 ⟨rfl,hk4,hx4,hz4⟩;exact aC rfl ⟨hk3.ext hx4 (fun e=>hne e),hk4,(hx3.mono fun _ _ k=>.inl k).trans (hx4.mono fun _ _ k=>.inr k)⟩
 rintro _ h5 a5 w5 hf5 ha5 ⟨hq1,hq2,hq3⟩;exact⟨hf5.nd,_,iy hf5 ha5 .nil,⟨_,rfl⟩,rfl,h5,ha5,hq1,hq2,hq3⟩
theorem BH (B w:World) (ha:At B h w) :
 CallsD Tryz.prog 133 #[.pointer (some ⟨nb,0,none⟩),.pointer (some ⟨eb,0,none⟩)] .returning w fun e u' w'=>(∃r,e= .returned r)/\u'= .returning/\At B h w':=by
 refine mN (v:=.nilIface) (vs:=[.pointer (some ⟨nb,0,none⟩),.pointer (some ⟨eb,0,none⟩)]) (u':=.returning) func133 rfl rfl rfl rfl rfl rfl rfl rfl rfl rfl (fun c₀ cs hu=>.inr ⟨by simp[recoverD,hu],rfl,rfl⟩) (fun a hf=>?_);refine wp_seq (wp_region ?_);refine(show RW Tryz.prog Tryz.f133.ntmps _ 0 _ h (fun ρ' h'=>h'=h/\Sub [(5,.bool false)] ρ') (fun _ _=>False) from ?_) B a w hf ha _ ?_ (fun _ _ _ _ _ _ k=>k.elim)
 · refine cx 1 rfl rfl (ak.zj underlying20 rfl (.inl rfl)) ?_;exact aC rfl ⟨rfl,rfl,trivial⟩
 rintro ρ' h' a1 w1 hf1 ha1 ⟨rfl,hsub⟩;have hf1:=hf1.sub hsub;refine wp_cond_false (hf1.eval (x:=.tmp 5) rfl) (wp_skip ?_);exact⟨hf1.nd,_,iy hf1 ha1 .nil,⟨_,rfl⟩,rfl,ha1⟩
theorem tF {cs:List Value}{v0:Value}{ρ:Env}{R:Ending->ay->Prop}(h2:ρ.at 2=some (.pointer (some ⟨nb,0,none⟩))) (h3:ρ.at 3=some (.pointer (some ⟨eb,0,none⟩))) (hcs:cs.length=6) (hk:br h nb 143 cs) (he:br h eb 113 [v0]) (hne:nb≠eb)
 (hR:∀h',Ext (fun b=>b=nb\/b=eb) h h'->R (.returned (.tuple #[.agg vB.toArray,.int .i64 10])) h') :
 nD Tryz.prog f113 [{ target:=.fn (.func 133) #[.pointer (some ⟨nb,0,none⟩),.pointer (some ⟨eb,0,none⟩)],args:= #[] }] (.panicking [{ v:=sX,recovered:=false }]) ρ h R:=by
 intro B a w hf ha;refine leaves_cons (f:=133) (args:= #[.pointer (some ⟨nb,0,none⟩),.pointer (some ⟨eb,0,none⟩)]) (by simp) (nN func133 rfl (by decide +kernel)) ?_;refine(BG hcs hk he hne B w ha).mono ?_;rintro e u' w' ⟨⟨r,rfl⟩,rfl,h',ha',hk',he',hx'⟩;refine⟨_,iy hf.zero ha' (.cons (aL.bn H.eN H.b9 h2 hk'.row rfl) (.cons (aL.cell H.FM h3 (he'.cell (i:=0) rfl)) .nil)),h',ha',hR h' hx'⟩
theorem Bk {x:Nd}{w0:Value}{e0:Int}{ρ:Env}{R:Ending->ay->Prop}(h2:ρ.at 2=some (.pointer (some ⟨nb,0,none⟩))) (h3:ρ.at 3=some (.pointer (some ⟨eb,0,none⟩))) (hk:br h nb 143 (dV x.kind x.set w0)) (he:br h eb 113 [.int .i64 e0])
 (hR:R (.returned (.tuple #[.agg (dV x.kind x.set w0).toArray,.int .i64 e0])) h) :
 nD Tryz.prog f113 [{ target:=.fn (.func 133) #[.pointer (some ⟨nb,0,none⟩),.pointer (some ⟨eb,0,none⟩)],args:= #[] }] .returning ρ h R:=by
 intro B a w hf ha;refine leaves_cons (f:=133) (args:= #[.pointer (some ⟨nb,0,none⟩),.pointer (some ⟨eb,0,none⟩)]) (by simp) (nN func133 rfl (by decide +kernel)) ?_;refine(BH B w ha).mono ?_;rintro e u' w' ⟨⟨r,rfl⟩,rfl,ha'⟩;refine⟨_,iy hf.zero ha' (.cons (aL.bn H.eN H.b9 h2 hk.row rfl) (.cons (aL.cell H.FM h3 (he.cell (i:=0) rfl)) .nil)),h,ha',hR⟩
def II (h h':ay) (s:By) (r:Value):Prop:=∃w,r= .tuple #[.agg (dV (bY s).1.kind (bY s).1.set w).toArray,.int .i64 (bY s).2]/\b6 h' (Cw h.size) (dV (bY s).1.kind (bY s).1.set w) (bY s).1
theorem zb {lim:Nat}(hg:Sg h lim) (hlim:lim<=h.size) (s:By) (hs:s.length<=1000000):ah Tryz.prog 113 #[.string (bs s)] h (bX fun r h'=>II h h' s r/\aD h h'):=by
 have hsz:=aZ s;refine ah.of func113 rfl rfl ?_;refine xr func113 rfl ?_;refine xo rfl (av.aW H.jT) ?_;rintro _ h1 ⟨rfl,hk1,he1,hz1⟩;refine xo rfl (av.aW H.IW) ?_;rintro _ h2 ⟨rfl,hk2,he2,hz2⟩;refine xd [0,2,3] rfl ?_;refine au rfl ?_;refine bB func113 1 rfl ?_;refine xp rfl (ak.bp underlying9 rfl) ?_;refine aS 1 [0,2,3,7] rfl ?_;have hk1:br h1 h.size 143 vB:=hk1;have hk2:br h2 h1.size 113 [.int .i64 0]:=hk2;have hk12:=hk1.ax he2;have e2:=he1.trans he2;refine aG rfl rfl (fun hbig=>?_) (fun hbig=>?_)
 · have hE:bY s=(nB,3):=by unfold bY;rw[if_pos (by omega)]
   refine xr func113 rfl ?_;refine xp rfl (aP (H.BM ) rfl) ?_;refine RW.bh rfl rfl rfl (av.an H.b9 rfl rfl hk12 (by first|rfl|(simp;done)|(simp;omega)) (by first|decide|exact of_decide_eq_true rfl|(simp;done)|(simp;omega)) (by first|decide|simp[Value.oneCell'])) ?_;rintro _ h3 ⟨rfl,hk3,hx3,hz3⟩;refine RW.bh rfl rfl rfl (av.aE H.Et rfl rfl (hk2.ext hx3 (by show ¬_=_;omega)) (by first|decide|exact of_decide_eq_true rfl|(simp;done)|(simp;omega)) rfl) ?_;rintro _ h4 ⟨rfl,hk4,hx4,hz4⟩;refine xd [0,2,3,7] rfl ?_;have hk3:br h3 h.size 143 vB:=hk3;have hk4:br h4 h1.size 113 [.int .i64 3]:=hk4;refine G.bq func113 rfl (.cons (aL.bn H.eN H.b9 rfl ((hk3.ext hx4 (by show ¬_=_;omega)).row) (by first|rfl|(simp;done)|(simp;omega))) (.cons (aL.cell H.FM rfl (hk4.cell (i:=0) rfl)) (.nil))) ?_;refine⟨_,rfl,⟨.slice none 0 0,by rw[hE];rfl,by rw[hE];exact fu _ _ 0 0⟩,aD.only (aD.only e2 hx3 (Nat.le_refl _)) hx4 (by omega)⟩
 · refine aA rfl ?_;refine au rfl ?_;refine G.Iv (caps:=[.pointer (some ⟨h.size,0,none⟩),.pointer (some ⟨h1.size,0,none⟩)]) func113 rfl rfl rfl rfl rfl rfl rfl rfl rfl rfl rfl ?_;have hE:bY s=match jM s with|some x=>(x,0)|none=>(nB,10):=by unfold bY;rw[if_neg (by omega)];rfl
   refine oX rfl ?_;refine GD.bV func113 rfl ?_;refine ju.aU rfl rfl rfl rfl (bS rfl) ?_;refine ju.aU rfl rfl rfl rfl (aP (H.GG _) rfl) ?_;refine ju.D7 rfl rfl rfl rfl (av.cR rfl) ?_;rintro _ h3 ⟨rfl,hk3,he3,hz3⟩;refine ju.aU rfl rfl rfl rfl (ak.assign rfl) ?_;refine kG rfl ?_;refine GD.sub (ρ':=[(0,_),(2,_),(3,_),(4,_),(7,_)]) ⟨rfl,rfl,rfl,rfl,rfl,trivial⟩ ?_;refine oX rfl ?_;refine GD.bV func113 rfl ?_;refine ju.aU rfl rfl rfl rfl (bS rfl) ?_;have hk3:br h3 h2.size 182 [.string (bs s)]:=hk3;have hg3:Sg h3 lim:=hg.ext (e2.trans he3) (fun _ k=>k.elim);have hrows:=B9 lim (s.length+1) h3 h2.size s hg3 (by omega) hk3 (Nat.lt_succ_self _) hs;have hk13:=hk12.ax he3;have hk23:=hk2.ax he3;have e3:=e2.trans he3;refine ju.D7 rfl rfl rfl rfl (aj (vs:=[_]) func134 rfl H.Ht rfl (ah.jv (hrows) ((fun _ h' ⟨hc,hp,hx⟩=>by rw[hc];exact tF rfl rfl rfl (hk13.ext hx (by show ¬_=_;omega)) (hk23.ext hx (by show ¬_=_;omega)) (by omega) (fun h'' hx2=>⟨_,rfl,⟨.slice none 0 0,by rw[hE];unfold jM;rw[hp];rfl,by rw[hE];unfold jM;rw[hp];exact fu _ _ 0 0⟩,⟨by have:=hx.size;have:=hx2.size;have:=e3.size;omega,fun b hb _=>by rw[hx2.block b (by have:=hx.size;omega) (by omega),hx.block b (by omega) (by show ¬_=_;omega)];exact e3.block b hb (fun k=>k)⟩⟩))))) ?_;rintro _ h4 ⟨x,r,hp,⟨w,rfl,hnd⟩,hs4,hx4⟩;have hz4:=hx4.size;have hk14:=hk13.ext hx4 (by show ¬_=_;omega);have hk24:=hk23.ext hx4 (by show ¬_=_;omega);have e4:aD h h4:=aD.only e3 hx4 (by omega);refine ju.bh rfl rfl rfl (av.an H.b9 rfl rfl hk14 (by first|rfl|(simp;done)|(simp;omega)) (by first|decide|exact of_decide_eq_true rfl|(simp;done)|(simp;omega)) (b6.one hnd)) ?_;rintro _ h5 ⟨rfl,hk5,hx5,hz5⟩;refine kG rfl ?_;refine GD.sub (ρ':=[(0,_),(2,_),(3,_),(4,_),(7,_)]) ⟨rfl,rfl,rfl,rfl,rfl,trivial⟩ ?_;refine oX rfl ?_;refine oX rfl ?_;refine GD.bV func113 rfl ?_;refine ju.aU rfl rfl rfl rfl (bS rfl) ?_;refine ju.aU rfl rfl rfl rfl (cB rfl) ?_;refine ju.aU rfl rfl rfl rfl (aa (off:=0) underlying182 rfl rfl H.ct rfl) ?_;have hk5:br h5 h.size 143 (dV x.kind x.set w):=hk5;have hk25:=hk24.ext hx5 (by show ¬_=_;omega);have hs5:St h5 h2.size r:=br.ext hs4 hx5 (by show ¬_=_;omega);have hnd5:b6 h5 (Cw h3.size) (dV x.kind x.set w) x:=gH hnd (Nat.le_refl _) hx5 (fun b _ (hb:b=h.size)=>by omega);have e5:=aD.only e4 hx5 (Nat.le_refl _);refine ju.aU rfl rfl rfl rfl (af H.cT rfl hs5.cell) ?_;refine ju.aU rfl rfl rfl rfl (ak.mq rfl rfl) ?_;refine kG rfl ?_;refine GD.sub (ρ':=[(0,_),(2,_),(3,_),(4,_),(7,_),(19,_)]) ⟨rfl,rfl,rfl,rfl,rfl,rfl,trivial⟩ ?_;refine IL rfl rfl (fun hr=>?_) (fun hr=>?_)
   · have hr:r≠[]:=fun e=>hr (by rw[e];rfl)
     have hpn:jM s=none:=by
      unfold jM;rw[hp];cases r with
      |nil=>exact absurd rfl hr
      |cons c t=>rfl
     refine GD.bV func113 rfl ?_;refine ju.aU rfl rfl rfl rfl (aP (H.gX ) rfl) ?_;refine ju.aU rfl rfl rfl rfl (bK H.kC rfl) ?_;refine ju.bh rfl rfl rfl (dB (Φ:=fun _ _=>False) rfl (tF rfl rfl rfl hk5 hk25 (by omega) (fun h'' hx2=>⟨_,rfl,⟨.slice none 0 0,by rw[hE,hpn];rfl,by rw[hE,hpn];exact fu _ _ 0 0⟩,⟨by have:=hx2.size;have:=e5.size;omega,fun b hb _=>by rw[hx2.block b (by have:=e5.size;omega) (by omega)];exact e5.block b hb (fun k=>k)⟩⟩))) ?_;rintro _ _ hpn;exact hpn.elim
   · obtain rfl:r=[]:=gE (Classical.not_not.1 hr);have hpn:jM s=some x:=by unfold jM;rw[hp]
     refine GZ rfl ?_;refine oX rfl ?_;refine GD.bV func113 rfl ?_;refine ju.aU rfl rfl rfl rfl (ak.aq H.eN H.b9 rfl hk5.row (by first|rfl|(simp;done)|(simp;omega))) ?_;refine ju.bh rfl rfl rfl (av.an H.b9 rfl rfl hk5 (by first|rfl|(simp;done)|(simp;omega)) (by first|decide|exact of_decide_eq_true rfl|(simp;done)|(simp;omega)) (b6.one hnd5)) ?_;rintro _ h6 ⟨rfl,hk6,hx6,hz6⟩;refine ju.bh rfl rfl rfl (av.aE H.Et rfl rfl (hk25.ext hx6 (by show ¬_=_;omega)) (by first|decide|exact of_decide_eq_true rfl|(simp;done)|(simp;omega)) rfl) ?_;rintro _ h7 ⟨rfl,hk7,hx7,hz7⟩;refine kG rfl ?_;refine GD.sub (ρ':=[(0,_),(2,_),(3,_),(4,_),(7,_),(19,_)]) ⟨rfl,rfl,rfl,rfl,rfl,rfl,trivial⟩ ?_;have hk6:br h6 h.size 143 (dV x.kind x.set w):=hk6;have hk7:br h7 h1.size 113 [.int .i64 0]:=hk7;have hk17:=hk6.ext hx7 (by show ¬_=_;omega);have e7:=aD.only (aD.only e5 hx6 (Nat.le_refl _)) hx7 (by omega);have hnd7:b6 h7 (Cw h.size) (dV x.kind x.set w) x:=gH (gH hnd5 (Nat.le_refl _) hx6 (fun b _ (hb:b=h.size)=>by omega)) (by omega) hx7 (fun b _ (hb:b=h1.size)=>by omega);refine IK func113 rfl ?_;exact Bk rfl rfl hk17 hk7 ⟨_,rfl,⟨w,by rw[hE,hpn],by rw[hE,hpn];exact hnd7⟩,e7⟩
end
end Go.Proofs.YtiigijehmmcfgaaGreatDoor
namespace Go.Proofs.YtiigijehmmcfgaaGreatDoor
open Go.Proofs.Tryz
open Go Go.Lw
set_option maxRecDepth 20000
section
variable {h h':ay}{O:Nat->Prop}{v w:Value}{nb st n i:Nat}{ss:List bR}{x:bR}{rules:List By}{todo:List Nat}{seen:List Bool}
def cZ (n:Nat):Value:=.int .i64 (n:Nat)
def gI:iM Nat:=.flat cZ fun _=>rfl
def CW (k s:Nat) (v:Value) (r:Nat):List Value:=[.int .i64 (k:Nat),eK s 0,eK s 1,eK s 2,eK s 3,v,.int .i64 (r:Nat)]
def FQ (h:ay) (O:Nat->Prop) (cs:List Value) (x:bR):Prop:=∃v,cs=CW x.kind x.set v x.rule/\cn gI h O v x.to
theorem cn.HB {α:Type}{e:iM α}{xs:List α}(k:cn e h O v xs):v.oneCell'=true:=by
 obtain⟨oa,n,c,rfl,_⟩:=k;rfl
def DI:iM bR:=⟨7,by decide,FQ,fun h=>by obtain⟨v,rfl,_⟩:=h;rfl,fun h=>by
 obtain⟨v,rfl,hv⟩:=h;intro u hu;simp[CW,eK] at hu
 rcases hu with rfl|rfl|rfl|rfl|rfl|rfl|rfl<;>first|rfl|exact cn.HB hv,fun h m=>by
 obtain⟨v,hc,hv⟩:=h;exact⟨v,hc,hv.mv m⟩⟩
structure cu (h:ay) (O:Nat->Prop) (nb:Nat) (v:Value) (ss:List bR) (st:Nat):Prop where
 blk:br h nb 139 [v,.int .i64 (st:Nat)]
 row:gO DI (fun b=>b=nb\/O b) h (nb+1) 149 v ss
abbrev eI (nb:Nat) (v:Value):Nat->Prop:=fun b=>b=nb\/dn v.ownBlock b
theorem cu.own (k:cu h O nb v ss st):∀b,v.ownBlock=some b->nb<b/\b<h.size:=fun b hb=>by
 obtain⟨css,_,h2,_⟩:=k.row;have:=h2.lt hb;omega
theorem cu.ext {M:Nat->Prop}{O O':Nat->Prop}{h h':ay}{nb:Nat}{v:Value}{ss:List bR}{st:Nat}(k:cu h O nb v ss st) (e:Ext M h h') (hnb:¬M nb) (hown:∀b,v.ownBlock=some b->¬M b) (hM:∀b,b<h.size->M b->O b) (hO:∀b,b<h.size->O' b->O b):cu h' O' nb v ss st :=
 ⟨k.blk.ext e hnb,k.row.D8 e hown (fun b hb hm=>.inr (hM b hb hm)) (fun b hb k=>k.imp id (hO b hb))⟩
theorem cu.ax {O':Nat->Prop}(k:cu h O nb v ss st) (e:aD h h') (hO:∀b,b<h.size->O' b->O b):cu h' O' nb v ss st:=k.ext e (fun k=>k) (fun _ _ k=>k) (fun _ _ k=>k.elim) hO
theorem D2 (hn:cu h O nb v ss st) (_hO:∀b,O b->b<h.size) (hx:FQ h (fun b=>eI nb v b\/O b) (CW x.kind x.set w x.rule) x) (hl:ss.length<=1000000) :
 ah Tryz.prog 115 #[.pointer (some ⟨nb,0,none⟩),.agg (CW x.kind x.set w x.rule).toArray] h (bX fun r h'=>∃v',r= .int .i64 (ss.length:Nat)/\cu h' O nb v' (ss++[x]) st/\Ext (eI nb v) h h'/\(∀b,v'.ownBlock=some b->v.ownBlock=some b\/h.size<=b)):=by
 have hw1:∀u∈CW x.kind x.set w x.rule,u.oneCell'=true:=DI.one hx;refine ah.of func115 rfl rfl ?_;refine xr func115 rfl ?_;refine xo rfl (av.cR rfl) ?_;rintro _ h1 ⟨rfl,hk1,he1,hz1⟩;have hk1:br h1 h.size 149 (CW x.kind x.set w x.rule):=hk1;have hn1:=hn.ax (O':=O) he1 (fun _ _ k=>k);obtain⟨css,hc1,hc2,hc3⟩:=id hn1.row;have hown:=hn1.own;have hnlt:=hn1.blk.lt;have hnz:=hn.blk.lt;have hnM:¬(dn v.ownBlock nb\/Array.size h1<=nb):=by rintro(k|k);(have:=hown nb k.symm;omega);omega
 have hkM:¬(dn v.ownBlock h.size\/Array.size h1<=h.size):=by rintro(k|k);(have:=hn.own _ k.symm;omega);omega
 refine aS 1 [0,1,3,4] rfl ?_;refine au rfl ?_;refine bU (fun b=>dn v.ownBlock b\/Array.size h1<=b) (fun i=>Nat.blt i 10) (sz:=11) (listed:= #[false,false,false,false,false,false,false,false,false,false,false]) func115 H.mixed rfl rfl rfl ?_;refine bF 0 1 (by kernel_rfl) rfl ?_;refine bF 1 3 (by kernel_rfl) rfl ?_;refine bF 2 7 (by kernel_rfl) rfl ?_;refine bf 3 15 (by kernel_rfl) rfl (fun h' e=>aa (off:=0) underlying139 rfl rfl H.gx rfl) ?_;refine bf 4 31 (by kernel_rfl) rfl (fun h' e=>af H.iD rfl (e.cell hnM (hn1.blk.cell (i:=0) rfl))) ?_;refine bf 5 63 (by kernel_rfl) rfl (fun h' e=>ak.aq H.Kf H.lG rfl (e.rowAt hkM hk1.row) (by first|rfl|(simp;done)|(simp;omega))) ?_;refine dK 6 127 (by kernel_rfl) rfl (av.gD (cs:=[_,_,_,_,_,_,_]) underlying137 H.HD rfl rfl (by decide)) ?_;rintro _ _ ⟨rfl,rfl⟩;refine⟨fun _=>by first|exact Ext.push _ _ _|assumption,?_⟩;refine dK 7 255 (by kernel_rfl) rfl (av.cH underlying137 H.HD rfl rfl (hc2) rfl rfl (hw1) (by omega) (by decide) (by omega)) ?_;rintro v2 h2 ⟨ho2,hx2,hx2',hv2⟩;refine⟨fun _=>hx2'.mono (fun _ _ k=>.inl k),?_⟩;obtain⟨oa2,c2,rfl,_⟩:=ho2.open;refine dK 8 511 (by kernel_rfl) rfl (ak.aX (cB rfl)) ?_;rintro _ hq_ ⟨rfl,hqe_⟩;replace hqe_:=hqe_.symm;subst hqe_;refine⟨fun _=>Ext.refl _ _,?_⟩;refine bf 9 1023 (by kernel_rfl) rfl (fun h' e=>aa (off:=0) underlying139 rfl rfl H.gx rfl) ?_;refine iF 10 2047 (by kernel_rfl) rfl (av.aE H.gx rfl rfl (hn1.blk.ext hx2 (fun k=>by have:=hown nb k.symm;omega)) (by first|decide|exact of_decide_eq_true rfl|(simp;done)|(simp;omega)) rfl) ?_;rintro _ h3 ⟨rfl,hk3,hx3,hz3⟩;refine⟨fun hk=>(nomatch hk),?_⟩;refine aR (by kernel_rfl) ?_;refine xu [0,1,3,4] rfl ?_;refine bB func115 2 rfl ?_;refine xp rfl (aa (off:=0) underlying139 rfl rfl H.gx rfl) ?_;have hxs:DI.R h1 (fun b=>dn v.ownBlock b\/b=nb\/O b) (CW x.kind x.set w x.rule) x:=DI.mv hx ⟨he1.size,fun b hb hn=>⟨he1.block b hb (fun k=>k),fun k=>hn (by rcases k with k|k|k;(exact .inl (.inr k));(exact .inl (.inl k));exact .inr k)⟩⟩;have hrow2:gO DI (fun b=>b=nb\/O b) h2 (nb+1) 149 (.slice oa2 (ss.length+1) c2) (ss++[x]):=gO.om hc1 hc3 ho2 hx2 hv2 hxs;have hrow3:gO DI (fun b=>b=nb\/O b) h3 (nb+1) 149 (.slice oa2 (ss.length+1) c2) (ss++[x]):=hrow2.D8 hx3 (fun b hb (k:b=nb)=>by have:=hv2 b hb;rcases this with k'|k';(have:=hown b k';omega);omega) (fun b _ k=>.inl k) (fun b _ k=>k);have hk3:br h3 nb 139 [.slice oa2 (ss.length+1) c2,.int .i64 (st:Nat)]:=hk3;refine xp rfl (af H.iD rfl (hk3.cell (i:=0) rfl)) ?_;refine xp rfl (ak.aN underlying137 rfl) ?_;refine xp rfl (ak.en rfl rfl ⟨by omega,by omega⟩) ?_;refine aS 1 [0,1,3,4] rfl ?_;refine aK func115 rfl rfl ?_;refine⟨_,rfl,_,?_,⟨hk3,hrow3⟩,⟨by have:=he1.size;have:=hx2.size;omega,fun b hb hn=>by rw[hx3.block b (by have:=hx2.size;omega) (fun k=>hn (.inl k)),hx2.block b (by omega) (fun k=>hn (.inr k)),he1.block b hb (fun k=>k)]⟩,fun b hb=>?_⟩
 · show Value.int _ _=_
   congr 1;omega
 · rcases hv2 b hb with k|k
   · exact .inl k
   · exact .inr (by omega)
theorem se {l cap:Nat}{oa:Option Addr}{c:Nat}{J:Nat->ay->Prop}(hn:n<=1000000)
 (hread:∀j h,J j h->cellAt h ⟨cap,0,none⟩=some (.slice oa n c)) (hy:∀j h,J (j+1) h->j<n->∃(b o k s:Nat) (w:Value),oa=some ⟨b,o,none⟩/\Lw.rowAt h b (o+j*6) (dV k s w) /\
  lC Tryz.prog l #[.int .i64 (j:Nat),.agg (dV k s w).toArray] h (bX fun r h'=>r= .bool true/\J j h')) (h0:J n h) :
 ah Tryz.prog 148 #[.func (.yield l) #[] #[],.pointer (some ⟨cap,0,none⟩)] h (bX fun _ h'=>J 0 h'):=by
 refine ah.of func148 rfl rfl ?_;refine xr func148 rfl ?_;refine xp rfl (af H.uJ rfl (hread _ _ h0)) ?_;refine xp rfl (ak.aN underlying141 rfl) ?_;refine xp rfl (ak.en rfl rfl ⟨by omega,by omega⟩) ?_;refine aS 1 [0,1,3] rfl ?_;refine G.block rfl rfl ?_;refine bT (σ:=Nat) (fun j=>[(0,.func (.yield l) #[] #[]),(1,.pointer (some ⟨cap,0,none⟩)),(3,.int .i64 ((j:Int)-1))]) (fun j h'=>J j h'/\j<=n) (fun j=>j) (n) rfl ⟨rfl,rfl,rfl,trivial⟩ ⟨h0,Nat.le_refl _⟩ ?_;rintro j h1 ⟨hJ,hj⟩ ih;refine au rfl ?_;refine aY func148 2 [0,1,3,8] rfl ?_;refine aG rfl rfl (fun hge=>?_) (fun hge=>?_)
 · obtain⟨i,rfl⟩:∃i,j=i+1:=⟨j-1,by omega⟩
   obtain⟨b,o,k,s,w,ha,hrow,hyy⟩:=hy i h1 hJ (by omega);have hji:((i+1:Nat):Int)-1=((i:Nat):Int):=by omega
   rw[hji];refine aA rfl ?_;refine au rfl ?_;refine G.block rfl rfl ?_;refine au rfl ?_;refine G.I6 func148 rfl ?_;refine gJ.aU rfl rfl rfl rfl rfl (bS rfl) ?_;refine gJ.aU rfl rfl rfl rfl rfl (bS rfl) ?_;refine gJ.aU rfl rfl rfl rfl rfl (af H.uJ rfl (hread _ _ hJ)) ?_;refine gJ.aU rfl rfl rfl rfl rfl (bS rfl) ?_;refine gJ.aU rfl rfl rfl rfl rfl (ak.aF underlying141 H.b9 rfl rfl i rfl ha (by omega)) ?_;refine gJ.aU rfl rfl rfl rfl rfl (ak.aq H.eN H.b9 rfl hrow (by first|rfl|(simp;done)|(simp;omega))) ?_;refine wL (vs:=[_,_]) rfl rfl rfl rfl rfl rfl rfl (hyy) ?_;rintro _ h2 ⟨rfl,hJ2⟩;refine gJ.aU rfl rfl rfl rfl rfl (ak.HZ rfl) ?_;refine kF rfl ?_;refine xu [0,1,3,8,18] rfl ?_;refine aO rfl rfl (fun hc=>absurd hc (by decide)) (fun _=>?_);refine aA rfl ?_;refine G.aT ?_;refine G.bV func148 rfl ?_;refine cx 1 rfl rfl (ak.en rfl rfl ⟨by omega,by omega⟩) ?_;refine aS 1 [0,1,3,8,18] rfl ?_;exact ih i _ _ ⟨rfl,rfl,rfl,trivial⟩ ⟨hJ2,by omega⟩ (by omega)
 · obtain rfl:j=0:=by omega
   refine bN rfl rfl ?_;refine G.DG func148 rfl ?_;exact⟨_,rfl,hJ⟩
theorem uG (v:Value) (hv:v.oneCell'=true):ah Tryz.prog 135 #[v] h (bX fun r h'=>r= .func (.func 148) #[] #[.pointer (some ⟨h.size,0,none⟩)]/\h'=h.push (.cells #[v] 141)):=by
 have hcells:v.cells= #[v]:=by cases v<;>simp[Value.oneCell'] at hv<;>rfl
 refine ah.of func135 rfl rfl ?_;refine xr func135 rfl ?_;refine xo rfl (av.box rfl) ?_;rintro _ _ ⟨rfl,rfl⟩;refine aS 1 [0,1,2] rfl ?_;refine xr func135 rfl ?_;refine xp rfl (ak.makeFunc (vs:=[_]) rfl) ?_;refine aS 1 [0,1,2] rfl ?_;refine aK func135 rfl rfl ?_;exact⟨_,rfl,rfl,by rw[hcells]⟩
structure Nx (O:Nat->Prop) (nb:Nat) (h:ay) (v:Value) (h':ay) (v':Value):Prop where
 ext:Ext (fun b=>eI nb v b\/O b) h h'
 own:∀b,v'.ownBlock=some b->v.ownBlock=some b\/h.size<=b
theorem Nx.refl {O:Nat->Prop}{nb:Nat}{h:ay}{v:Value}:Nx O nb h v h v:=⟨Ext.refl _ _,fun _ k=>.inl k⟩
theorem Nx.IQ (e:aD h h'):Nx O nb h v h' v:=⟨e.mono fun _ _ k=>k.elim,fun _ k=>.inl k⟩
theorem Nx.mono {O O':Nat->Prop}{nb:Nat}{h h':ay}{v v':Value}(k:Nx O nb h v h' v') (hO:∀b,b<h.size->O b->O' b):Nx O' nb h v h' v':=⟨k.ext.mono fun b hb k=>k.imp id (hO b hb),k.own⟩
theorem Nx.trans {O':Nat->Prop}{h1 h2:ay}{v1 v2:Value}(k:Nx O nb h v h1 v1) (k':Nx O' nb h1 v1 h2 v2) (hO:∀b,b<h.size->O' b->O b):Nx O nb h v h2 v2:=by
 refine⟨⟨Nat.le_trans k.ext.size k'.ext.size,fun b hb hn=>?_⟩,fun b hb=>?_⟩
 · rw[k'.ext.block b (Nat.lt_of_lt_of_le hb k.ext.size) ?_,k.ext.block b hb hn];rintro((k1|k1)|k1)
   · exact hn (.inl (.inl k1))
   · rcases k.own b k1.symm with k2|k2
     · exact hn (.inl (.inr k2.symm))
     · omega
   · exact hn (.inr (hO b hb k1))
 · have:=k.ext.size
   rcases k'.own b hb with k2|k2
   · exact k.own b k2
   · exact .inr (by omega)
theorem Nx.mv {v':Value}(k:Nx O nb h v h' v'):Mv (fun b=>eI nb v b\/O b) (fun b=>eI nb v' b\/O b) h h' :=
 ⟨k.ext.size,fun b hb hn=>⟨k.ext.block b hb hn,by
  rintro((k1|k1)|k1)
  · exact hn (.inl (.inl k1))
  · rcases k.own b k1.symm with k2|k2
    · exact hn (.inl (.inr k2.symm))
    · omega
  · exact hn (.inr k1)⟩⟩
theorem Nx.IS {v':Value}(k:Nx (fun _=>False) nb h v h' v'):Mv (eI nb v) (eI nb v') h h' :=
 ⟨k.ext.size,fun b hb hn=>⟨k.ext.block b hb (fun k=>k.elim hn id),fun k1=>by
  rcases k1 with k1|k1
  · exact hn (.inl k1)
  · rcases k.own b k1.symm with k2|k2
    · exact hn (.inr k2.symm)
    · omega⟩⟩
def GY (O:Nat->Prop) (nb:Nat) (h:ay) (v:Value) (st:Nat) (out:List bR×Nat) (r:Value) (h':ay):Prop:=∃v',r= .int .i64 (out.2:Nat)/\cu h' O nb v' out.1 st/\Nx (fun _=>False) nb h v h' v'
def FU (n:Nat):Prop:=∀{x:Nd}{h:ay}{O:Nat->Prop}{nb:Nat}{v w:Value}{ss:List bR}{st to:Nat},nE x<=n->cu h O nb v ss st->(∀b,O b->b<h.size)->b6 h (eI nb v) (dV x.kind x.set w) x->sC x=true->ss.length+nE x<=1000000 ->
 ah Tryz.prog 114 #[.pointer (some ⟨nb,0,none⟩),.agg (dV x.kind x.set w).toArray,.int .i64 (to:Nat)] h (bX (GY O nb h v st (lay x ss to)))
theorem yl (hn:cu h O nb v ss st) (hO:∀b,O b->b<h.size) (hx:FQ h (fun b=>eI nb v b\/O b) (CW x.kind x.set w x.rule) x) (hl:ss.length<=1000000) :
 ah Tryz.prog 115 #[.pointer (some ⟨nb,0,none⟩),.agg (CW x.kind x.set w x.rule).toArray] h (bX (GY O nb h v st (ss++[x],ss.length))) :=
 (D2 hn hO hx hl).mono fun e h' r=>by
  obtain⟨u,he,v',hu,hn',hx',ho⟩:=r;exact⟨u,he,v',hu,hn',hx'.mono fun _ _ k=>.inl k,ho⟩
theorem HC (i:Nat):eK 0 i= .int .u64 0:=by simp[eK,AB]
theorem mS {to:List Nat}(hn:cu h O nb v ss st) (hO:∀b,O b->b<h.size) (hx:cn gI h (fun b=>eI nb v b\/O b) w to) (hl:ss.length<=1000000) :
 ah Tryz.prog 115 #[.pointer (some ⟨nb,0,none⟩),.agg #[.int .i64 0,.int .u64 0,.int .u64 0,.int .u64 0,.int .u64 0,w,.int .i64 0]] h (bX (GY O nb h v st (ss++[⟨0,0,to,0⟩],ss.length))):=by
 have h1:=yl (x:=⟨0,0,to,0⟩) hn hO ⟨w,rfl,hx⟩ hl;simp only[CW,HC] at h1;exact h1
theorem Ln (t:TypeId) (a:Nat) (ho:¬O h.size):cn gI (h.push (.cells #[.int .i64 (a:Nat)] t)) O (.slice (some ⟨h.size,0,none⟩) 1 1) [a]:=cn.pO (e:=gI) (cs:=[cZ a]) rfl ho
theorem Kv (t:TypeId) (a b:Nat) (ho:¬O h.size):cn gI (h.push (.cells #[.int .i64 (a:Nat),.int .i64 (b:Nat)] t)) O (.slice (some ⟨h.size,0,none⟩) 2 2) [a,b] :=
 ⟨_,2,2,rfl,rfl,Nat.le_refl _,by simp[maxLen],fun i x hx=>by
  refine⟨h.size,0,[cZ x],rfl,ho,?_,rfl⟩;have hr:=pH h [.int .i64 (a:Nat),.int .i64 (b:Nat)] t;intro j u hj;have h0:j=0:=by have:=(List.getElem?_eq_some_iff.1 hj).1;simp at this;omega
  subst h0;simp only[List.getElem?_cons_zero,Option.some.injEq] at hj;subst hj
  match i with
  | 0=>simp at hx;subst hx;exact hr 0 _ rfl
  | 1=>simp at hx;subst hx;exact hr 1 _ rfl
  |i+2=>simp at hx⟩
theorem rA:∀(l:List Nd) (x:Nd) (ss:List bR) (to:Nat),bA (l++[x]) ss to=((lay x (bA l ss to).1 to).1,(bA l ss to).2++[(lay x (bA l ss to).1 to).2])
 | [],x,ss,to=>by simp[bA]
 |y::l,x,ss,to=>by
  rw[List.cons_append,bA,rA l x,bA];simp
theorem rz {l:List Nd}{x:Nd}(hx:l[i]? =some x) (ss:List bR) (to:Nat):bA (l.take (i+1)) ss to=((lay x (bA (l.take i) ss to).1 to).1,(bA (l.take i) ss to).2++[(lay x (bA (l.take i) ss to).1 to).2]):=by
 rw[List.take_add_one,hx,Option.toList_some,rA]
def G4 (nb b5 cap d:Nat) (r0:Loop) (hL:ay) (v sl:Value) (O:Nat->Prop) (kids:List Nd) (ss:List bR) (st to j:Nat) (g:ay):Prop :=
 ∃v',ei g (d+1) r0/\g[d]? =some (.deferred (some []))/\br g cap 141 [sl]/\cu g (fun b=>O b\/(b5<=b/\b<hL.size)) nb v' (bP (kids.drop j) ss to).1 st /\
  br g b5 3 [.int .i64 ((bP (kids.drop j) ss to).2:Nat)]/\Nx (fun b=>b5<=b/\b<hL.size) nb hL v g v'
theorem kk {k j:Nat}(h:¬((k:Nat):Int)=(j:Nat)):¬k=j:=fun e=>h (by rw[e])
theorem E4 (ih:FU n):FU (n+1):=by
 intro x h O nb v w ss st to hsz hn hO hx hw hl;obtain⟨k,s,kids⟩:=x;simp only[nE] at hsz hl;have hown:=hn.own;have hnb:=hn.blk.lt;obtain⟨w',hw',hkids⟩:=hx.open;have hww:w=w':=by simpa [dV] using hw'
 subst hww
 show ah _ _ #[_,.agg (dV k s w).toArray,_] h _
 replace hkids:cn rF h (eI nb v) w kids:=hkids;obtain⟨oa,kn,kc,rfl,hsl⟩:=hkids.open;refine ah.of func114 rfl rfl ?_;refine xr func114 rfl ?_;refine xo rfl (av.cR rfl) ?_;rintro _ h1 ⟨rfl,q3,e1,z1⟩;refine xo rfl (av.cR rfl) ?_;rintro _ h2 ⟨rfl,q4,e2,z2⟩;refine xo rfl (av.cR rfl) ?_;rintro _ h3 ⟨rfl,q5,e3,z3⟩;have q3:br h1 h.size 112 [.pointer (some ⟨nb,0,none⟩)]:=q3;have q4:br h2 h1.size 143 (dV k s (.slice oa kn kc)):=q4;have q5:br h3 h2.size 3 [.int .i64 (to:Nat)]:=q5;have q3:=(q3.ax e2).ax e3;have q4:=q4.ax e3;have e03:aD h h3:=(e1.trans e2).trans e3;have hn3:cu h3 O nb v ss st:=hn.ax e03 (fun _ _ k=>k);have hO3:∀b,O b->b<h3.size:=fun b hb=>by have:=hO b hb;have:=e03.size;omega
 have nx3:Nx (fun _=>False) nb h v h3 v:=Nx.IQ e03;have hsl3:cn rF h3 (eI nb v) (.slice oa kn kc) kids:=hkids.mv nx3.IS
 have hnew3:∀b,h3.size<=b->¬(eI nb v b\/O b):=by
  have hz:=e03.size;rintro b hb ((k1|k1)|k1)
  · omega
  · have:=hown b k1.symm;omega
  · have:=hO b k1;omega
 have hnM:∀b,h.size<=b->¬(eI nb v b\/False):=by
  rintro b hb ((k1|k1)|k1)
  · omega
  · have:=hown b k1.symm;omega
  · exact k1
 have hkn:kids.length=kn:=hsl.len;have hwl:sD kids=true:=by simp only[sC,Bool.and_eq_true] at hw;exact hw.2
 have hklen:=B5 kids;refine aS 1 [0,1,2,3,4,5,6] rfl ?_;refine au rfl ?_;refine xr func114 rfl ?_;refine xp rfl (aa (off:=0) underlying143 rfl rfl H.aQ rfl) ?_;refine xp rfl (af H.bD rfl (q4.cell (i:=0) rfl)) ?_;refine xd [0,1,2,3,4,5,6,15] rfl ?_;refine G.block rfl rfl ?_;refine aY func114 2 [0,1,2,3,4,5,6,15,16] rfl ?_;refine aG rfl rfl (fun h1k=>?_) (fun h1k=>?_)
 · obtain rfl:k=1:=by omega
   have hlay:lay (.mk 1 s kids) ss to=(ss++[⟨1,s,[to],0⟩],ss.length):=by rw[lay];simp
   rw[hlay];refine xr func114 rfl ?_;refine xp rfl (af H.lS rfl (q3.cell (i:=0) rfl)) ?_;refine xp rfl (aa (off:=1) underlying143 rfl rfl H.lH rfl) ?_;refine xp rfl (ak.aq H.HL H.lH rfl (q4.part 1 (ds:=[eK s 0,eK s 1,eK s 2,eK s 3]) (by intro j v hv;match j with| 0=>exact hv| 1=>exact hv| 2=>exact hv| 3=>exact hv|j+4=>simp at hv)) (by first|rfl|(simp;done)|(simp;omega))) ?_;refine xp rfl (af H.bD rfl (q5.cell (i:=0) rfl)) ?_;refine xo rfl (av.bC (us:=[_]) underlying44 H.nH rfl rfl (by decide) (by simp[Value.oneCell'])) ?_;rintro _ _ ⟨rfl,rfl⟩;refine xp rfl (aP (H.Ao _ _ _ _ _ _ _ _) rfl) ?_;refine xo rfl (aj (vs:=[_,_]) func115 rfl H.s5 rfl (ah.aX (yl (O:=O) (x:=⟨1,s,[to],0⟩) (hn3.ax (Ext.push _ _ _) (fun _ _ k=>k)) (fun b hb=>by have:=hO3 b hb;simp;omega) ⟨_,rfl,Ln _ to (hnew3 _ (Nat.le_refl _))⟩ (by omega)))) ?_;rintro _ h5 ⟨v',rfl,hn5,nx5⟩;refine aS 1 [0,1,2,3,4,5,6,15,16] rfl ?_;refine aK func114 rfl rfl ?_;exact⟨_,rfl,v',rfl,hn5,(nx3.trans (Nx.IQ (Ext.push _ _ _)) (fun _ _ k=>k)).trans nx5 (fun _ _ k=>k)⟩
 · have h1k':¬k=1:=kk h1k;refine aY func114 2 [0,1,2,3,4,5,6,15,16,25] rfl ?_;refine aG rfl rfl (fun h2k=>?_) (fun h2k=>?_)
   · obtain rfl:k=2:=by omega
     have hlay:lay (.mk 2 s kids) ss to=bP kids ss to:=by rw[lay];simp
     rw[hlay];have hz0:=e03.size;refine au rfl ?_;refine xr func114 rfl ?_;refine xp rfl (aa (off:=5) underlying143 rfl rfl H.yH rfl) ?_;refine xp rfl (af H.uJ rfl (q4.cell (i:=5) rfl)) ?_;refine xo rfl (aj (vs:=[_]) func135 rfl H.Jx rfl (ah.aX (uG (.slice oa kn kc) rfl))) ?_;rintro _ h4 ⟨rfl,hh4⟩;have e4:aD h3 h4:=by rw[hh4];exact Ext.push _ _ _
     have q6:br h4 h3.size 141 [.slice oa kn kc]:=by rw[hh4];exact br.new _ _ _
     have z4:h4.size=h3.size+1:=by rw[hh4];simp
     clear hh4;refine xd [0,1,2,3,4,5,6,15,16,25,29] rfl ?_;refine G.block rfl rfl ?_;refine G.rangeFunc rfl rfl func148 rfl (by decide +kernel) ?_;intro fid tmps hfits;obtain⟨r0,hr0⟩:∃r0,r0=kR fid tmps #[30,31] (Le (Lw.sub (aI f114) [0,1,0,0,1,1,1,0,1,0,1])) (Ld (Lw.sub (aI f114) [0,1,0,0,1,1,1,0,1,0,1])) h4.size:=⟨_,rfl⟩
     obtain⟨hL,hhL⟩:∃hL,hL=(h4.push (.deferred (some []))).push (.loop r0):=⟨_,rfl⟩
     suffices hmain:ah Tryz.prog 148 #[.func (.yield (h4.size+1)) #[] #[],.pointer (some ⟨h3.size,0,none⟩)] hL _ by rw[hhL,hr0] at hmain;exact hmain
     have hst:r0.state= .ready:=by rw[hr0];rfl
     have hpn:r0.pending=none:=by rw[hr0];rfl
     have hps:r0.params= #[30,31]:=by rw[hr0];rfl
     have htm:r0.tmps=tmps:=by rw[hr0];rfl
     have eL:aD h4 hL:=by rw[hhL];exact(Ext.push _ _ _).trans (Ext.push _ _ _)
     have hLz:hL.size=h4.size+2:=by rw[hhL];simp
     have hloop0:ei hL (h4.size+1) r0:=by
      have hz:h4.size+1=(h4.push (.deferred (some []))).size:=by simp
      rw[ei,hhL,hz];exact Array.getElem?_push_size
     have hdef0:hL[h4.size]? =some (.deferred (some [])):=by
      rw[hhL,(Ext.push (fun _=>False) (h4.push (.deferred (some []))) _).block h4.size (by simp) (fun k=>k)];exact Array.getElem?_push_size
     clear hhL;have e0L:aD h hL:=(e03.trans e4).trans eL;have q3L:=(q3.ax e4).ax eL;have q5L:=(q5.ax e4).ax eL;have q6L:=q6.ax eL;have hnL:cu hL (fun b=>O b\/(h2.size<=b/\b<hL.size)) nb v ss st:=hn.ax e0L (fun b hb k=>k.elim id (fun k=>by omega));have hkL:cn rF hL (fun b=>eI nb v b\/(h2.size<=b/\b<hL.size)) (.slice oa kn kc) kids:=hkids.mv ⟨e0L.size,fun b hb hn=>⟨e0L.block b hb (fun k=>k),fun k=>k.elim hn (fun k=>by omega)⟩⟩;have hdropn:kids.drop kn=[]:=List.drop_of_length_le (by omega);have hJ0:G4 nb h2.size h3.size h4.size r0 hL v (.slice oa kn kc) O kids ss st to kn hL:=⟨v,hloop0,hdef0,q6L,by rw[hdropn,bP];exact hnL,by rw[hdropn,bP];exact q5L,Nx.refl⟩
     have hvM:∀{v':Value}{g:ay},Nx (fun b=>h2.size<=b/\b<hL.size) nb hL v g v'->∀b,h.size<=b->b<hL.size->¬eI nb v' b:=by
      rintro v' g nx b hb hb' (k1|k1)
      · omega
      · rcases nx.own b k1.symm with k2|k2
        · have:=hown b k2;omega
        · omega
     refine suff (p:=∀j g,G4 nb h2.size h3.size h4.size r0 hL v (.slice oa kn kc) O kids ss st to (j+1) g->j<kn->∃(b o k s:Nat) (w:Value),oa=some ⟨b,o,none⟩/\Lw.rowAt g b (o+j*6) (dV k s w)/\lC Tryz.prog (h4.size+1) #[.int .i64 (j:Nat),.agg (dV k s w).toArray] g (bX fun r h'=>r= .bool true/\G4 nb h2.size h3.size h4.size r0 hL v (.slice oa kn kc) O kids ss st to j h')) ?_ fun hy=>?_
     · intro j g ⟨v',hlp,hdf,hcap,hng,hb5,nxg⟩ hj;obtain⟨x,hx⟩:∃x,kids[j]? =some x:=⟨_,List.getElem?_eq_getElem (by omega)⟩
       have hkg:=hkL.mv nxg.mv;obtain⟨oa',n',c',hv',_,_,_,hget⟩:=id hkg;cases hv';obtain⟨b,o,cs,ha,hob,hrow,hnd⟩:=hget j x hx;obtain⟨w2,rfl,-⟩:=hnd.open;refine⟨b,o,x.kind,x.set,w2,ha,hrow,?_⟩;have hcatd:=zM hx ss to;have hszx:=Eo hx;have hbl:=jk (kids.drop (j+1)) ss to;have hfit:=zW (p1:=30) (p2:=31) (v1:=.int .i64 (j:Nat)) (v2:=.agg (dV x.kind x.set w2).toArray) hfits rfl rfl;rw[<-hps,<-htm] at hfit;have hvg:=hvM nxg;have hzg:=nxg.ext.size;have q3g:=q3L.ext nxg.ext (fun k=>k.elim (hvM Nx.refl (v':=v) (g:=hL) _ (Nat.le_refl _) (by omega)) (fun k=>by omega));refine lC.of hlp hst (by rw[hps];rfl) hfit ((congrArg Loop.assign hr0).trans rfl) ((congrArg Loop.body hr0).trans rfl) ?_;refine gJ.D7 rfl rfl rfl rfl rfl (av.aW H.jT) ?_;rintro _ g1 ⟨rfl,k8,e1',zz1⟩;refine gJ.bh rfl rfl rfl rfl (av.an H.b9 rfl rfl k8 (by first|rfl|(simp;done)|(simp;omega)) (by first|decide|exact of_decide_eq_true rfl|(simp;done)|(simp;omega)) (b6.one hnd)) ?_;rintro _ g2 ⟨rfl,k8',e2',zz2⟩;refine kF rfl ?_;have e12:aD g g2:=e1'.only e2' (Nat.le_refl _);have k8':br g2 g.size 143 (dV x.kind x.set w2):=k8';refine⟨(e12.block _ hlp.lt (fun k=>k)).trans hlp,?_⟩;obtain⟨g3,hg3⟩:∃g3,g3=Lw.eH g2 (h4.size+1) (.loop { r0 with state:=.busy }):=⟨_,rfl⟩
       rw[<-hg3];have hlz:=hlp.lt;have hz2:=e12.size;have e23:Ext (fun b=>b=h4.size+1) g2 g3:=by rw[hg3];exact Ext.eH _ _ _ rfl
       have hlp3:ei g3 (h4.size+1) { r0 with state:=.busy }:=by rw[ei,hg3];exact nk (by omega)
       have hz3:=e23.size;have e13:Ext (fun b=>b=h4.size+1) g g3:=(e12.mono fun _ _ k=>k.elim).trans e23;have l3:¬h.size=h4.size+1:=by omega
       have l5:¬h2.size=h4.size+1:=by omega
       have l6:¬h3.size=h4.size+1:=by omega
       have l8:¬g.size=h4.size+1:=by omega
       have ld:¬h4.size=h4.size+1:=by omega
       have q33:=q3g.ext e13 l3;have b53:=hb5.ext e13 l5;have cap3:=hcap.ext e13 l6;have k83:=k8'.ext e23 l8;have hown':∀b,v'.ownBlock=some b->¬b=h4.size+1:=fun b hb k=>hvg b (by omega) (by omega) (.inr hb.symm)
       have hn3g:cu g3 (fun b=>O b\/(h2.size<=b/\b<hL.size)) nb v' (bP (kids.drop (j+1)) ss to).1 st:=hng.ext e13 (by omega) hown' (fun b _ k=>.inr (by omega)) (fun b _ k=>k);have hnd3:b6 g3 (eI nb v') (dV x.kind x.set w2) x:=hnd.mv ⟨e13.size,fun b hb hn=>⟨e13.block b hb (fun k=>hn (.inr (by omega))),fun k=>hn (.inl k)⟩⟩;refine gJ.aU rfl rfl rfl rfl rfl (af H.lS rfl (q33.cell (i:=0) rfl)) ?_;refine gJ.aU rfl rfl rfl rfl rfl (ak.aq H.eN H.b9 rfl k83.row (by first|rfl|(simp;done)|(simp;omega))) ?_;refine gJ.aU rfl rfl rfl rfl rfl (af H.bD rfl (b53.cell (i:=0) rfl)) ?_;refine gJ.D7 rfl rfl rfl rfl rfl (aj (vs:=[_,_,_]) func114 rfl H.vX rfl (ah.aX (ih (x:=x) (O:=fun b=>O b\/(h2.size<=b/\b<hL.size)) (to:=(bP (kids.drop (j+1)) ss to).2) (by omega) hn3g (fun b hb=>by rcases hb with k|k;(have:=hO b k;omega);omega) hnd3 (wQ hwl hx) (by omega)))) ?_;rintro _ g4 ⟨v4,rfl,hn4,nx4⟩;have hM4:∀b,h.size<=b->b<hL.size->¬(eI nb v' b\/False):=fun b h1 h2 k=>k.elim (hvg b h1 h2) id
       have b54:=b53.ext nx4.ext (hM4 _ (by omega) (by omega));refine gJ.bh rfl rfl rfl rfl (av.aE H.aQ rfl rfl b54 (by first|decide|exact of_decide_eq_true rfl|(simp;done)|(simp;omega)) rfl) ?_;rintro _ g5 ⟨rfl,b55,e5',zz5⟩;refine kF rfl ?_;have b55:br g5 h2.size 3 [.int .i64 ((lay x (bP (kids.drop (j+1)) ss to).1 (bP (kids.drop (j+1)) ss to).2).2:Nat)]:=b55;have hz4:=nx4.ext.size;have nx45:Nx (fun b=>h2.size<=b/\b<hL.size) nb g3 v' g5 v4:=⟨⟨by omega,fun b hb hn=>by rw[e5'.block b (by omega) (fun k=>hn (.inr (by omega))),nx4.ext.block b hb (fun k=>hn (k.elim .inl (fun k=>k.elim)))]⟩,nx4.own⟩
       have hlp5:ei g5 (h4.size+1) { r0 with state:=.busy }:=(hlp3.ext nx4.ext (hM4 _ (by omega) (by omega))).ext e5' (fun k=>by omega);have hr2:({ ({ r0 with state:=.busy }:Loop) with state:=.ready,pending:=none }:Loop)=r0:=by cases r0;simp at hst hpn;simp[hst,hpn]
       refine⟨_,hlp5,rfl,?_⟩;rw[hr2];have e56:Ext (fun b=>b=h4.size+1) g5 (Lw.eH g5 (h4.size+1) (.loop r0)):=Ext.eH _ _ _ rfl
       have hown4:∀b,v4.ownBlock=some b->¬b=h4.size+1/\¬b=h2.size:=fun b hb=>by
        rcases nx4.own b hb with k|k
        · exact⟨hown' b k,fun k'=>hvg b (by omega) (by omega) (.inr k.symm)⟩
        · omega
       have hdf5:g5[h4.size]? =some (.deferred (some [])):=by
        rw[e5'.block h4.size (by omega) (by omega),nx4.ext.block h4.size (by omega) (hM4 _ (by omega) (by omega)),e13.block h4.size (by omega) (by omega)];exact hdf
       have cap5:=(cap3.ext nx4.ext (hM4 _ (by omega) (by omega))).ext e5' (by omega);refine⟨v4,nk (by omega),by rw[e56.block h4.size (by omega) (by omega)];exact hdf5,cap5.ext e56 l6,?_,?_,?_⟩
       · rw[hcatd];have hn5:cu g5 (fun b=>O b\/(h2.size<=b/\b<hL.size)) nb v4 (lay x (bP (kids.drop (j+1)) ss to).1 (bP (kids.drop (j+1)) ss to).2).1 st:=hn4.ext e5' (by omega) (fun b hb=>(hown4 b hb).2) (fun b _ k=>.inr (by omega)) (fun _ _ k=>k);exact hn5.ext e56 (by omega) (fun b hb=>(hown4 b hb).1) (fun b _ k=>.inr (by omega)) (fun _ _ k=>k)
       · rw[hcatd];exact b55.ext e56 l5
       · exact((nxg.trans ⟨e13.mono (fun b _ k=>.inr (by omega)),fun b k=>.inl k⟩ (fun b _ k=>k)).trans nx45 (fun b _ k=>k)).trans ⟨e56.mono (fun b _ k=>.inr (by omega)),fun b k=>.inl k⟩ (fun b _ k=>k)
     · refine(se (l:=h4.size+1) (cap:=h3.size) (n:=kn) (c:=kc) (J:=G4 nb h2.size h3.size h4.size r0 hL v (.slice oa kn kc) O kids ss st to) (by omega) (fun j g hJ=>by obtain⟨_,_,_,k,_⟩:=hJ;exact k.cell (i:=0) rfl) hy hJ0).mono fun e g hJ=>?_
       obtain⟨u,rfl,v',hlp,hdf,hcap,hng,hb5,nxg⟩:=hJ;rw[List.drop_zero] at hng hb5;refine⟨_,rfl,r0,hlp,by rw[hst];decide,hpn,?_⟩;have hzg:=nxg.ext.size;have hlz:=hlp.lt;have e1:Ext (fun b=>b=h4.size+1) g (Lw.eH g (h4.size+1) (.loop { r0 with state:=.exhausted })):=Ext.eH _ _ _ rfl;have b5e:=hb5.ext e1 (by omega);have hdfe:=(e1.block h4.size (by omega) (by omega)).trans hdf;have hvg:=hvM nxg;refine GD.aT ?_;refine oX rfl ?_;refine GD.bV func114 rfl ?_;refine ju.aU rfl rfl rfl rfl (af H.bD rfl (b5e.cell (i:=0) rfl)) ?_;refine ju.aU rfl rfl rfl rfl (ak.assign rfl) ?_;refine kG rfl ?_;refine GD.sub (ρ':=[(0,_),(1,_),(2,_),(3,_),(4,_),(5,_),(6,_),(15,_),(16,_),(25,_),(29,_)]) ⟨rfl,rfl,rfl,rfl,rfl,rfl,rfl,rfl,rfl,rfl,rfl,trivial⟩ ?_;refine GD.Cc func114 rfl hdfe rfl ?_;have e2:Ext (fun b=>b=h4.size) (Lw.eH g (h4.size+1) (.loop { r0 with state:=.exhausted })) (Lw.eH (Lw.eH g (h4.size+1) (.loop { r0 with state:=.exhausted })) h4.size (.deferred none)):=Ext.eH _ _ _ rfl;have e12:Ext (fun b=>b=h4.size+1\/b=h4.size) g _:=(e1.mono fun _ _ k=>.inl k).trans (e2.mono fun _ _ k=>.inr k);have hownv:∀b,v'.ownBlock=some b->¬(b=h4.size+1\/b=h4.size):=fun b hb k=>hvg b (by omega) (by omega) (.inr hb.symm)
       refine⟨_,rfl,v',rfl,hng.ext e12 (by omega) hownv (fun b _ k=>.inr (by omega)) (fun b _ k=>.inl k),?_⟩;have nxe:Nx (fun b=>h2.size<=b) nb h v _ v':=((Nx.IQ e0L).trans nxg (fun b _ k=>k.1)).trans ⟨e12.mono (fun b _ k=>.inr k),fun b k=>.inl k⟩ (fun b hb k=>by omega);exact nxe.mono (fun b hb k=>by omega)
   · have h2k':¬k=2:=kk h2k;refine aY func114 2 [0,1,2,3,4,5,6,15,16,25,37] rfl ?_;refine aG rfl rfl (fun h3k=>?_) (fun h3k=>?_)
     · obtain rfl:k=3:=by omega
       have hlay:lay (.mk 3 s kids) ss to=((bA kids ss to).1++[⟨0,0,(bA kids ss to).2,0⟩],(bA kids ss to).1.length):=by rw[lay];simp
       rw[hlay];refine aY func114 1 [0,1,2,3,4,5,6,9,15,16,25,37] rfl ?_;refine au rfl ?_;refine xr func114 rfl ?_;refine xp rfl (aa (off:=5) underlying143 rfl rfl H.yH rfl) ?_;refine xp rfl (af H.uJ rfl (q4.cell (i:=5) rfl)) ?_;refine xp rfl (ak.aN underlying141 rfl) ?_;refine aS 1 [0,1,2,3,4,5,6,9,15,16,25,37,40,41,42] rfl ?_;refine G.block rfl rfl ?_;refine bT (σ:=Nat×Value) (fun p=>[(3,.pointer (some ⟨h.size,0,none⟩)),(5,.pointer (some ⟨h2.size,0,none⟩)),(9,p.2),(40,.slice oa kn kc),(41,.int .i64 (kn:Nat)),(42,.int .i64 (p.1:Nat))]) (fun p h'=>p.1<=kn/\∃v',cu h' (fun b=>O b\/dn p.2.ownBlock b) nb v' (bA (kids.take p.1) ss to).1 st/\gO gI (fun _=>True) h' h3.size 3 p.2 (bA (kids.take p.1) ss to).2/\Nx (fun _=>False) nb h3 v h' v'/\(∀b,p.2.ownBlock=some b->v'.ownBlock≠some b)) (fun p=>kn-p.1) ((0,.slice none 0 0)) rfl ⟨rfl,rfl,rfl,rfl,rfl,rfl,trivial⟩ ⟨Nat.zero_le _,v,by simpa [bA] using hn3.ax (Ext.refl _ _) (fun b _ k=>k.elim id (fun k=>by cases k)),by simpa [bA] using gO.nil gI (fun _=>True) h3 h3.size 3,Nx.refl,fun b hb=>by cases hb⟩ ?_;rintro⟨i,t9⟩ gh ⟨hi,v',hnH,htH,nxH,hdist⟩ ih2
       try dsimp only
       dsimp only at hi hnH htH nxH hdist;have hzH:=nxH.ext.size;have hz0:=e03.size;have q3H:=q3.ext nxH.ext (hnM _ (Nat.le_refl _));have q5H:=q5.ext nxH.ext (hnM _ (by omega));have hslH:cn rF gh (eI nb v') (.slice oa kn kc) kids:=hsl3.mv nxH.IS;have ht9:∀b,t9.ownBlock=some b->h3.size<=b/\b<gh.size:=fun b hb=>by obtain⟨_,_,k,_⟩:=id htH;exact k.lt hb
       have hlenT:(bA (kids.take i) ss to).2.length=i:=by rw[mC,List.length_take];omega
       refine aY func114 1 [3,5,9,40,41,42,43] rfl ?_;refine au rfl ?_;refine aG rfl rfl (fun hlt=>?_) (fun hlt=>?_)
       · have hik:i<kids.length:=by omega
         obtain⟨x,hx⟩:∃x,kids[i]? =some x:=⟨_,List.getElem?_eq_getElem hik⟩
         obtain⟨oa',n',c',hv',_,_,_,hget⟩:=id hslH;cases hv';obtain⟨b,o,cs,ha,hob,hrow,hnd⟩:=hget i x hx;obtain⟨w2,rfl,-⟩:=hnd.open;have hszx:=En hx;have hbl:=fj (kids.take i) ss to;refine aA rfl ?_;refine au rfl ?_;refine G.block rfl rfl ?_;refine xr func114 rfl ?_;refine xp rfl (ak.aF underlying141 H.b9 rfl rfl i rfl ha (by omega)) ?_;refine xp rfl (ak.aq H.eN H.b9 rfl hrow (by first|rfl|(simp;done)|(simp;omega))) ?_;refine xo rfl (av.aW H.jT) ?_;rintro _ h5 ⟨rfl,q11,e5,z5⟩;refine RW.bh rfl rfl rfl (av.an H.b9 rfl rfl q11 (by first|rfl|(simp;done)|(simp;omega)) (by first|decide|exact of_decide_eq_true rfl|(simp;done)|(simp;omega)) (b6.one hnd)) ?_;rintro _ h6 ⟨rfl,q11',e6,z6⟩;have e56:aD gh h6:=e5.only e6 (Nat.le_refl _);have q11':br h6 gh.size 143 (dV x.kind x.set w2):=q11';have hn6:cu h6 (fun b=>O b\/dn t9.ownBlock b) nb v' (bA (kids.take i) ss to).1 st:=hnH.ax e56 (fun _ _ k=>k);have nx6:Nx (fun _=>False) nb gh v' h6 v':=Nx.IQ e56;have hz6:=e56.size;have hnd6:=hnd.mv nx6.IS;refine xd [3,5,9,11,40,41,42,43] rfl ?_;refine G.bV func114 rfl ?_;refine cx 1 rfl rfl (af H.lS rfl ((q3H.ax e56).cell (i:=0) rfl)) ?_;refine xp rfl (ak.aq H.eN H.b9 rfl q11'.row (by first|rfl|(simp;done)|(simp;omega))) ?_;refine xp rfl (af H.bD rfl ((q5H.ax e56).cell (i:=0) rfl)) ?_;refine xo rfl (aj (vs:=[_,_,_]) func114 rfl H.vX rfl (ah.aX (ih (x:=x) (O:=fun b=>O b\/dn t9.ownBlock b) (to:=to) (by omega) hn6 (fun b hb=>by rcases hb with k|k;(have:=hO3 b k;omega);(have:=ht9 b k.symm;omega)) hnd6 (wQ hwl hx) (by omega)))) ?_;rintro _ h7 ⟨v7,rfl,hn7,nx7⟩
         have ht7:gO gI (fun _=>True) h7 h3.size 3 t9 (bA (kids.take i) ss to).2:=(htH.ax e56).D8 nx7.ext (fun b hb=>by
          rintro((k1|k1)|k1)
          · have:=ht9 b hb;omega
          · exact hdist b hb k1.symm
          · exact k1) (fun _ _ _=>trivial) (fun _ _ _=>trivial)
         obtain⟨css,hc1,hc2,hc3⟩:=id ht7;have hz7:=nx7.ext.size;refine xo rfl (av.bC (us:=[_]) underlying44 H.nH rfl rfl (by decide) (by simp[Value.oneCell'])) ?_;rintro _ _ ⟨rfl,rfl⟩;refine xo rfl (av.cH underlying44 H.nH rfl rfl (hc2) rfl rfl (by first|decide|simp[Value.oneCell']) (by omega) (by decide) (by omega)) ?_;rintro t9' h8 ⟨ho8,hx8,-,hv8⟩;refine aS 1 [3,5,9,11,40,41,42,43] rfl ?_;refine G.aT ?_;refine G.bV func114 rfl ?_;refine xp rfl (ak.bL rfl rfl ⟨by omega,by omega⟩) ?_;refine aS 1 [3,5,9,11,40,41,42,43] rfl ?_;have ht8:gO gI (fun _=>True) h8 h3.size 3 t9' ((bA (kids.take i) ss to).2++[(lay x (bA (kids.take i) ss to).1 to).2]):=gO.om hc1 hc3 ho8 hx8 hv8 rfl
         have hn8:cu h8 (fun b=>O b\/dn t9'.ownBlock b) nb v7 (lay x (bA (kids.take i) ss to).1 to).1 st:=hn7.ext hx8 (fun k=>by have:=ht9 nb k.symm;omega) (fun b hb k=>by
          rcases nx7.own b hb with k'|k'
          · exact hdist b k.symm k'
          · have:=ht9 b k.symm;omega) (fun b _ k=>.inr k) (fun b hb k=>k.imp id (fun k=>by
            rcases hv8 b k.symm with k'|k'
            · exact k'.symm
            · omega))
         have hd8:∀b,t9'.ownBlock=some b->v7.ownBlock≠some b:=fun b hb k=>by
          rcases hv8 b hb with k'|k'
          · rcases nx7.own b k with k2|k2
            · exact hdist b k' k2
            · have:=ht9 b k';omega
          · have:=(hn7.own b k).2;omega
         exact ih2 (i+1,t9') _ _ ⟨rfl,rfl,rfl,rfl,rfl,rfl,trivial⟩ ⟨by show i+1<=kn;omega,v7,by rw[rz hx];exact hn8,by rw[rz hx];exact ht8,⟨⟨by have:=hx8.size;omega,fun b hb hn=>by rw[hx8.block b (by omega) (fun k=>by have:=ht9 b k.symm;omega)];exact((nxH.trans nx6 (fun _ _ k=>k)).trans nx7 (fun _ _ k=>k)).ext.block b hb hn⟩,((nxH.trans nx6 (fun _ _ k=>k)).trans nx7 (fun _ _ k=>k)).own⟩,hd8⟩ (by show kn-(i+1)<kn-i;omega)
       · obtain rfl:i=kn:=by omega
         have hall:kids.take i=kids:=List.take_of_length_le (by omega);rw[hall] at hnH htH hlenT;have hbl:=fj kids ss to
         have hrd:cn gI gh (fun b=>eI nb v' b\/O b) t9 (bA kids ss to).2:=htH.ED (fun b hb=>by
          rintro((k1|k1)|k1)
          · have:=ht9 b hb;omega
          · exact hdist b hb k1.symm
          · have:=ht9 b hb;have:=hO3 b k1;omega) (fun _ _ _=>trivial)
         obtain⟨oa9,n9,c9,rfl,_⟩:=id hrd;refine bN rfl rfl ?_;refine xr func114 rfl ?_;refine xp rfl (af H.lS rfl (q3H.cell (i:=0) rfl)) ?_;refine cx 1 rfl rfl (aP (H.yh _ _ _) rfl) ?_;refine xo rfl (aj (vs:=[_,_]) func115 rfl H.s5 rfl (ah.aX (mS (O:=O) (hnH.ax (Ext.refl _ _) (fun b _ k=>.inl k)) (fun b hb=>by have:=hO3 b hb;omega) hrd (by omega)))) ?_;rintro _ h5 ⟨v5,rfl,hn5,nx5⟩;refine aS 1 [3,5,6,9,40,41,42,43] rfl ?_;refine aK func114 rfl rfl ?_;exact⟨_,rfl,v5,rfl,hn5,(nx3.trans nxH (fun _ _ k=>k)).trans nx5 (fun _ _ k=>k)⟩
     · have h3k':¬k=3:=kk h3k;refine aY func114 2 [0,1,2,3,4,5,6,15,16,25,37,58] rfl ?_;refine aG rfl rfl (fun h6k=>?_) (fun h6k=>?_)
       · obtain rfl:k=6:=by omega
         have hone:kids.length=1:=by simp[sC] at hw;exact hw.1
         obtain⟨x,rfl⟩:∃x,kids=[x]:=by match kids,hone with| [x],_=>exact⟨x,rfl⟩
         have hkn1:kn=1:=by simpa using hkn.symm
         have hszx:nE x<=gw [x]:=by simp[gw]
         have hwx:sC x=true:=by simpa [sD] using hwl
         have hlay:lay (.mk 6 s [x]) ss to=((lay x ss to).1++[⟨0,0,[(lay x ss to).2,to],0⟩],(lay x ss to).1.length):=by rw[lay];simp[cC]
         rw[hlay];have hz0:=e03.size;obtain⟨oa',n',c',hv',_,_,_,hget⟩:=id hsl3;cases hv';obtain⟨b,o,cs,ha,hob,hrow,hnd⟩:=hget 0 x rfl;obtain⟨w2,rfl,-⟩:=hnd.open
         have hnM3:∀b,h.size<=b->b<h3.size->¬(eI nb v b\/h3.size<=b):=by
          rintro b hb hb' ((k1|k1)|k1)
          · omega
          · have:=hown b k1.symm;omega
          · omega
         have hbM:¬(eI nb v b\/h3.size<=b):=by
          rintro(k1|k1)
          · exact hob k1
          · have:=iz hrow (by simp[dV]);omega
         have m3:=hnM3 h.size (Nat.le_refl _) (by omega);have m4:=hnM3 h1.size (by omega) (by omega);have m5:=hnM3 h2.size (by omega) (by omega);have hlenx:=fN x ss to;refine au rfl ?_;refine bU (fun b=>eI nb v b\/Array.size h3<=b) (fun i=>Nat.blt i 13) (sz:=13) (listed:= #[false,false,false,false,false,false,false,false,false,false,false,false,false]) func114 H.mixed rfl rfl rfl ?_;refine bf 0 1 (by kernel_rfl) rfl (fun h' e=>af H.lS rfl (e.cell m3 (q3.cell (i:=0) rfl))) ?_;refine bf 1 3 (by kernel_rfl) rfl (fun h' e=>af H.lS rfl (e.cell m3 (q3.cell (i:=0) rfl))) ?_;refine bf 2 7 (by kernel_rfl) rfl (fun h' e=>aa (off:=5) underlying143 rfl rfl H.yH rfl) ?_;refine bf 3 15 (by kernel_rfl) rfl (fun h' e=>af H.uJ rfl (e.cell m4 (q4.cell (i:=5) rfl))) ?_;refine bf 4 31 (by kernel_rfl) rfl (fun h' e=>ak.aF underlying141 H.b9 rfl rfl 0 rfl ha (by omega)) ?_;refine bf 5 63 (by kernel_rfl) rfl (fun h' e=>ak.aq H.eN H.b9 rfl (e.rowAt hbM hrow) (by first|rfl|(simp;done)|(simp;omega))) ?_;refine bf 6 127 (by kernel_rfl) rfl (fun h' e=>af H.bD rfl (e.cell m5 (q5.cell (i:=0) rfl))) ?_;refine bf 8 383 (by kernel_rfl) rfl (fun h' e=>af H.bD rfl (e.cell m5 (q5.cell (i:=0) rfl))) ?_;refine dK 7 511 (by kernel_rfl) rfl (aj (vs:=[_,_,_]) func114 rfl H.vX rfl (ah.aX (ih (x:=x) (O:=O) (to:=to) (by omega) hn3 hO3 hnd hwx (by omega)))) ?_;rintro _ h5 ⟨v5,rfl,hn5,nx5⟩;refine⟨fun _=>nx5.ext.mono (fun b _ k=>k.elim .inl (fun k=>k.elim)),?_⟩;have hz5:=nx5.ext.size;have hown5:=hn5.own
         have hnew5:∀t,cn gI (h5.push (.cells #[.int .i64 ((lay x ss to).2:Nat),.int .i64 (to:Nat)] t)) (fun b=>eI nb v5 b\/O b) (.slice (some ⟨h5.size,0,none⟩) 2 2) [(lay x ss to).2,to]:=fun t=>Kv t _ _ (by
          rintro((k1|k1)|k1)
          · omega
          · have:=hown5 _ k1.symm;omega
          · have:=hO3 _ k1;omega)
         refine dK 9 1023 (by kernel_rfl) rfl (av.bC (us:=[_,_]) underlying44 H.nH rfl rfl (by decide) (by simp[Value.oneCell'])) ?_;rintro _ _ ⟨rfl,rfl⟩;refine⟨fun _=>by first|exact Ext.push _ _ _|assumption,?_⟩;refine bf 10 2047 (by kernel_rfl) rfl (fun h' e=>aP (H.yh _ _ _) rfl) ?_;refine dK 11 4095 (by kernel_rfl) rfl (aj (vs:=[_,_]) func115 rfl H.s5 rfl (ah.aX (mS (O:=O) (hn5.ax (Ext.push _ _ _) (fun _ _ k=>k)) (fun b hb=>by have:=hO3 b hb;simp;omega) (hnew5 _) (by omega)))) ?_;rintro _ h6 ⟨v6,rfl,hn6,nx6⟩;refine⟨fun _=>nx6.ext.mono (fun b _ k=>by rcases k with (k1|k1)|k1;(exact .inl (.inl k1));(rcases nx5.own b k1.symm with k2|k2;(exact .inl (.inr k2.symm));exact .inr k2);exact k1.elim),?_⟩;refine bF 12 8191 (by kernel_rfl) rfl ?_;refine aR (by kernel_rfl) ?_;refine xu [0,1,2,3,4,5,6,15,16,25,37,58] rfl ?_;refine aK func114 rfl rfl ?_;exact⟨_,rfl,v6,rfl,hn6,((nx3.trans nx5 (fun _ _ k=>k)).trans (Nx.IQ (Ext.push _ _ _)) (fun _ _ k=>k)).trans nx6 (fun _ _ k=>k)⟩
       · have h6k':¬k=6:=kk h6k;refine au rfl ?_;refine aY func114 2 [0,1,2,3,4,5,6,15,16,25,37,58,72] rfl ?_;refine aG rfl rfl (fun h4k=>?_) (fun h4k=>?_)
         · obtain rfl:k=4:=by omega
           have hone:kids.length=1:=by simp[sC] at hw;exact hw.1
           obtain⟨x,rfl⟩:∃x,kids=[x]:=by match kids,hone with| [x],_=>exact⟨x,rfl⟩
           have hkn1:kn=1:=by simpa using hkn.symm
           have hszx:nE x<=gw [x]:=by simp[gw]
           have hwx:sC x=true:=by simpa [sD] using hwl
           have hlay:lay (.mk 4 s [x]) ss to=((lay x (ss++[⟨0,0,[],0⟩]) ss.length).1.set ss.length ⟨0,0,[(lay x (ss++[⟨0,0,[],0⟩]) ss.length).2,to],0⟩,ss.length):=by rw[lay];simp[cC]
           rw[hlay];refine aA rfl ?_;refine aO rfl rfl (fun _=>?_) (fun hc=>absurd hc (by simp));refine xr func114 rfl ?_;refine xp rfl (af H.lS rfl (q3.cell (i:=0) rfl)) ?_;refine xp rfl (aP (H.FH ) rfl) ?_;refine xo rfl (aj (vs:=[_,_]) func115 rfl H.s5 rfl (ah.aX (mS (O:=O) (to:=[]) hn3 hO3 (cn.nil _ _ _) (by omega)))) ?_;rintro _ h5 ⟨v5,rfl,hn5,nx5⟩;have hz5:=nx5.ext.size;have hz0:=e03.size;have q3':=q3.ext nx5.ext (hnM _ (Nat.le_refl _));have q4':=q4.ext nx5.ext (hnM _ (by omega));have q5':=q5.ext nx5.ext (hnM _ (by omega));have hsl5:cn rF h5 (eI nb v5) (.slice oa kn kc) [x]:=hsl3.mv nx5.IS;obtain⟨oa',n',c',hv',_,_,_,hget⟩:=id hsl5;cases hv';obtain⟨b,o,cs,ha,hob,hrow,hnd⟩:=hget 0 x rfl;obtain⟨w2,rfl,-⟩:=hnd.open;have hown5:=hn5.own
           have hnM5:∀b,h.size<=b->b<h3.size->¬(eI nb v5 b\/h5.size<=b):=by
            rintro b hb hb' ((k1|k1)|k1)
            · omega
            · rcases nx5.own b k1.symm with k2|k2
              · have:=hown b k2;omega
              · omega
            · omega
           have hbM:¬(eI nb v5 b\/h5.size<=b):=by
            rintro(k1|k1)
            · exact hob k1
            · have:=iz hrow (by simp[dV]);omega
           have m3:=hnM5 h.size (Nat.le_refl _) (by omega);have m4:=hnM5 h1.size (by omega) (by omega);refine aS 1 [0,1,2,3,4,5,6,12,15,16,25,37,58,72] rfl ?_;refine au rfl ?_;refine bU (fun b=>eI nb v5 b\/Array.size h5<=b) (fun i=>Nat.blt i 8) (sz:=8) (listed:= #[false,false,false,false,false,false,false,false]) func114 H.mixed rfl rfl rfl ?_;refine bf 0 1 (by kernel_rfl) rfl (fun h' e=>af H.lS rfl (e.cell m3 (q3'.cell (i:=0) rfl))) ?_;refine bf 1 3 (by kernel_rfl) rfl (fun h' e=>aa (off:=5) underlying143 rfl rfl H.yH rfl) ?_;refine bf 2 7 (by kernel_rfl) rfl (fun h' e=>af H.uJ rfl (e.cell m4 (q4'.cell (i:=5) rfl))) ?_;refine bf 3 15 (by kernel_rfl) rfl (fun h' e=>ak.aF underlying141 H.b9 rfl rfl 0 rfl ha (by omega)) ?_;refine bf 4 31 (by kernel_rfl) rfl (fun h' e=>ak.aq H.eN H.b9 rfl (e.rowAt hbM hrow) (by first|rfl|(simp;done)|(simp;omega))) ?_;refine bF 5 63 (by kernel_rfl) rfl ?_;refine dK 6 127 (by kernel_rfl) rfl (aj (vs:=[_,_,_]) func114 rfl H.vX rfl (ah.aX (ih (x:=x) (O:=O) (to:=ss.length) (by omega) hn5 (fun b hb=>by have:=hO3 b hb;omega) hnd hwx (by simp;omega)))) ?_;rintro _ h6 ⟨v6,rfl,hn6,nx6⟩;refine⟨fun _=>nx6.ext.mono (fun b _ k=>k.elim .inl (fun k=>k.elim)),?_⟩;have hz6:=nx6.ext.size;have nx36:=nx5.trans nx6 (fun _ _ k=>k);have q3':=q3.ext nx36.ext (hnM _ (Nat.le_refl _));have q4':=q4.ext nx36.ext (hnM _ (by omega));have q5':=q5.ext nx36.ext (hnM _ (by omega));have hown6:=hn6.own;have hlen6:=fN x (ss++[⟨0,0,[],0⟩]) ss.length;rw[List.length_append,List.length_singleton] at hlen6;have hpre:(lay x (ss++[⟨0,0,[],0⟩]) ss.length).1[ss.length]? =some ⟨0,0,[],0⟩:=by rw[kW x _ _ _ (by simp)];simp
           have hn6c:=hn6.blk.cell (i:=0) rfl
           have hnM6:∀b,h.size<=b->b<h3.size->¬(eI nb v6 b\/h6.size<=b):=by
            rintro b hb hb' ((k1|k1)|k1)
            · omega
            · rcases nx36.own b k1.symm with k2|k2
              · have:=hown b k2;omega
              · omega
            · omega
           have hnew6:∀t,cn gI (h6.push (.cells #[.int .i64 ((lay x (ss++[⟨0,0,[],0⟩]) ss.length).2:Nat),.int .i64 (to:Nat)] t)) (fun b=>dn v6.ownBlock b\/b=nb\/O b) (.slice (some ⟨h6.size,0,none⟩) 2 2) [(lay x (ss++[⟨0,0,[],0⟩]) ss.length).2,to]:=fun t=>Kv t _ _ (by
            rintro(k1|k1|k1)
            · have:=hown6 _ k1.symm;omega
            · omega
            · have:=hO3 _ k1;omega)
           generalize hout:lay x (ss++[⟨0,0,[],0⟩]) ss.length=out at *;have hn7:cu (h6.push (.cells #[.int .i64 (out.2:Nat),.int .i64 (to:Nat)] 3)) O nb v6 out.1 st:=hn6.ax (Ext.push _ _ _) (fun _ _ k=>k);obtain⟨g,c6,cs6,hv6,hg1,hg2,hg3,hg4,hg5,hg6⟩:=hn7.row.put hpre;obtain⟨w6,rfl,_⟩:=hg5;subst hv6;have hput:=hg6 5 (.slice (some ⟨h6.size,0,none⟩) 2 2) ⟨0,0,[out.2,to],0⟩ (by decide) ⟨_,rfl,hnew6 _⟩;have hgb:h6.size=g\/g<h6.size:=by have:=hown6 g rfl;omega
           have hg6':g<h6.size:=(hown6 g rfl).2;have hcell7:cellAt (h6.push (.cells #[.int .i64 (out.2:Nat),.int .i64 (to:Nat)] 3)) ⟨g,0+ss.length*7+5,none⟩=some w6:=hg3 5 _ rfl;have m6:=hnM6 h1.size (by omega) (by omega);have j4:¬h1.size=g:=fun k=>m6 (.inl (.inr (by rw[k];rfl)))
           have j3:¬h6.size<=h.size:=by omega
           have j0:¬h6.size<=nb:=by omega
           have j5:¬h6.size<=h2.size:=by omega
           refine bF 7 255 (by kernel_rfl) rfl ?_;refine aR (by kernel_rfl) ?_;refine xu [0,1,2,3,4,5,6,12,13,15,16,25,37,58,72] rfl ?_;refine au rfl ?_;refine bU (fun b=>Array.size h6<=b) (fun i=>Nat.blt i 10) (sz:=11) (listed:= #[false,false,false,false,false,false,false,false,false,false,false]) func114 H.mixed rfl rfl rfl ?_;refine bf 0 1 (by kernel_rfl) rfl (fun h' e=>af H.lS rfl (e.cell j3 (q3'.cell (i:=0) rfl))) ?_;refine bF 1 3 (by kernel_rfl) rfl ?_;refine bf 2 7 (by kernel_rfl) rfl (fun h' e=>aa (off:=0) underlying139 rfl rfl H.gx rfl) ?_;refine bf 3 15 (by kernel_rfl) rfl (fun h' e=>af H.iD rfl (e.cell j0 hn6c)) ?_;refine bF 4 31 (by kernel_rfl) rfl ?_;refine bF 5 63 (by kernel_rfl) rfl ?_;refine bf 6 127 (by kernel_rfl) rfl (fun h' e=>af H.bD rfl (e.cell j5 (q5'.cell (i:=0) rfl))) ?_;refine dK 7 255 (by kernel_rfl) rfl (av.bC (us:=[_,_]) underlying44 H.nH rfl rfl (by decide) (by simp[Value.oneCell'])) ?_;rintro _ _ ⟨rfl,rfl⟩;refine⟨fun _=>by first|exact Ext.push _ _ _|assumption,?_⟩;refine dK 8 511 (by kernel_rfl) rfl (ak.aX (ak.aF underlying137 H.lG rfl rfl ss.length rfl rfl (by omega))) ?_;rintro _ hq_ ⟨rfl,hqe_⟩;replace hqe_:=hqe_.symm;subst hqe_;refine⟨fun _=>Ext.refl _ _,?_⟩;refine bf 9 1023 (by kernel_rfl) rfl (fun h' e=>aa (off:=5) underlying149 rfl rfl H.fS rfl) ?_;refine iF 10 2047 (by kernel_rfl) rfl (cj H.fS rfl rfl rfl hcell7 (hg4 _)) ?_;rintro _ _ ⟨rfl,rfl⟩;refine⟨fun hk=>(nomatch hk),?_⟩;refine aR (by kernel_rfl) ?_;refine xu [0,1,2,3,4,5,6,12,13,15,16,25,37,58,72] rfl ?_;refine au rfl ?_;refine xr func114 rfl ?_;refine xp rfl (aa (off:=0) underlying143 rfl rfl H.aQ rfl) ?_;have hz7:∀u,(dS (h6.push (.cells #[.int .i64 (out.2:Nat),.int .i64 (to:Nat)] 3)) ⟨g,0+ss.length*7+5,none⟩ u).size=h6.size+1:=fun u=>by rw[iY];simp
           have ex7:∀u,Ext (fun b=>b=g) h6 (dS (h6.push (.cells #[.int .i64 (out.2:Nat),.int .i64 (to:Nat)] 3)) ⟨g,0+ss.length*7+5,none⟩ u):=fun u=>⟨by rw[hz7];omega,fun b hb hn=>by rw[(Ext.dS (M:=fun b=>b=g) _ _ u rfl).block b (by simp;omega) hn,(Ext.push (fun _=>False) h6 _).block b hb (fun k=>k)]⟩
           refine xp rfl (af H.bD rfl ((q4'.ext (ex7 _) j4).cell (i:=0) rfl)) ?_;refine aS 1 [0,1,2,3,4,5,6,12,13,15,16,25,37,58,72,97] rfl ?_;refine aO rfl rfl (fun hc=>absurd hc (by decide)) (fun _=>?_);refine aA rfl ?_;refine aY func114 2 [0,1,2,3,4,5,6,12,13,15,16,25,37,58,72,97] rfl ?_;refine aK func114 rfl rfl ?_;exact⟨_,rfl,_,rfl,⟨hn6.blk.ext (ex7 _) (by have:=hown6 g rfl;omega),hput⟩,((nx3.trans nx36 (fun _ _ k=>k)).trans ⟨(ex7 _).mono (fun b _ k=>.inl (.inr (by rw[k];rfl))),fun b k=>.inl k⟩ (fun _ _ k=>k))⟩
         · have h4k':¬k=4:=kk h4k;refine G.bV func114 rfl ?_;refine aS 2 [0,1,2,3,4,5,6,15,16,25,37,58,72] rfl ?_;refine aG rfl rfl (fun h5k=>?_) (fun h5k=>?_)
           · obtain rfl:k=5:=by omega
             have hone:kids.length=1:=by simp[sC] at hw;exact hw.1
             obtain⟨x,rfl⟩:∃x,kids=[x]:=by match kids,hone with| [x],_=>exact⟨x,rfl⟩
             have hkn1:kn=1:=by simpa using hkn.symm
             have hszx:nE x<=gw [x]:=by simp[gw]
             have hwx:sC x=true:=by simpa [sD] using hwl
             have hlay:lay (.mk 5 s [x]) ss to=((lay x (ss++[⟨0,0,[],0⟩]) ss.length).1.set ss.length ⟨0,0,[(lay x (ss++[⟨0,0,[],0⟩]) ss.length).2,to],0⟩,(lay x (ss++[⟨0,0,[],0⟩]) ss.length).2):=by rw[lay];simp[cC]
             rw[hlay];refine xr func114 rfl ?_;refine xp rfl (af H.lS rfl (q3.cell (i:=0) rfl)) ?_;refine xp rfl (aP (H.FH ) rfl) ?_;refine xo rfl (aj (vs:=[_,_]) func115 rfl H.s5 rfl (ah.aX (mS (O:=O) (to:=[]) hn3 hO3 (cn.nil _ _ _) (by omega)))) ?_;rintro _ h5 ⟨v5,rfl,hn5,nx5⟩;have hz5:=nx5.ext.size;have hz0:=e03.size;have q3':=q3.ext nx5.ext (hnM _ (Nat.le_refl _));have q4':=q4.ext nx5.ext (hnM _ (by omega));have q5':=q5.ext nx5.ext (hnM _ (by omega));have hsl5:cn rF h5 (eI nb v5) (.slice oa kn kc) [x]:=hsl3.mv nx5.IS;obtain⟨oa',n',c',hv',_,_,_,hget⟩:=id hsl5;cases hv';obtain⟨b,o,cs,ha,hob,hrow,hnd⟩:=hget 0 x rfl;obtain⟨w2,rfl,-⟩:=hnd.open;have hown5:=hn5.own
             have hnM5:∀b,h.size<=b->b<h3.size->¬(eI nb v5 b\/h5.size<=b):=by
              rintro b hb hb' ((k1|k1)|k1)
              · omega
              · rcases nx5.own b k1.symm with k2|k2
                · have:=hown b k2;omega
                · omega
              · omega
             have hbM:¬(eI nb v5 b\/h5.size<=b):=by
              rintro(k1|k1)
              · exact hob k1
              · have:=iz hrow (by simp[dV]);omega
             have m3:=hnM5 h.size (Nat.le_refl _) (by omega);have m4:=hnM5 h1.size (by omega) (by omega);refine aS 1 [0,1,2,3,4,5,6,12,15,16,25,37,58,72] rfl ?_;refine au rfl ?_;refine bU (fun b=>eI nb v5 b\/Array.size h5<=b) (fun i=>Nat.blt i 8) (sz:=8) (listed:= #[false,false,false,false,false,false,false,false]) func114 H.mixed rfl rfl rfl ?_;refine bf 0 1 (by kernel_rfl) rfl (fun h' e=>af H.lS rfl (e.cell m3 (q3'.cell (i:=0) rfl))) ?_;refine bf 1 3 (by kernel_rfl) rfl (fun h' e=>aa (off:=5) underlying143 rfl rfl H.yH rfl) ?_;refine bf 2 7 (by kernel_rfl) rfl (fun h' e=>af H.uJ rfl (e.cell m4 (q4'.cell (i:=5) rfl))) ?_;refine bf 3 15 (by kernel_rfl) rfl (fun h' e=>ak.aF underlying141 H.b9 rfl rfl 0 rfl ha (by omega)) ?_;refine bf 4 31 (by kernel_rfl) rfl (fun h' e=>ak.aq H.eN H.b9 rfl (e.rowAt hbM hrow) (by first|rfl|(simp;done)|(simp;omega))) ?_;refine bF 5 63 (by kernel_rfl) rfl ?_;refine dK 6 127 (by kernel_rfl) rfl (aj (vs:=[_,_,_]) func114 rfl H.vX rfl (ah.aX (ih (x:=x) (O:=O) (to:=ss.length) (by omega) hn5 (fun b hb=>by have:=hO3 b hb;omega) hnd hwx (by simp;omega)))) ?_;rintro _ h6 ⟨v6,rfl,hn6,nx6⟩;refine⟨fun _=>nx6.ext.mono (fun b _ k=>k.elim .inl (fun k=>k.elim)),?_⟩;have hz6:=nx6.ext.size;have nx36:=nx5.trans nx6 (fun _ _ k=>k);have q3':=q3.ext nx36.ext (hnM _ (Nat.le_refl _));have q4':=q4.ext nx36.ext (hnM _ (by omega));have q5':=q5.ext nx36.ext (hnM _ (by omega));have hown6:=hn6.own;have hlen6:=fN x (ss++[⟨0,0,[],0⟩]) ss.length;rw[List.length_append,List.length_singleton] at hlen6;have hpre:(lay x (ss++[⟨0,0,[],0⟩]) ss.length).1[ss.length]? =some ⟨0,0,[],0⟩:=by rw[kW x _ _ _ (by simp)];simp
             have hn6c:=hn6.blk.cell (i:=0) rfl
             have hnM6:∀b,h.size<=b->b<h3.size->¬(eI nb v6 b\/h6.size<=b):=by
              rintro b hb hb' ((k1|k1)|k1)
              · omega
              · rcases nx36.own b k1.symm with k2|k2
                · have:=hown b k2;omega
                · omega
              · omega
             have hnew6:∀t,cn gI (h6.push (.cells #[.int .i64 ((lay x (ss++[⟨0,0,[],0⟩]) ss.length).2:Nat),.int .i64 (to:Nat)] t)) (fun b=>dn v6.ownBlock b\/b=nb\/O b) (.slice (some ⟨h6.size,0,none⟩) 2 2) [(lay x (ss++[⟨0,0,[],0⟩]) ss.length).2,to]:=fun t=>Kv t _ _ (by
              rintro(k1|k1|k1)
              · have:=hown6 _ k1.symm;omega
              · omega
              · have:=hO3 _ k1;omega)
             generalize hout:lay x (ss++[⟨0,0,[],0⟩]) ss.length=out at *;have hn7:cu (h6.push (.cells #[.int .i64 (out.2:Nat),.int .i64 (to:Nat)] 3)) O nb v6 out.1 st:=hn6.ax (Ext.push _ _ _) (fun _ _ k=>k);obtain⟨g,c6,cs6,hv6,hg1,hg2,hg3,hg4,hg5,hg6⟩:=hn7.row.put hpre;obtain⟨w6,rfl,_⟩:=hg5;subst hv6;have hput:=hg6 5 (.slice (some ⟨h6.size,0,none⟩) 2 2) ⟨0,0,[out.2,to],0⟩ (by decide) ⟨_,rfl,hnew6 _⟩;have hgb:h6.size=g\/g<h6.size:=by have:=hown6 g rfl;omega
             have hg6':g<h6.size:=(hown6 g rfl).2;have hcell7:cellAt (h6.push (.cells #[.int .i64 (out.2:Nat),.int .i64 (to:Nat)] 3)) ⟨g,0+ss.length*7+5,none⟩=some w6:=hg3 5 _ rfl;have m6:=hnM6 h1.size (by omega) (by omega);have j4:¬h1.size=g:=fun k=>m6 (.inl (.inr (by rw[k];rfl)))
             have j3:¬h6.size<=h.size:=by omega
             have j0:¬h6.size<=nb:=by omega
             have j5:¬h6.size<=h2.size:=by omega
             refine bF 7 255 (by kernel_rfl) rfl ?_;refine aR (by kernel_rfl) ?_;refine xu [0,1,2,3,4,5,6,12,13,15,16,25,37,58,72] rfl ?_;refine au rfl ?_;refine bU (fun b=>Array.size h6<=b) (fun i=>Nat.blt i 10) (sz:=11) (listed:= #[false,false,false,false,false,false,false,false,false,false,false]) func114 H.mixed rfl rfl rfl ?_;refine bf 0 1 (by kernel_rfl) rfl (fun h' e=>af H.lS rfl (e.cell j3 (q3'.cell (i:=0) rfl))) ?_;refine bF 1 3 (by kernel_rfl) rfl ?_;refine bf 2 7 (by kernel_rfl) rfl (fun h' e=>aa (off:=0) underlying139 rfl rfl H.gx rfl) ?_;refine bf 3 15 (by kernel_rfl) rfl (fun h' e=>af H.iD rfl (e.cell j0 hn6c)) ?_;refine bF 4 31 (by kernel_rfl) rfl ?_;refine bF 5 63 (by kernel_rfl) rfl ?_;refine bf 6 127 (by kernel_rfl) rfl (fun h' e=>af H.bD rfl (e.cell j5 (q5'.cell (i:=0) rfl))) ?_;refine dK 7 255 (by kernel_rfl) rfl (av.bC (us:=[_,_]) underlying44 H.nH rfl rfl (by decide) (by simp[Value.oneCell'])) ?_;rintro _ _ ⟨rfl,rfl⟩;refine⟨fun _=>by first|exact Ext.push _ _ _|assumption,?_⟩;refine dK 8 511 (by kernel_rfl) rfl (ak.aX (ak.aF underlying137 H.lG rfl rfl ss.length rfl rfl (by omega))) ?_;rintro _ hq_ ⟨rfl,hqe_⟩;replace hqe_:=hqe_.symm;subst hqe_;refine⟨fun _=>Ext.refl _ _,?_⟩;refine bf 9 1023 (by kernel_rfl) rfl (fun h' e=>aa (off:=5) underlying149 rfl rfl H.fS rfl) ?_;refine iF 10 2047 (by kernel_rfl) rfl (cj H.fS rfl rfl rfl hcell7 (hg4 _)) ?_;rintro _ _ ⟨rfl,rfl⟩;refine⟨fun hk=>(nomatch hk),?_⟩;refine aR (by kernel_rfl) ?_;refine xu [0,1,2,3,4,5,6,12,13,15,16,25,37,58,72] rfl ?_;refine au rfl ?_;refine xr func114 rfl ?_;refine xp rfl (aa (off:=0) underlying143 rfl rfl H.aQ rfl) ?_;have hz7:∀u,(dS (h6.push (.cells #[.int .i64 (out.2:Nat),.int .i64 (to:Nat)] 3)) ⟨g,0+ss.length*7+5,none⟩ u).size=h6.size+1:=fun u=>by rw[iY];simp
             have ex7:∀u,Ext (fun b=>b=g) h6 (dS (h6.push (.cells #[.int .i64 (out.2:Nat),.int .i64 (to:Nat)] 3)) ⟨g,0+ss.length*7+5,none⟩ u):=fun u=>⟨by rw[hz7];omega,fun b hb hn=>by rw[(Ext.dS (M:=fun b=>b=g) _ _ u rfl).block b (by simp;omega) hn,(Ext.push (fun _=>False) h6 _).block b hb (fun k=>k)]⟩
             refine xp rfl (af H.bD rfl ((q4'.ext (ex7 _) j4).cell (i:=0) rfl)) ?_;refine aS 1 [0,1,2,3,4,5,6,12,13,15,16,25,37,58,72,97] rfl ?_;refine aO rfl rfl (fun _=>?_) (fun hc=>absurd hc (by decide));refine aY func114 2 [0,1,2,3,4,5,6,12,13,15,16,25,37,58,72,97] rfl ?_;refine aK func114 rfl rfl ?_;exact⟨_,rfl,_,rfl,⟨hn6.blk.ext (ex7 _) (by have:=hown6 g rfl;omega),hput⟩,((nx3.trans nx36 (fun _ _ k=>k)).trans ⟨(ex7 _).mono (fun b _ k=>.inl (.inr (by rw[k];rfl))),fun b k=>.inl k⟩ (fun _ _ k=>k))⟩
           · have h5k':¬k=5:=kk h5k;have hlay:lay (.mk k s kids) ss to=(ss,to):=by rw[lay];simp[h1k',h2k',h3k',h4k',h5k',h6k']
             rw[hlay];refine aA rfl ?_;refine G.aT ?_;refine xr func114 rfl ?_;refine xp rfl (af H.bD rfl (q5.cell (i:=0) rfl)) ?_;refine aS 1 [0,1,2,3,4,5,6,15,16,25,37,58,72] rfl ?_;refine aK func114 rfl rfl ?_;exact⟨_,rfl,v,rfl,hn3,nx3⟩
theorem E3:∀n,FU n
 | 0=>by
  intro hs;have:=B4 ‹Nd›;omega
 |n+1=>E4 (E3 n)
def xU:iM By:=.flat (fun s=>.string (bs s)) fun _=>rfl
def wN (h h':ay) (rules:List By) (r:Value):Prop :=
 match eU rules with
 |.inl e=>r= .tuple #[.pointer none,.int .i64 e]
 |.inr (ss,st)=>∃nb v,r= .tuple #[.pointer (some ⟨nb,0,none⟩),.int .i64 0]/\h.size<=nb/\cu h' (fun b=>b<h.size) nb v ss st
theorem FN (i:Nat) (hn:cu h O nb v ss st) (hO:∀b,O b->b<h.size) (hl:ss.length<=1000000) :
 ah Tryz.prog 115 #[.pointer (some ⟨nb,0,none⟩),.agg #[.int .i64 2,.int .u64 0,.int .u64 0,.int .u64 0,.int .u64 0,.slice none 0 0,.int .i64 (i:Nat)]] h (bX (GY O nb h v st (ss++[⟨2,0,[],i⟩],ss.length))):=by
 have h1:=yl (x:=⟨2,0,[],i⟩) hn hO ⟨.slice none 0 0,rfl,cn.nil _ _ _⟩ hl;simp only[CW,HC] at h1;exact h1
theorem Bd {lim:Nat}(hg:Sg h lim) (hlim:lim<=h.size){rv:Value}(hr:cn xU h (fun _=>False) rv rules) (hrl:∀s∈rules,s.length<=1000000) :
 ah Tryz.prog 101 #[rv] h (bX fun r h'=>wN h h' rules r/\aD h h'):=by
 obtain⟨oa,kn,kc,rfl,hsl⟩:=id hr.open;have hkn:=hsl.len;have hkc:=hsl.le;have hcap:=hsl.cap;generalize htgt:kq 0 rules [] []=tgt;refine ah.of func101 rfl rfl ?_;refine aY func101 2 [0,2,3] rfl ?_;refine au rfl ?_;refine au rfl ?_;refine G.bu [(18,.bool (decide (kn=0\/64<kn)))] [(0,_),(2,_),(3,_)] ⟨rfl,rfl,rfl,trivial⟩ func101 rfl ?_ ?_
 · refine cx 1 rfl rfl (ak.aN underlying24 rfl) ?_;refine aV 2 rfl ?_;refine aH (d:=14) rfl (fun hg=>?_) (fun hg=>?_)
   · refine aV 4 rfl ?_;refine aC rfl ?_;exact⟨rfl,az rfl (by have:=of_decide_eq_true hg;simp;omega),rfl,rfl,rfl,trivial⟩
   · refine cx 1 rfl rfl (ak.aN underlying24 rfl) ?_;refine aV 2 rfl ?_;refine aC rfl ?_;exact⟨rfl,az rfl (by have:=of_decide_eq_false hg;simp only[decide_eq_decide];omega),rfl,rfl,rfl,trivial⟩
 · refine aG rfl rfl (fun hbig=>?_) (fun hbig=>?_)
   · refine aY func101 2 [0,2,3,18] rfl ?_;refine aK func101 rfl rfl ?_;refine⟨_,rfl,?_,Ext.refl _ _⟩;have:eU rules= .inl 2:=by unfold eU;rw[if_pos (show rules.length=0\/64<rules.length by omega)]
     rw[wN,this];rfl
   · have hmk:eU rules=match kq 0 rules [] [] with|.inl e=>.inl e|.inr (ss,t)=>if 2000<uY rules then .inl 70 else .inr (ss++[⟨0,0,t,0⟩],ss.length):=by unfold eU;rw[if_neg (show ¬(rules.length=0\/64<rules.length) by omega)]<;>rfl
     rw[htgt] at hmk;refine aA rfl ?_;refine xr func101 rfl ?_;refine xp rfl (aP (H.IB ) rfl) ?_;refine xo rfl (av.cR rfl) ?_;rintro _ h1 ⟨rfl,q4,e1,z1⟩;have q4:br h1 h.size 139 [.slice none 0 0,.int .i64 (0:Nat)]:=q4;have hn1:cu h1 (fun b=>b<h.size) h.size (.slice none 0 0) [] 0:=⟨q4,gO.nil _ _ _ _ _⟩
     refine aS 1 [0,2,3,4,18] rfl ?_;refine aY func101 1 [0,2,3,4,5,18] rfl ?_;refine aY func101 1 [0,2,3,4,5,6,18] rfl ?_;refine au rfl ?_;refine bB func101 1 rfl ?_;refine xp rfl (ak.aN underlying24 rfl) ?_;refine aS 1 [0,2,3,4,5,6,18,21,22,23] rfl ?_;refine G.block rfl rfl ?_;refine bT (σ:=Nat×Value) (fun p=>[(4,.pointer (some ⟨h.size,0,none⟩)),(5,p.2),(6,.int .i64 (uY (rules.take p.1):Nat)),(21,.slice oa kn kc),(22,.int .i64 (kn:Nat)),(23,.int .i64 (p.1:Nat))]) (fun p h'=>p.1<=kn/\∃v ss t,cu h' (fun b=>b<h.size\/dn p.2.ownBlock b) h.size v ss 0/\gO gI (fun _=>True) h' h1.size 3 p.2 t/\Nx (fun _=>False) h.size h1 (.slice none 0 0) h' v/\(∀b,p.2.ownBlock=some b->v.ownBlock≠some b)/\(ss.length<=402*p.1/\uY (rules.take p.1)<=200*p.1/\t.length=p.1)/\kq p.1 (rules.drop p.1) ss t=tgt) (fun p=>kn-p.1) ((0,.slice none 0 0)) rfl ⟨rfl,rfl,rfl,rfl,rfl,rfl,trivial⟩ ⟨Nat.zero_le _,_,[],[],hn1.ax (Ext.refl _ _) (fun b _ k=>k.elim id (fun k=>by cases k)),gO.nil _ _ _ _ _,Nx.refl,fun b hb=>(by cases hb),⟨Nat.zero_le _,by simp[uY],rfl⟩,htgt⟩ ?_;rintro⟨i,tv⟩ g0 ⟨hi,v,ss,t,hng,htg,nxg,hdist,⟨hss,htot,htl⟩,hcon⟩ ih
     try dsimp only
     dsimp only at hi hng htg nxg hdist hss htot htl hcon;have hz0:=nxg.ext.size;have htv:∀b,tv.ownBlock=some b->h1.size<=b/\b<g0.size:=fun b hb=>by obtain⟨_,_,k,_⟩:=id htg;exact k.lt hb
     have e0g:aD h g0:=⟨by omega,fun b hb _=>(nxg.ext.block b (by omega) (by
      rintro((k|k)|k)
      · omega
      · cases k
      · exact k)).trans (e1.block b hb (fun k=>k))⟩
     have hown:=hng.own;have hnlt:=hng.blk.lt;refine aY func101 1 [4,5,6,21,22,23,24] rfl ?_;refine au rfl ?_;refine aG rfl rfl (fun hlt=>?_) (fun hlt=>?_)
     · obtain⟨s,hs⟩:∃s,rules[i]? =some s:=⟨_,List.getElem?_eq_getElem (by omega)⟩
       have hdr:rules.drop i=s::rules.drop (i+1):=by
        obtain⟨hi',rfl⟩:=List.getElem?_eq_some_iff.1 hs;exact List.drop_eq_getElem_cons hi'
       rw[hdr,kq] at hcon;obtain⟨oa',n',c',hv',_,_,_,hget⟩:=id (hr.ax e0g);cases hv';obtain⟨b,o,cs,ha,hob,hrow,rfl⟩:=hget i s hs;refine aA rfl ?_;refine au rfl ?_;refine G.block rfl rfl ?_;refine bB func101 1 rfl ?_;refine xp rfl (ak.aF underlying24 H.ct rfl rfl i rfl ha (by omega)) ?_;refine xp rfl (af H.cT rfl (hrow 0 _ rfl)) ?_;refine aS 2 [4,5,6,7,8,21,22,23,24] rfl ?_;refine bB func101 1 rfl ?_;refine xo rfl (aj (vs:=[_]) func113 rfl H.JJ rfl (ah.aX (zb (hg.ext e0g (fun _ k=>k.elim)) (by omega) s (hrl s (List.mem_of_getElem? hs))))) ?_;rintro _ g1 ⟨⟨w,rfl,hnd⟩,e01⟩;refine aV 3 rfl ?_;refine xo rfl (av.aW H.jT) ?_;rintro _ g2 ⟨rfl,k9,e12,z12⟩;refine RW.bh rfl rfl rfl (av.an H.b9 rfl rfl k9 (by first|rfl|(simp;done)|(simp;omega)) (by first|decide|exact of_decide_eq_true rfl|(simp;done)|(simp;omega)) (b6.one hnd)) ?_;rintro _ g3 ⟨rfl,k9',e23,z23⟩;refine aS 1 [4,5,6,7,8,9,10,21,22,23,24] rfl ?_;refine au rfl ?_;refine aY func101 2 [4,5,6,7,8,9,10,21,22,23,24,34] rfl ?_;have k9':br g3 g1.size 143 (dV (bY s).1.kind (bY s).1.set w):=k9';refine aG rfl rfl (fun herr=>?_) (fun herr=>?_)
       · rw[if_pos (by exact herr)] at hcon;refine aY func101 3 [2,3,4,5,6,7,8,9,10,21,22,23,24,34] rfl ?_;refine aK func101 rfl rfl ?_;have e3:aD h g3:=(e0g.trans e01).trans (e12.only e23 (Nat.le_refl _));refine⟨_,rfl,?_,e3⟩;rw[<-hcon] at hmk;rw[wN,hmk];rfl
       · have h0:(bY s).2=0:=by simpa using herr
         rw[if_neg (by simpa using h0)] at hcon;have hsmall:=pJ h0;have hbs:=aZ s;have ecc:aD g1 g3:=e12.only e23 (Nat.le_refl _);have e03:aD g0 g3:=e01.trans ecc;have hz1:=e01.size;have hz3:=ecc.size;have hz13:g1.size<g3.size:=by omega
         refine aA rfl ?_;refine au rfl ?_;refine G.bu [(6,.int .i64 (uY (rules.take (i+1)):Nat))] [(4,_),(5,_),(7,_),(8,_),(9,_),(10,_),(21,_),(22,_),(23,_),(24,_),(34,_)] ⟨rfl,rfl,rfl,rfl,rfl,rfl,rfl,rfl,rfl,rfl,rfl,trivial⟩ func101 rfl ?_ ?_
         · refine cx 2 rfl rfl (ak.bp underlying9 rfl) ?_;refine xp rfl (ak.bL rfl rfl ⟨by omega,by omega⟩) ?_;refine aV 1 rfl ?_;refine aC rfl ?_;exact⟨rfl,(by show some (Value.int _ _)=some (Value.int _ _);rw[vE hs];congr 2),rfl,rfl,rfl,rfl,rfl,rfl,rfl,rfl,rfl,rfl,rfl,trivial⟩
         · have hn3:cu g3 (fun b=>b<h.size\/dn tv.ownBlock b) h.size v ss 0:=hng.ax e03 (fun _ _ k=>k);have hO3:∀b,(b<h.size\/dn tv.ownBlock b)->b<g3.size:=fun b hb=>by rcases hb with k|k;omega;(have:=htv b k.symm;omega)
           have hnd3:b6 g3 (eI h.size v) (dV (bY s).1.kind (bY s).1.set w) (bY s).1:=hnd.mv ⟨ecc.size,fun b hb hn=>⟨ecc.block b hb (fun k=>k),by
            rintro(k|k)
            · exact hn (by show b<g0.size;omega)
            · exact hn (by show b<g0.size;exact(hown b k.symm).2)⟩⟩
           have hK1:¬(eI h.size v g1.size\/False):=by
            rintro((k|k)|k)
            · omega
            · have:=hown _ k.symm;omega
            · exact k
           refine bU (fun b=>¬b=Array.size g1) (fun i=>Nat.blt i 11) (sz:=11) (listed:= #[false,false,false,false,false,false,false,false,false,false,false]) func101 H.mixed rfl rfl rfl ?_;refine bF 0 1 (by kernel_rfl) rfl ?_;refine bF 1 3 (by kernel_rfl) rfl ?_;refine bf 2 7 (by kernel_rfl) rfl (fun h' e=>ak.aq H.eN H.b9 rfl (e.rowAt (fun k=>k rfl) k9'.row) (by first|rfl|(simp;done)|(simp;omega))) ?_;refine bF 3 15 (by kernel_rfl) rfl ?_;refine bF 4 31 (by kernel_rfl) rfl ?_;refine bf 5 63 (by kernel_rfl) rfl (fun h' e=>aP (H.DS _ _) rfl) ?_;refine dK 6 127 (by kernel_rfl) rfl (aj (vs:=[_,_]) func115 rfl H.s5 rfl (ah.aX (FN i hn3 hO3 (by omega)))) ?_;rintro _ g4 ⟨v4,rfl,hn4,nx4⟩;refine⟨fun _=>nx4.ext.mono (fun b _ k e=>hK1 (e▸k)),?_⟩;have hz4:=nx4.ext.size
           have hK2:¬(eI h.size v4 g1.size\/False):=by
            rintro((k|k)|k)
            · omega
            · rcases nx4.own _ k.symm with k2|k2
              · exact hK1 (.inl (.inr k2.symm))
              · omega
            · exact k
           refine dK 7 255 (by kernel_rfl) rfl (aj (vs:=[_,_,_]) func114 rfl H.vX rfl (ah.aX (E3 401 (x:=(bY s).1) (to:=ss.length) hsmall.1 hn4 (fun b hb=>by have:=hO3 b hb;omega) (hnd3.mv nx4.IS) hsmall.2.1 (by have:=hsmall.1;simp only[List.length_append,List.length_singleton];omega)))) ?_;rintro _ g5 ⟨v5,rfl,hn5,nx5⟩;refine⟨fun _=>nx5.ext.mono (fun b _ k e=>hK2 (e▸k)),?_⟩;have hz5:=nx5.ext.size;have nx45:Nx (fun _=>False) h.size g3 v g5 v5:=nx4.trans nx5 (fun _ _ k=>k)
           have ht5:gO gI (fun _=>True) g5 h1.size 3 tv t:=(htg.ax e03).D8 nx45.ext (fun b hb=>by
            rintro((k1|k1)|k1)
            · have:=htv b hb;omega
            · exact hdist b hb k1.symm
            · exact k1) (fun _ _ _=>trivial) (fun _ _ _=>trivial)
           obtain⟨css,hc1,hc2,hc3⟩:=id ht5;have hKt:¬dn tv.ownBlock g1.size:=fun k=>by have:=htv _ k.symm;omega
           refine dK 8 511 (by kernel_rfl) rfl (av.bC (us:=[_]) underlying44 H.nH rfl rfl (by decide) (by simp[Value.oneCell'])) ?_;rintro _ _ ⟨rfl,rfl⟩;refine⟨fun _=>by first|exact Ext.push _ _ _|assumption,?_⟩;refine dK 9 1023 (by kernel_rfl) rfl (av.cH underlying44 H.nH rfl rfl (hc2) rfl rfl (by first|decide|simp[Value.oneCell']) (by omega) (by decide) (by omega)) ?_;rintro t6 g6 ⟨ho6,hx6,hx6',hv6⟩;refine⟨fun _=>hx6'.mono (fun b _ k e=>hKt (e▸k)),?_⟩;refine bF 10 2047 (by kernel_rfl) rfl ?_;refine aR (by kernel_rfl) ?_;refine xu [4,5,6,7,8,9,10,21,22,23,24,34] rfl ?_;refine G.aT ?_;refine G.bV func101 rfl ?_;refine xp rfl (ak.bL rfl rfl ⟨by omega,by omega⟩) ?_;refine aS 1 [4,5,6,7,8,9,10,21,22,23,24,34] rfl ?_;have ht6:=gO.om hc1 hc3 ho6 hx6 hv6 (y:=(lay (bY s).1 (ss++[(⟨2,0,[],i⟩:bR)]) ss.length).2) rfl
           have hn6:cu g6 (fun b=>b<h.size\/dn t6.ownBlock b) h.size v5 (lay (bY s).1 (ss++[⟨2,0,[],i⟩]) ss.length).1 0:=hn5.ext hx6 (fun k=>by have:=htv _ k.symm;omega) (fun b hb k=>by
            rcases nx45.own b hb with k'|k'
            · exact hdist b k.symm k'
            · have:=htv b k.symm;omega) (fun b _ k=>.inr k) (fun b hb k=>k.imp id (fun k=>by
              rcases hv6 b k.symm with k'|k'
              · exact k'.symm
              · omega))
           have hd6:∀b,t6.ownBlock=some b->v5.ownBlock≠some b:=fun b hb k=>by
            rcases hv6 b hb with k'|k'
            · rcases nx45.own b k with k2|k2
              · exact hdist b k' k2
              · have:=htv b k';omega
            · have:=(hn5.own b k).2;omega
           have nx05:Nx (fun _=>False) h.size h1 (.slice none 0 0) g5 v5:=(nxg.trans (Nx.IQ e03) (fun _ _ k=>k)).trans nx45 (fun _ _ k=>k);have nx06:Nx (fun _=>False) h.size h1 (.slice none 0 0) g6 v5:=⟨⟨by have:=hx6.size;omega,fun b hb hn=>by rw[hx6.block b (by omega) (fun k=>by have:=htv b k.symm;omega)];exact nx05.ext.block b hb hn⟩,nx05.own⟩
           have hlenl:=(fN (bY s).1 (ss++[⟨2,0,[],i⟩]) ss.length).2;rw[List.length_append,List.length_singleton] at hlenl;have htt:=vE hs;exact ih (i+1,t6) _ _ ⟨rfl,rfl,rfl,rfl,rfl,rfl,trivial⟩ ⟨by show i+1<=kn;omega,v5,_,_,hn6,ht6,nx06,hd6,⟨by have:=hsmall.1;show _<=402*(i+1);omega,by have:=hsmall.2.2;show uY (rules.take (i+1))<=200*(i+1);omega,by simp[htl]⟩,hcon⟩ (by show kn-(i+1)<kn-i;omega)
     · obtain rfl:i=kn:=by omega
       have hall:rules.take i=rules:=List.take_of_length_le (by omega);have hnil:rules.drop i=[]:=List.drop_of_length_le (by omega);rw[hnil,kq] at hcon;rw[<-hcon] at hmk;rw[hall] at htot;simp only[hall];refine bN rfl rfl ?_;refine au rfl ?_;refine aY func101 2 [4,5,6,21,22,23,24,52] rfl ?_;refine aG rfl rfl (fun hbig2=>?_) (fun hbig2=>?_)
       · refine aY func101 2 [2,3,4,5,6,21,22,23,24,52] rfl ?_;refine aK func101 rfl rfl ?_;refine⟨_,rfl,?_,e0g⟩;have:eU rules= .inl 70:=by rw[hmk];exact if_pos (by omega)
         rw[wN,this];rfl
       · have hmk2:eU rules= .inr (ss++[⟨0,0,t,0⟩],ss.length):=by rw[hmk];exact if_neg (by omega)
         have hrd:cn gI g0 (fun b=>eI h.size v b\/b<h.size) tv t:=htg.ED (fun b hb=>by
          rintro((k1|k1)|k1)
          · have:=htv b hb;omega
          · exact hdist b hb k1.symm
          · have:=htv b hb;omega) (fun _ _ _=>trivial)
         obtain⟨oa9,n9,c9,rfl,_⟩:=id hrd;refine aA rfl ?_;refine bB func101 3 rfl ?_;refine xp rfl (aP (H.yh _ _ _) rfl) ?_;refine xo rfl (aj (vs:=[_,_]) func115 rfl H.s5 rfl (ah.aX (mS (O:=fun b=>b<h.size) (to:=t) (hng.ax (Ext.refl _ _) (fun b _ k=>.inl k)) (fun b hb=>by omega) hrd (by omega)))) ?_;rintro _ g4 ⟨v4,rfl,hn4,nx4⟩;refine cx 1 rfl rfl (aa (off:=1) underlying139 rfl rfl H.aQ rfl) ?_;refine RW.bh rfl rfl rfl (av.aE H.aQ rfl rfl hn4.blk (by first|decide|exact of_decide_eq_true rfl|(simp;done)|(simp;omega)) rfl) ?_;rintro _ g5 ⟨rfl,hk5,hx5,hz5⟩;refine xd [4,5,6,21,22,23,24,52] rfl ?_;refine aY func101 3 [2,3,4,5,6,21,22,23,24,52] rfl ?_;refine aK func101 rfl rfl ?_;have hn5:cu g5 (fun b=>b<h.size) h.size v4 (ss++[⟨0,0,t,0⟩]) ss.length:=⟨hk5,hn4.row.D8 hx5 (fun b hb k=>by have:=(hn4.own b hb).1;omega) (fun b _ k=>.inl k) (fun b _ k=>k)⟩
         have e4:aD h g5:=⟨by have:=hx5.size;have:=nx4.ext.size;omega,fun b hb _=>by
          rw[hx5.block b (by have:=nx4.ext.size;omega) (by omega),nx4.ext.block b (by omega) ?_]
          · exact e0g.block b hb (fun k=>k)
          · rintro((k|k)|k)
            · omega
            · rcases nxg.own b k.symm with k2|k2
              · cases k2
              · omega
            · exact k⟩
         refine⟨_,rfl,?_,e4⟩;rw[wN,hmk2];exact⟨h.size,v4,rfl,Nat.le_refl _,hn5⟩
theorem oo (hn:cu h O nb v ss st):ah Tryz.prog 137 #[.pointer (some ⟨nb,0,none⟩)] h (bX fun r h'=>r= .bool (decide (ss.length=0))/\h'=h):=by
 obtain⟨css,hc1,hc2,hc3⟩:=id hn.row;obtain⟨oa,c,rfl,_⟩:=hc2.open;refine ah.of func137 rfl rfl ?_;refine aY func137 1 [0,2] rfl ?_;refine au rfl ?_;refine G.bu [(2,.bool (decide (ss.length=0)))] [(0,_)] ⟨rfl,trivial⟩ func137 rfl ?_ ?_
 · refine cx 1 rfl rfl (ak.qE underlying112 rfl rfl) ?_;refine aV 1 rfl ?_;refine RW.dZ (d:=5) (b':=false) rfl (rfl) ?_;refine cx 2 rfl rfl (aa (off:=0) underlying139 rfl rfl H.gx rfl) ?_;refine xp rfl (af H.iD rfl (hn.blk.cell (i:=0) rfl)) ?_;refine xp rfl (ak.aN underlying137 rfl) ?_;refine aV 3 rfl ?_;refine aC rfl ?_;exact⟨rfl,az rfl (by simp only[decide_eq_decide];omega),rfl,trivial⟩
 · refine aK func137 rfl rfl ?_;exact⟨_,rfl,rfl,rfl⟩
theorem EH {base:Nat}{t:TypeId}{m:Nat}(k:cN cZ h base t v todo) (hm:todo.length=m+1) :
 ∃g c x,v= .slice (some ⟨g,0,none⟩) (m+1) c/\m+1<=c/\g<h.size/\base<=g/\cellAt h ⟨g,0+m*1,none⟩=some (.int .i64 (x:Nat))/\todo=todo.dropLast++[x] /\
  cN cZ h base t (.slice (cI (some ⟨g,0,none⟩) 0 1 c) m c) todo.dropLast/\(Value.slice (cI (some ⟨g,0,none⟩) 0 1 c) m c).ownBlock=some g:=by
 have k':aM h base t 1 v todo.length (todo.map cZ):=k;obtain⟨oa,c,rfl,ho⟩:=k'.open;have hne:todo≠[]:=by intro e;rw[e] at hm;cases hm
 have hlast:todo=todo.dropLast++[todo.getLast hne]:=(List.dropLast_concat_getLast hne).symm
 have hx:(todo.map cZ)[m]? =some (cZ (todo.getLast hne)):=by
  rw[List.getElem?_map,List.getLast_eq_getElem,List.getElem?_eq_getElem (by omega)];simp[hm]
 obtain⟨g,rfl,hb,hlt,hc,_⟩:=ho.at hx;have ht:=ho.take (m:=m) (by omega) 1
 have hd:(todo.map cZ).take (m*1)=todo.dropLast.map cZ:=by
  rw[Nat.mul_one,List.dropLast_eq_take,hm,Nat.add_sub_cancel,List.map_take]
 rw[hd] at ht;refine⟨g,c,todo.getLast hne,by rw[hm],by have:=ho.le;omega,hlt,hb,hc,hlast,?_,?_⟩
 · have hl:todo.dropLast.length=m:=by simp[hm]
   unfold cN;rw[hl];exact ht
 · unfold cI;split<;>simp[Value.ownBlock,Addr.add]
theorem cu.get (k:cu h O nb v ss st) (hx:ss[i]? =some x) :
 ∃g c w,v= .slice (some ⟨g,0,none⟩) ss.length c/\g<h.size/\Lw.rowAt h g (0+i*7) (CW x.kind x.set w x.rule)/\cn gI h (fun b=>dn v.ownBlock b\/b=nb\/O b) w x.to:=by
 obtain⟨g,c,cs,rfl,_,hg,hrow,_,⟨w,rfl,hw⟩,_⟩:=k.row.put hx;exact⟨g,c,w,rfl,hg,hrow,hw⟩
theorem Au {oa:Option Addr}{c:Nat}{xs:List Nat}(k:cn gI h O (.slice oa n c) xs):xs.length=n/\(n=0\/∃b o,oa=some ⟨b,o,none⟩/\Lw.rowAt h b o (xs.map cZ))/\n<=maxLen:=by
 obtain⟨oa',n',c',hv,hl,hc,hm,hg⟩:=k;cases hv;have hs:Sl gI h O oa n c xs:=⟨hl,hc,hm,hg⟩
 exact⟨hl,Sl.row hs,by omega⟩
theorem BE (ht:todo.getLast? =some i) (hs:seen[i]? =some true):iO ss (n+1) todo seen=iO ss n todo.dropLast seen:=by
 rw[iO,ht];simp[hs]
theorem DP (ht:todo.getLast? =some i) (hs:seen[i]? =some false) (hx:ss[i]? =some x):iO ss (n+1) todo seen=iO ss n (if x.kind=0 then todo.dropLast++x.to else todo.dropLast) (seen.set i true):=by
 rw[iO,ht];simp[hs,hx]
theorem DO:iO ss n [] seen=seen:=by cases n<;>simp[iO]
def D6 (ss:List bR) (seen:List Bool) (i:Nat):Bool:=seen[i]? ==some true && (ss[i]?.map (·.kind)) !=some 0
theorem qd {tv:Value}{base:Nat}{tb:Option Nat}(hn:cu h O nb v ss st) (hgood:Good ss) (hss:ss.length<=1000000) (htd:cN cZ h base 3 tv todo) (htb:tv.ownBlock=tb)
 (hbase:base<=h.size) (hOt:∀b,tb=some b->O b/\b≠nb/\v.ownBlock≠some b) (hlt:∀j∈todo,j<ss.length) (hpot:todo.length+qX ss (List.replicate ss.length false)<=1000000) :
 ah Tryz.prog 138 #[.pointer (some ⟨nb,0,none⟩),tv] h (bX fun r h'=>cN cZ h' h.size 3 r (closed ss todo)/\Ext (dn tb) h h'):=by
 obtain⟨css,hc1,hc2,hc3⟩:=id hn.row;obtain⟨va,vc,rfl,_⟩:=hc2.open
 have htl:tb=none\/∃b,tb=some b/\b<h.size:=by
  cases tb with
  |none=>exact .inl rfl
  |some b=>exact .inr ⟨b,rfl,(aM.lt htd htb).2⟩
 obtain⟨oa,c,rfl,_⟩:=(show aM h base 3 1 tv todo.length (todo.map cZ) from htd).open;generalize htgt:iO ss (todo.length+qX ss (List.replicate ss.length false)) todo (List.replicate ss.length false)=tgt;refine ah.of func138 rfl rfl ?_;refine aY func138 1 [0,1,4] rfl ?_;refine au rfl ?_;refine bB func138 1 rfl ?_;refine xp rfl (ak.aN underlying44 rfl) ?_;refine aS 1 [0,1,4,12] rfl ?_;refine aG rfl rfl (fun hz=>?_) (fun hz=>?_)
 · refine aY func138 1 [0,1,4,12] rfl ?_;refine aK func138 rfl rfl ?_;have:closed ss todo=[]:=by unfold closed;rw[if_pos (by omega)]
   rw[this];exact⟨_,rfl,cN.nil _ _ _ _,Ext.refl _ _⟩
 · refine aA rfl ?_;refine bB func138 2 rfl ?_;refine xp rfl (aa (off:=0) underlying139 rfl rfl H.gx rfl) ?_;refine xp rfl (af H.iD rfl (hn.blk.cell (i:=0) rfl)) ?_;refine xp rfl (ak.aN underlying137 rfl) ?_;refine xo rfl (av.mu underlying25 H.JY H.Lb rfl rfl rfl (by omega) (by decide)) ?_;rintro _ h1 ⟨rfl,hk1,e1⟩;refine aS 1 [0,1,4,5,12] rfl ?_;refine au rfl ?_;refine G.block rfl rfl ?_;refine bT (σ:=Nat×Value×List Nat×List Bool) (fun q=>[(0,.pointer (some ⟨nb,0,none⟩)),(1,q.2.1),(5,.slice (some ⟨h.size,0,none⟩) ss.length ss.length)]) (fun q h'=>Ext (dn tb) h h'/\cN cZ h' base 3 q.2.1 q.2.2.1/\(∀b,q.2.1.ownBlock=some b->tb=some b\/h1.size<=b)/\aM h' h.size 4 1 (.slice (some ⟨h.size,0,none⟩) ss.length ss.length) ss.length (q.2.2.2.map .bool)/\q.2.2.2.length=ss.length/\(∀j∈q.2.2.1,j<ss.length)/\(q.2.2.1.length+qX ss q.2.2.2<=q.1/\q.1<=1000000/\h1.size<=h'.size)/\iO ss q.1 q.2.2.1 q.2.2.2=tgt) (fun q=>q.1) ((todo.length+qX ss (List.replicate ss.length false),.slice oa todo.length c,todo,List.replicate ss.length false)) rfl ⟨rfl,rfl,rfl,trivial⟩ ⟨e1.mono fun _ _ k=>k.elim,aM.Fq htd e1,fun b hb=>.inl (htb.symm.trans hb),by simpa using hk1,by simp,hlt,⟨Nat.le_refl _,hpot,Nat.le_refl _⟩,htgt⟩ ?_;rintro⟨n,dv,td,seen⟩ g ⟨eg,hd,hdo,hs,hsl,hlt',⟨hp,hn1,hgz⟩,hcon⟩ ih
   try dsimp only
   dsimp only at hd hdo hs hsl hlt' hp hn1 hcon;have hz1:h.size<h1.size:=by have:=(aM.lt hk1 rfl).2;exact this
   have hsow:=hs.open;obtain⟨sa,sc,hsv,hsow⟩:=hsow;cases hsv
   rcases Nat.eq_zero_or_pos td.length with hpos|hpos
   · obtain rfl:td=[]:=List.eq_nil_of_length_eq_zero hpos;obtain⟨oad,cd,rfl,_⟩:=(show aM g base 3 1 dv ([]:List Nat).length (([]:List Nat).map cZ) from hd).open;rw[DO] at hcon;refine au rfl ?_;refine bB func138 1 rfl ?_;refine xp rfl (ak.aN underlying44 rfl) ?_;refine aS 1 [0,1,5,21] rfl ?_;refine aO rfl rfl (fun hc=>absurd hc (by simp)) (fun _=>?_);have hnc:∀{h':ay},Ext (dn tb) h h'->cu h' O nb (.slice va ss.length vc) ss st:=fun e=>hn.ext e (fun k=>(hOt nb k.symm).2.1 rfl) (fun b hb k=>(hOt b k.symm).2.2 hb) (fun b _ k=>(hOt b k.symm).1) (fun _ _ k=>k)
     have hcl:closed ss todo=(List.range ss.length).filter (D6 ss seen):=by
      unfold closed;rw[if_neg (by omega),htgt,<-hcon];rfl
     refine bN rfl rfl ?_;refine aY func138 1 [0,1,5,7,21] rfl ?_;refine au rfl ?_;refine bB func138 1 rfl ?_;refine xp rfl (ak.aN underlying25 rfl) ?_;refine aS 1 [0,1,5,7,21,59,60,61] rfl ?_;refine G.block rfl rfl ?_;refine bT (σ:=Nat×Value) (fun q=>[(0,.pointer (some ⟨nb,0,none⟩)),(7,q.2),(59,.slice (some ⟨h.size,0,none⟩) ss.length ss.length),(60,.int .i64 (ss.length:Nat)),(61,.int .i64 (q.1:Nat))]) (fun q h'=>q.1<=ss.length/\aD g h'/\cN cZ h' g.size 3 q.2 ((List.range q.1).filter (D6 ss seen))) (fun q=>ss.length-q.1) ((0,.slice none 0 0)) rfl ⟨rfl,rfl,rfl,rfl,rfl,trivial⟩ ⟨Nat.zero_le _,Ext.refl _ _,cN.nil _ _ _ _⟩ ?_;rintro⟨i,ov⟩ g2 ⟨hi,e2,ho2⟩ ih2
     try dsimp only
     dsimp only at hi ho2;have eg2:Ext (dn tb) h g2:=eg.trans (e2.mono fun _ _ k=>k.elim);have hn2:=hnc eg2;have hz2:=e2.size;refine aY func138 1 [0,7,59,60,61,62] rfl ?_;refine au rfl ?_;refine aG rfl rfl (fun hlti=>?_) (fun hlti=>?_)
     · have hil:i<ss.length:=by omega
       obtain⟨bx,hbx⟩:∃bx,seen[i]? =some bx:=⟨_,List.getElem?_eq_getElem (by omega)⟩
       obtain⟨y,hy⟩:∃y,ss[i]? =some y:=⟨_,List.getElem?_eq_getElem hil⟩
       obtain⟨sa2,sc2,hsv2,hsow2⟩:=(aM.Fq hs e2).open;cases hsv2;obtain⟨g',hg',_,hsg,hscell,hsnf⟩:=hsow2.at (i:=i) (x:=.bool bx) (by rw[List.getElem?_map,hbx];rfl);cases hg';obtain⟨gs,cs,ws,hvs,hgs,hrow,hws⟩:=hn2.get hy;cases hvs;have hlen2:((List.range i).filter (D6 ss seen)).length<=i:=by have:=List.length_filter_le (D6 ss seen) (List.range i);simpa using this
       have hnext:(List.range (i+1)).filter (D6 ss seen)=(List.range i).filter (D6 ss seen)++(if D6 ss seen i then [i] else []):=by
        rw[List.range_succ,List.filter_append];cases hpr:D6 ss seen i<;>simp[hpr]
       refine aA rfl ?_;refine au rfl ?_;refine G.block rfl rfl ?_;refine bB func138 1 rfl ?_;refine xp rfl (ak.aF underlying25 H.vF rfl rfl i rfl rfl (by omega)) ?_;refine xp rfl (af H.F1 rfl hscell) ?_;refine aS 2 [0,7,8,9,59,60,61,62] rfl ?_;refine au rfl ?_;refine G.bu [(77,.bool (D6 ss seen i))] [(0,_),(7,_),(8,_),(9,_),(59,_),(60,_),(61,_),(62,_)] ⟨rfl,rfl,rfl,rfl,rfl,rfl,rfl,rfl,trivial⟩ func138 rfl ?_ ?_
       · refine aV 2 rfl ?_;refine aH (d:=67) rfl (fun hg=>?_) (fun hg=>?_)
         · refine cx 2 rfl rfl (aa (off:=0) underlying139 rfl rfl H.gx rfl) ?_;refine xp rfl (af H.iD rfl (hn2.blk.cell (i:=0) rfl)) ?_;refine cx 1 rfl rfl (ak.aF underlying137 H.lG rfl rfl i rfl rfl hil) ?_;refine xp rfl (aa (off:=0) underlying149 rfl rfl H.aQ rfl) ?_;refine xp rfl (af H.bD rfl (hrow 0 _ rfl)) ?_;refine aV 2 rfl ?_;refine aC rfl ?_;exact⟨rfl,az rfl (by subst hg;simp[D6,hbx,hy];by_cases hk0:y.kind=0<;>simp[hk0]),rfl,rfl,rfl,rfl,rfl,rfl,rfl,rfl,trivial⟩
         · refine aV 10 rfl ?_;refine aC rfl ?_;exact⟨rfl,az rfl (by subst hg;simp[D6,hbx]),rfl,rfl,rfl,rfl,rfl,rfl,rfl,rfl,trivial⟩
       · refine aO rfl rfl (fun hb=>?_) (fun hb=>?_)
         · rw[if_pos hb] at hnext;refine G.bV func138 rfl ?_;refine aV 2 rfl ?_;refine xo rfl (av.bC (us:=[_]) underlying44 H.nH rfl rfl (by decide) (by simp[Value.oneCell'])) ?_;rintro _ _ ⟨rfl,rfl⟩;refine xo rfl (av.cH underlying44 H.nH rfl rfl (ho2) rfl rfl (by first|decide|simp[Value.oneCell']) (by omega) (by decide) (by omega)) ?_;rintro ov3 g3 ⟨ho3,hx3,-,hv3⟩;refine aS 1 [0,7,8,9,59,60,61,62,77] rfl ?_;refine G.aT ?_;refine G.bV func138 rfl ?_;refine xp rfl (ak.bL rfl rfl ⟨by omega,by omega⟩) ?_;refine aS 1 [0,7,8,9,59,60,61,62,77] rfl ?_;have ho3':cN cZ g3 g.size 3 ov3 ((List.range (i+1)).filter (D6 ss seen)):=by rw[hnext];exact cN.of (ys:=[i]) ho3 rfl rfl rfl
           have e3:aD g g3:=cN.grown e2 ho2 (Nat.le_refl _) hx3;exact ih2 (i+1,ov3) _ _ ⟨rfl,rfl,rfl,rfl,rfl,trivial⟩ ⟨by show i+1<=_;omega,e3,ho3'⟩ (by show ss.length-(i+1)<ss.length-i;omega)
         · rw[if_neg (by rw[hb];decide)] at hnext;rw[List.append_nil] at hnext;rw[<-hnext] at ho2;refine aA rfl ?_;refine G.aT ?_;refine G.bV func138 rfl ?_;refine xp rfl (ak.bL rfl rfl ⟨by omega,by omega⟩) ?_;refine aS 1 [0,7,8,9,59,60,61,62,77] rfl ?_;exact ih2 (i+1,ov) _ _ ⟨rfl,rfl,rfl,rfl,rfl,trivial⟩ ⟨by show i+1<=_;omega,e2,ho2⟩ (by show ss.length-(i+1)<ss.length-i;omega)
     · obtain rfl:i=ss.length:=by omega
       refine bN rfl rfl ?_;refine aY func138 2 [0,4,7,59,60,61,62] rfl ?_;refine aK func138 rfl rfl ?_;rw[hcl];exact⟨_,rfl,aM.lower ho2 (by omega),eg2⟩
   · obtain⟨m,hm⟩:∃m,td.length=m+1:=⟨td.length-1,by omega⟩
     obtain⟨gd,cd,x,rfl,hcd,hgd,hbd,hcell,hlast,hcut,hcb⟩:=EH hd hm;have hgl:td.getLast? =some x:=by rw[hlast];simp
     have hxl:x<ss.length:=hlt' x (by rw[hlast];simp);have hltd:∀j∈td.dropLast,j<ss.length:=fun j hj=>hlt' j (List.dropLast_subset _ hj)
     have hdl:td.dropLast.length=m:=by simp[hm]
     obtain⟨n,rfl⟩:∃n',n=n'+1:=⟨n-1,by omega⟩
     obtain⟨bx,hbx⟩:∃bx,seen[x]? =some bx:=⟨_,List.getElem?_eq_getElem (by omega)⟩
     obtain⟨y,hy⟩:∃y,ss[x]? =some y:=⟨_,List.getElem?_eq_getElem hxl⟩
     obtain⟨g',hg',_,hsg,hscell,hsnf⟩:=hsow.at (i:=x) (x:=.bool bx) (by rw[List.getElem?_map,hbx];rfl);cases hg';refine au rfl ?_;refine bB func138 1 rfl ?_;refine xp rfl (ak.aN underlying44 rfl) ?_;refine aS 1 [0,1,5,21] rfl ?_;refine aO rfl rfl (fun _=>?_) (fun hc=>absurd hc (by simp only[decide_eq_false_iff_not];omega));refine aA rfl ?_;refine G.block rfl rfl ?_;refine bB func138 2 rfl ?_;refine xp rfl (ak.aN underlying44 rfl) ?_;refine xp rfl (ak.en rfl rfl ⟨by omega,by omega⟩) ?_;refine xp rfl (ak.aF underlying44 H.aQ rfl rfl m (by omega) rfl (by omega)) ?_;refine xp rfl (af H.bD rfl hcell) ?_;refine aS 1 [0,1,5,6,21] rfl ?_;refine bB func138 2 rfl ?_;refine xp rfl (ak.aN underlying44 rfl) ?_;refine xp rfl (ak.en rfl rfl ⟨by omega,by omega⟩) ?_;refine xp rfl (ak.dR underlying44 H.aQ rfl rfl m (by omega) (by omega)) ?_;refine aS 1 [0,1,5,6,21] rfl ?_;refine au rfl ?_;refine bB func138 2 rfl ?_;refine xp rfl (ak.aF underlying25 H.vF rfl rfl x rfl rfl (by omega)) ?_;refine xp rfl (af H.F1 rfl hscell) ?_;refine xd [0,1,5,6,21,36] rfl ?_;refine aO rfl rfl (fun hb=>?_) (fun hb=>?_)
     · subst hb;rw[BE hgl hbx] at hcon;refine bN rfl rfl ?_;exact ih (n,_,td.dropLast,seen) _ _ ⟨rfl,rfl,rfl,trivial⟩ ⟨eg,hcut,fun b hb=>hdo b (by rw[<-hb];exact hcb▸rfl),hs,hsl,hltd,⟨by show td.dropLast.length+qX ss seen<=n;omega,by show n<=_;omega,hgz⟩,hcon⟩ (by show n<n+1;omega)
     · subst hb;rw[DP hgl hbx hy] at hcon;have hpt:=xm ss seen x y hy hbx
       have hgne:¬gd=h.size:=fun k=>by
        rcases hdo gd rfl with k2|k2
        · rcases htl with k3|⟨b3,k3,k4⟩
          · rw[k3] at k2;cases k2
          · rw[k3] at k2;cases k2;omega
        · omega
       refine aA rfl ?_;refine bB func138 2 rfl ?_;refine xp rfl (ak.aF underlying25 H.vF rfl rfl x rfl rfl (by omega)) ?_;refine RW.bh rfl rfl rfl (cj H.vF rfl rfl rfl hscell hsnf) ?_;rintro _ g2 ⟨rfl,hg2⟩;have x2:Ext (fun b=>b=h.size) g g2:=by rw[hg2];exact Ext.dS _ _ _ rfl
       have hz2:=x2.size;have eg2:Ext (dn tb) h g2:=⟨by omega,fun b hb hn=>by rw[x2.block b (by omega) (by omega)];exact eg.block b hb hn⟩
       have hs2:aM g2 h.size 4 1 (.slice (some ⟨h.size,0,none⟩) ss.length ss.length) ss.length ((seen.set x true).map .bool):=by
        have k:=(hsow.set (i:=x) rfl hxl (.bool true)).own;rw[<-hg2] at k;rw[List.map_set];exact k
       have hcut2:aM g2 base 3 1 _ td.dropLast.length (td.dropLast.map cZ):=aM.ext x2 hcut (fun b hb k=>hgne (by have:=hcb.symm.trans hb;cases this;exact k));have hn2:cu g2 O nb _ ss st:=hn.ext eg2 (fun k=>(hOt nb k.symm).2.1 rfl) (fun b hb k=>(hOt b k.symm).2.2 hb) (fun b _ k=>(hOt b k.symm).1) (fun _ _ k=>k);obtain⟨gs,cs,ws,hvs,hgs,hrow,hws⟩:=hn2.get hy;cases hvs;have hsl2:(seen.set x true).length=ss.length:=by simpa using hsl
       refine xd [0,1,5,6,21,36] rfl ?_;refine bB func138 2 rfl ?_;refine xp rfl (aa (off:=0) underlying139 rfl rfl H.gx rfl) ?_;refine xp rfl (af H.iD rfl (hn2.blk.cell (i:=0) rfl)) ?_;refine cx 1 rfl rfl (ak.aF underlying137 H.lG rfl rfl x rfl rfl hxl) ?_;refine xp rfl (aa (off:=0) underlying149 rfl rfl H.aQ rfl) ?_;refine xp rfl (af H.bD rfl (hrow 0 _ rfl)) ?_;refine aS 1 [0,1,5,6,21,36,48] rfl ?_;refine aG rfl rfl (fun hk=>?_) (fun hk=>?_)
       · rw[if_pos (by omega)] at hcon;obtain⟨wa,wn,wc,rfl,_⟩:=id hws;obtain⟨hwl,hwn,hwm⟩:=Au hws;rw[hdl] at hcut2;refine G.bV func138 rfl ?_;refine cx 3 rfl rfl (aa (off:=0) underlying139 rfl rfl H.gx rfl) ?_;refine xp rfl (af H.iD rfl (hn2.blk.cell (i:=0) rfl)) ?_;refine cx 1 rfl rfl (ak.aF underlying137 H.lG rfl rfl x rfl rfl hxl) ?_;refine xp rfl (aa (off:=5) underlying149 rfl rfl H.fS rfl) ?_;refine xp rfl (af H.lB rfl (hrow 5 _ rfl)) ?_;refine xo rfl (av.append underlying44 H.nH rfl rfl hcut2 (by simp[hwl]) hwn (by intro u hu;simp at hu;obtain⟨j,_,rfl⟩:=hu;rfl) (by simp only[maxLen];omega) (by omega) (by omega)) ?_;rintro dv3 g3 ⟨hd3,ex3,-,ho3⟩;refine aS 1 [0,1,5,6,21,36,48] rfl ?_;refine G.aT ?_;have hz3:=ex3.size;rw[hcb] at ex3 ho3
         have hd3':cN cZ g3 base 3 dv3 (td.dropLast++y.to):=by
          unfold cN;rw[List.length_append,hdl,hwl,List.map_append];exact hd3
         have hdo3:∀b,dv3.ownBlock=some b->tb=some b\/h1.size<=b:=fun b hb=>by
          rcases ho3 b hb with k|k
          · exact hdo b k
          · exact .inr (by omega)
         have eg3:Ext (dn tb) h g3:=⟨by omega,fun b hb hn=>by
          rw[ex3.block b (by omega) ?_]
          · exact eg2.block b hb hn
          · intro k;cases k
            rcases hdo gd rfl with k2|k2
            · exact hn k2.symm
            · omega⟩
         have hgood':∀j∈td.dropLast++y.to,j<ss.length:=fun j hj=>by
          rcases List.mem_append.1 hj with k|k
          · exact hltd j k
          · exact hgood y (List.mem_of_getElem? hy) j k
         exact ih (n,dv3,td.dropLast++y.to,seen.set x true) _ _ ⟨rfl,rfl,rfl,trivial⟩ ⟨eg3,hd3',hdo3,aM.ext ex3 hs2 (fun b hb k=>by cases k;cases hb;exact hgne rfl),hsl2,hgood',⟨by show (td.dropLast++y.to).length+qX ss (seen.set x true)<=n;rw[List.length_append];omega,by show n<=_;omega,by show h1.size<=g3.size;omega⟩,hcon⟩ (by show n<n+1;omega)
       · rw[if_neg (by omega)] at hcon;refine aA rfl ?_;refine G.aT ?_;exact ih (n,_,td.dropLast,seen.set x true) _ _ ⟨rfl,rfl,rfl,trivial⟩ ⟨eg2,hcut2,fun b hb=>hdo b (by rw[<-hb];exact hcb▸rfl),hs2,hsl2,hltd,⟨by show td.dropLast.length+qX ss (seen.set x true)<=n;omega,by show n<=_;omega,by show h1.size<=g2.size;omega⟩,hcon⟩ (by show n<n+1;omega)
theorem yL (hn:cu h O nb v ss st) (hgood:Good ss) (hss:ss.length<=1000000) (hst:ss.length=0\/st<ss.length) (hpot:1+qX ss (List.replicate ss.length false)<=1000000) :
 ah Tryz.prog 117 #[.pointer (some ⟨nb,0,none⟩)] h (bX fun r h'=>cN cZ h' h.size 3 r (cG ss st)/\aD h h'):=by
 have hown:=hn.own;have hnlt:=hn.blk.lt;refine ah.of func117 rfl rfl ?_;refine aY func117 1 [0,2] rfl ?_;refine au rfl ?_;refine bB func117 1 rfl ?_;refine xo rfl (aj (vs:=[_]) func137 rfl H.EO rfl (ah.aX (oo hn))) ?_;rintro _ h0 ⟨rfl,hh0⟩;refine xd [0,2,4] rfl ?_;subst hh0;refine aG rfl rfl (fun hz=>?_) (fun hz=>?_)
 · refine aY func117 1 [0,2,4] rfl ?_;refine aK func117 rfl rfl ?_;rw[cG,if_pos hz];exact⟨_,rfl,cN.nil _ _ _ _,Ext.refl _ _⟩
 · have hn1:cu (h0.push (.cells #[.int .i64 (st:Nat)] 3)) (fun b=>O b\/b=h0.size) nb v ss st:=hn.ax (Ext.push _ _ _) (fun b hb k=>k.elim id (fun k=>by omega));have ho1:cN cZ (h0.push (.cells #[.int .i64 (st:Nat)] 3)) h0.size 3 (.slice (some ⟨h0.size,0,none⟩) 1 1) [st]:=uP cZ h0 3 [st] 1 rfl (by simp[maxLen]) h0.size (Nat.le_refl _) rfl;refine aA rfl ?_;refine bB func117 3 rfl ?_;refine xp rfl (aa (off:=1) underlying139 rfl rfl H.aQ rfl) ?_;refine xp rfl (af H.bD rfl (hn.blk.cell (i:=1) rfl)) ?_;refine xo rfl (av.bC (us:=[_]) underlying44 H.nH rfl rfl (by decide) (by simp[Value.oneCell'])) ?_;rintro _ _ ⟨rfl,rfl⟩;refine xo rfl (aj (vs:=[_,_]) func138 rfl H.Hs rfl (ah.aX (qd (tb:=some h0.size) hn1 hgood hss ho1 rfl (by simp) (fun b hb=>by cases hb;exact⟨.inr rfl,by omega,fun k=>by have:=(hown _ k).2;omega⟩) (fun j hj=>by simp at hj;omega) hpot))) ?_;rintro _ h2 ⟨ho2,hx2⟩;refine aS 1 [0,2,4] rfl ?_;refine aK func117 rfl rfl ?_;rw[cG,if_neg hz];have hps:(h0.push (.cells #[.int .i64 (st:Nat)] 3)).size=h0.size+1:=by simp
   refine⟨_,rfl,aM.lower ho2 (by omega),⟨by have:=hx2.size;omega,fun b hb _=>?_⟩⟩;rw[hx2.block b (by omega) (fun k=>by cases k;omega)];exact(Ext.push (fun _=>False) h0 _).block b hb (fun k=>k)
theorem vv {nv:Value}{now:List Nat}(hn:cu h O nb v ss st) (_hss:ss.length<=1000000) (hnow:cn gI h (fun _=>False) nv now) (hlt:∀j∈now,j<ss.length) (hnn:now.length<=1000000) :
 ah Tryz.prog 120 #[.pointer (some ⟨nb,0,none⟩),nv] h (bX fun r h'=>r= .int .i64 (bJ ss now)/\h'=h):=by
 obtain⟨css,hc1,hc2,hc3⟩:=id hn.row;obtain⟨va,vc,rfl,_⟩:=hc2.open;obtain⟨na,nn,nc,rfl,hnl,hnc,hnm,hget⟩:=id hnow;generalize htgt:qk ss now (-1)=tgt;refine ah.of func120 rfl rfl ?_;refine aY func120 1 [0,1,4] rfl ?_;refine aY func120 1 [0,1,4,5] rfl ?_;refine au rfl ?_;refine bB func120 1 rfl ?_;refine xo rfl (aj (vs:=[_]) func137 rfl H.EO rfl (ah.aX (oo hn))) ?_;rintro _ h0 ⟨rfl,hh0⟩;refine xd [0,1,4,5,9] rfl ?_;subst hh0;refine aG rfl rfl (fun hz=>?_) (fun hz=>?_)
 · refine aY func120 2 [0,1,4,5,9] rfl ?_;refine aK func120 rfl rfl ?_;rw[bJ,if_pos hz];exact⟨_,rfl,rfl,rfl⟩
 · refine aA rfl ?_;refine au rfl ?_;refine bB func120 1 rfl ?_;refine xp rfl (ak.aN underlying44 rfl) ?_;refine aS 1 [0,1,4,5,9,11,12,13] rfl ?_;refine G.block rfl rfl ?_;refine bT (σ:=Nat×Int) (fun q=>[(0,.pointer (some ⟨nb,0,none⟩)),(5,.int .i64 q.2),(11,.slice na nn nc),(12,.int .i64 (nn:Nat)),(13,.int .i64 (q.1:Nat))]) (fun q h'=>h'=h0/\q.1<=nn/\qk ss (now.drop q.1) q.2=tgt) (fun q=>nn-q.1) ((0,-1)) rfl ⟨rfl,rfl,rfl,rfl,rfl,trivial⟩ ⟨rfl,Nat.zero_le _,htgt⟩ ?_;rintro⟨i,b⟩ h1 ⟨rfl,hi,hcon⟩ ih
   try dsimp only
   dsimp only at hi hcon;refine aY func120 1 [0,5,11,12,13,14] rfl ?_;refine au rfl ?_;refine aG rfl rfl (fun hlti=>?_) (fun hlti=>?_)
   · obtain⟨j,hj⟩:∃j,now[i]? =some j:=⟨_,List.getElem?_eq_getElem (by omega)⟩
     obtain⟨bb,o,cs,ha,_,hrow,rfl⟩:=hget i j hj;have hjl:j<ss.length:=hlt j (List.mem_of_getElem? hj);obtain⟨y,hy⟩:∃y,ss[j]? =some y:=⟨_,List.getElem?_eq_getElem hjl⟩
     obtain⟨gs,cs,ws,hvs,hgs,hrw,hws⟩:=hn.get hy;cases hvs
     have hdr:now.drop i=j::now.drop (i+1):=by
      obtain⟨hi',rfl⟩:=List.getElem?_eq_some_iff.1 hj;exact List.drop_eq_getElem_cons hi'
     rw[hdr,qk,hy] at hcon;simp only at hcon;refine aA rfl ?_;refine au rfl ?_;refine G.block rfl rfl ?_;refine xr func120 rfl ?_;refine xp rfl (ak.aF underlying44 H.aQ rfl rfl i rfl ha (by omega)) ?_;refine xp rfl (af H.bD rfl (hrow 0 _ rfl)) ?_;refine aS 1 [0,5,7,11,12,13,14] rfl ?_;refine au rfl ?_;refine G.bu [(54,.bool (qj y b))] [(0,_),(5,_),(7,_),(11,_),(12,_),(13,_),(14,_)] ⟨rfl,rfl,rfl,rfl,rfl,rfl,rfl,trivial⟩ func120 rfl ?_ ?_
     · refine aV 3 rfl ?_;refine RW.dZ (d:=19) (b':=true) rfl (decide_eq_true (by omega)) ?_;refine cx 3 rfl rfl (aa (off:=0) underlying139 rfl rfl H.gx rfl) ?_;refine xp rfl (af H.iD rfl (hn.blk.cell (i:=0) rfl)) ?_;refine xp rfl (ak.aN underlying137 rfl) ?_;refine aV 3 rfl ?_;refine RW.dZ (d:=28) (b':=true) rfl (decide_eq_true (by omega)) ?_;refine cx 2 rfl rfl (aa (off:=0) underlying139 rfl rfl H.gx rfl) ?_;refine xp rfl (af H.iD rfl (hn.blk.cell (i:=0) rfl)) ?_;refine cx 1 rfl rfl (ak.aF underlying137 H.lG rfl rfl j rfl rfl hjl) ?_;refine xp rfl (aa (off:=0) underlying149 rfl rfl H.aQ rfl) ?_;refine xp rfl (af H.bD rfl (hrw 0 _ rfl)) ?_;refine aV 3 rfl ?_;refine aH (d:=39) rfl (fun hk=>?_) (fun hk=>?_)
       · have hk':=of_decide_eq_true hk;refine aV 3 rfl ?_;refine aH (d:=42) rfl (fun hb=>?_) (fun hb=>?_)
         · have hb':=of_decide_eq_true hb;refine aV 12 rfl ?_;refine aC rfl ?_;exact⟨rfl,az rfl (by simp[qj];omega),rfl,rfl,rfl,rfl,rfl,rfl,rfl,trivial⟩
         · have hb':=of_decide_eq_false hb;refine cx 2 rfl rfl (aa (off:=0) underlying139 rfl rfl H.gx rfl) ?_;refine xp rfl (af H.iD rfl (hn.blk.cell (i:=0) rfl)) ?_;refine cx 1 rfl rfl (ak.aF underlying137 H.lG rfl rfl j rfl rfl hjl) ?_;refine xp rfl (aa (off:=6) underlying149 rfl rfl H.aQ rfl) ?_;refine xp rfl (af H.bD rfl (hrw 6 _ rfl)) ?_;refine aV 4 rfl ?_;refine aC rfl ?_;exact⟨rfl,az rfl (by simp only[qj,decide_eq_decide];omega),rfl,rfl,rfl,rfl,rfl,rfl,rfl,trivial⟩
       · have hk':=of_decide_eq_false hk;refine aV 15 rfl ?_;refine aC rfl ?_;exact⟨rfl,az rfl (by simp[qj];omega),rfl,rfl,rfl,rfl,rfl,rfl,rfl,trivial⟩
     · refine aO rfl rfl (fun hb=>?_) (fun hb=>?_)
       · rw[if_pos hb] at hcon;refine G.bV func120 rfl ?_;refine cx 2 rfl rfl (aa (off:=0) underlying139 rfl rfl H.gx rfl) ?_;refine xp rfl (af H.iD rfl (hn.blk.cell (i:=0) rfl)) ?_;refine cx 1 rfl rfl (ak.aF underlying137 H.lG rfl rfl j rfl rfl hjl) ?_;refine xp rfl (aa (off:=6) underlying149 rfl rfl H.aQ rfl) ?_;refine xp rfl (af H.bD rfl (hrw 6 _ rfl)) ?_;refine aS 1 [0,5,7,11,12,13,14,54] rfl ?_;refine G.aT ?_;refine G.bV func120 rfl ?_;refine xp rfl (ak.bL rfl rfl ⟨by omega,by omega⟩) ?_;refine aS 1 [0,5,7,11,12,13,14,54] rfl ?_;exact ih (i+1,(y.rule:Int)) _ _ ⟨rfl,rfl,rfl,rfl,rfl,trivial⟩ ⟨rfl,by show i+1<=nn;omega,hcon⟩ (by show nn-(i+1)<nn-i;omega)
       · rw[if_neg (by rw[hb];decide)] at hcon;refine aA rfl ?_;refine G.aT ?_;refine G.bV func120 rfl ?_;refine xp rfl (ak.bL rfl rfl ⟨by omega,by omega⟩) ?_;refine aS 1 [0,5,7,11,12,13,14,54] rfl ?_;exact ih (i+1,b) _ _ ⟨rfl,rfl,rfl,rfl,rfl,trivial⟩ ⟨rfl,by show i+1<=nn;omega,hcon⟩ (by show nn-(i+1)<nn-i;omega)
   · have hnil:now.drop i=[]:=List.drop_of_length_le (by omega);rw[hnil,qk] at hcon;refine bN rfl rfl ?_;refine aY func120 2 [0,4,5,11,12,13,14] rfl ?_;refine aK func120 rfl rfl ?_;rw[bJ,if_neg hz,htgt];exact⟨_,rfl,by rw[hcon];rfl,rfl⟩
theorem AM {nv:Value}{now:List Nat}(c:UInt8) (hn:cu h O nb v ss st) (hgood:Good ss) (hss:ss.length<=1000000) (hnow:cn gI h (fun _=>False) nv now) (hlt:∀j∈now,j<ss.length) (hnn:now.length<=1000000)
 (hpot:(stepG ss c now []).length+qX ss (List.replicate ss.length false)<=1000000) :
 ah Tryz.prog 119 #[.pointer (some ⟨nb,0,none⟩),nv,.int .u8 (c.toNat:Nat)] h (bX fun r h'=>cN cZ h' h.size 3 r (cS ss c now)/\aD h h'):=by
 have hown:=hn.own;have hnlt:=hn.blk.lt;obtain⟨css,hc1,hc2,hc3⟩:=id hn.row;obtain⟨va,vc,rfl,_⟩:=hc2.open;obtain⟨na,nn,nc,rfl,hnl,hnc,hnm,hget⟩:=id hnow;generalize htgt:stepG ss c now []=tgt at *;refine ah.of func119 rfl rfl ?_;refine aY func119 1 [0,1,2,6] rfl ?_;refine au rfl ?_;refine bB func119 1 rfl ?_;refine xo rfl (aj (vs:=[_]) func137 rfl H.EO rfl (ah.aX (oo hn))) ?_;rintro _ h0 ⟨rfl,hh0⟩;refine xd [0,1,2,6,11] rfl ?_;subst hh0;refine aG rfl rfl (fun hz=>?_) (fun hz=>?_)
 · refine aY func119 1 [0,1,2,6,11] rfl ?_;refine aK func119 rfl rfl ?_;rw[cS,if_pos hz];exact⟨_,rfl,cN.nil _ _ _ _,Ext.refl _ _⟩
 · refine aA rfl ?_;refine aY func119 1 [0,1,2,6,7,11] rfl ?_;refine au rfl ?_;refine bB func119 1 rfl ?_;refine xp rfl (ak.aN underlying44 rfl) ?_;refine aS 1 [0,1,2,6,7,11,12,13,14] rfl ?_;refine G.block rfl rfl ?_;refine bT (σ:=Nat×Value×List Nat) (fun q=>[(0,.pointer (some ⟨nb,0,none⟩)),(2,.int .u8 (c.toNat:Nat)),(7,q.2.1),(12,.slice na nn nc),(13,.int .i64 (nn:Nat)),(14,.int .i64 (q.1:Nat))]) (fun q h'=>aD h0 h'/\q.1<=nn/\cN cZ h' h0.size 3 q.2.1 q.2.2/\(∀j∈q.2.2,j<ss.length)/\stepG ss c (now.drop q.1) q.2.2=tgt) (fun q=>nn-q.1) ((0,.slice none 0 0,[])) rfl ⟨rfl,rfl,rfl,rfl,rfl,rfl,trivial⟩ ⟨Ext.refl _ _,Nat.zero_le _,cN.nil _ _ _ _,(fun j hj=>by cases hj),htgt⟩ ?_;rintro⟨i,ov,acc⟩ h1 ⟨e1,hi,ho,hal,hcon⟩ ih
   try dsimp only
   dsimp only at hi ho hal hcon;have hz1:=e1.size;have hn1:cu h1 O nb (.slice va ss.length vc) ss st:=hn.ax e1 (fun _ _ k=>k);have hacc:acc.length<=tgt.length:=by rw[<-hcon];exact qp _ _ _ _
   refine aY func119 1 [0,2,7,12,13,14,15] rfl ?_;refine au rfl ?_;refine aG rfl rfl (fun hlti=>?_) (fun hlti=>?_)
   · obtain⟨j,hj⟩:∃j,now[i]? =some j:=⟨_,List.getElem?_eq_getElem (by omega)⟩
     obtain⟨bb,o,cs,ha,_,hrow,rfl⟩:=hget i j hj;have hjl:j<ss.length:=hlt j (List.mem_of_getElem? hj);obtain⟨y,hy⟩:∃y,ss[j]? =some y:=⟨_,List.getElem?_eq_getElem hjl⟩
     obtain⟨gs,cs,ws,hvs,hgs,hrw,hws⟩:=hn1.get hy;cases hvs
     have hdr:now.drop i=j::now.drop (i+1):=by
      obtain⟨hi',rfl⟩:=List.getElem?_eq_some_iff.1 hj;exact List.drop_eq_getElem_cons hi'
     rw[hdr,stepG,hy] at hcon;simp only at hcon;have hrow1:Lw.rowAt h1 bb (o+i*1) [cZ j]:=e1.rowAt (fun k=>k) hrow
     have hset:Lw.rowAt h1 gs (0+j*7+1) (uo y.set):=fun q u hu=>by
      have hq:(CW y.kind y.set ws y.rule)[1+q]? =some u:=by
       match q with
       | 0=>exact hu
       | 1=>exact hu
       | 2=>exact hu
       | 3=>exact hu
       |q+4=>simp[uo] at hu
      have:=hrw (1+q) u hq
      rwa [<-Nat.add_assoc] at this
     refine aA rfl ?_;refine au rfl ?_;refine G.block rfl rfl ?_;refine xr func119 rfl ?_;refine xp rfl (ak.aF underlying44 H.aQ rfl rfl i rfl ha (by omega)) ?_;refine xp rfl (af H.bD rfl (hrow1 0 _ rfl)) ?_;refine aS 1 [0,2,7,9,12,13,14,15] rfl ?_;refine au rfl ?_;refine G.AX (fun(_u:Unit) (h':ay)=>aD h1 h') (fun(_u:Unit)=>[(51,.bool (jd y c))]) [(0,_),(2,_),(7,_),(9,_),(12,_),(13,_),(14,_),(15,_)] ⟨rfl,rfl,rfl,rfl,rfl,rfl,rfl,rfl,trivial⟩ func119 rfl ?_ ?_
     · refine aV 3 rfl ?_;refine RW.dZ (d:=20) (b':=true) rfl (decide_eq_true (by omega)) ?_;refine cx 3 rfl rfl (aa (off:=0) underlying139 rfl rfl H.gx rfl) ?_;refine xp rfl (af H.iD rfl (hn1.blk.cell (i:=0) rfl)) ?_;refine xp rfl (ak.aN underlying137 rfl) ?_;refine aV 3 rfl ?_;refine RW.dZ (d:=29) (b':=true) rfl (decide_eq_true (by omega)) ?_;refine cx 2 rfl rfl (aa (off:=0) underlying139 rfl rfl H.gx rfl) ?_;refine xp rfl (af H.iD rfl (hn1.blk.cell (i:=0) rfl)) ?_;refine cx 1 rfl rfl (ak.aF underlying137 H.lG rfl rfl j rfl rfl hjl) ?_;refine xp rfl (aa (off:=0) underlying149 rfl rfl H.aQ rfl) ?_;refine xp rfl (af H.bD rfl (hrw 0 _ rfl)) ?_;refine aV 3 rfl ?_;refine aH (d:=40) rfl (fun hk=>?_) (fun hk=>?_)
       · have hk':=of_decide_eq_true hk;have hk2:y.kind=1:=by omega
         refine cx 2 rfl rfl (aa (off:=0) underlying139 rfl rfl H.gx rfl) ?_;refine xp rfl (af H.iD rfl (hn1.blk.cell (i:=0) rfl)) ?_;refine cx 1 rfl rfl (ak.aF underlying137 H.lG rfl rfl j rfl rfl hjl) ?_;refine xp rfl (aa (off:=1) underlying149 rfl rfl H.lH rfl) ?_;refine xp rfl (ak.aq H.HL H.lH rfl hset (by first|rfl|(simp;done)|(simp;omega))) ?_;refine aV 1 rfl ?_;refine xo rfl (aj (vs:=[_,_]) func141 rfl H.Ju rfl (ah.aX (Dy y.set c))) ?_;rintro _ h2 ⟨rfl,e2⟩;refine aV 1 rfl ?_;refine aC rfl ?_;exact⟨(),e2,az rfl (by simp[jd,hk2]),rfl,rfl,rfl,rfl,rfl,rfl,rfl,rfl,trivial⟩
       · have hk':=of_decide_eq_false hk;have hk2:¬y.kind=1:=by omega
         refine aV 11 rfl ?_;refine aC rfl ?_;exact⟨(),Ext.refl _ _,az rfl (by simp[jd,hk2]),rfl,rfl,rfl,rfl,rfl,rfl,rfl,rfl,trivial⟩
     · rintro _ h2 e2;have e02:=e1.trans e2;have ho2:cN cZ h2 h0.size 3 ov acc:=cN.ax ho e2;have hn2:cu h2 O nb _ ss st:=hn.ax e02 (fun _ _ k=>k);have hz2:=e02.size;refine aO rfl rfl (fun hb=>?_) (fun hb=>?_)
       · rw[if_pos hb] at hcon;have hacc2:(acc++y.to).length<=tgt.length:=by rw[<-hcon];exact qp _ _ _ _
         rw[List.length_append] at hacc2;obtain⟨gs,cs,ws,hvs,hgs,hrw2,hws2⟩:=hn2.get hy;cases hvs;obtain⟨wa,wn,wc,rfl,_⟩:=id hws2;obtain⟨hwl,hwn,hwm⟩:=Au hws2;refine G.bV func119 rfl ?_;refine cx 3 rfl rfl (aa (off:=0) underlying139 rfl rfl H.gx rfl) ?_;refine xp rfl (af H.iD rfl (hn2.blk.cell (i:=0) rfl)) ?_;refine cx 1 rfl rfl (ak.aF underlying137 H.lG rfl rfl j rfl rfl hjl) ?_;refine xp rfl (aa (off:=5) underlying149 rfl rfl H.fS rfl) ?_;refine xp rfl (af H.lB rfl (hrw2 5 _ rfl)) ?_;refine xo rfl (av.append underlying44 H.nH rfl rfl ho2 (by simp[hwl]) hwn (by intro u hu;simp at hu;obtain⟨j,_,rfl⟩:=hu;rfl) (by simp only[maxLen];omega) (by omega) (by omega)) ?_;rintro ov3 h3 ⟨ho3,hx3,-,hv3⟩;refine aS 1 [0,2,7,9,12,13,14,15,51] rfl ?_;refine G.aT ?_;refine G.bV func119 rfl ?_;refine xp rfl (ak.bL rfl rfl ⟨by omega,by omega⟩) ?_;refine aS 1 [0,2,7,9,12,13,14,15,51] rfl ?_
         have ho3':cN cZ h3 h0.size 3 ov3 (acc++y.to):=by
          unfold cN;rw[List.length_append,hwl,List.map_append];exact ho3
         have e3:aD h0 h3:=cN.grown e02 ho2 (Nat.le_refl _) hx3
         have hal3:∀j∈acc++y.to,j<ss.length:=fun j hj=>by
          rcases List.mem_append.1 hj with k|k
          · exact hal j k
          · exact hgood y (List.mem_of_getElem? hy) j k
         exact ih (i+1,ov3,acc++y.to) _ _ ⟨rfl,rfl,rfl,rfl,rfl,rfl,trivial⟩ ⟨e3,by show i+1<=nn;omega,ho3',hal3,hcon⟩ (by show nn-(i+1)<nn-i;omega)
       · rw[if_neg (by rw[hb];decide)] at hcon;refine aA rfl ?_;refine G.aT ?_;refine G.bV func119 rfl ?_;refine xp rfl (ak.bL rfl rfl ⟨by omega,by omega⟩) ?_;refine aS 1 [0,2,7,9,12,13,14,15,51] rfl ?_;exact ih (i+1,ov,acc) _ _ ⟨rfl,rfl,rfl,rfl,rfl,rfl,trivial⟩ ⟨e02,by show i+1<=nn;omega,ho2,hal,hcon⟩ (by show nn-(i+1)<nn-i;omega)
   · have hnil:now.drop i=[]:=List.drop_of_length_le (by omega);rw[hnil,stepG] at hcon;subst hcon;have hol:∀b,ov.ownBlock=some b->h0.size<=b/\b<h1.size:=fun b hb=>aM.lt ho hb
     have hn':cu h1 (fun b=>O b\/dn ov.ownBlock b) nb (.slice va ss.length vc) ss st:=hn.ax e1 (fun b hb k=>k.elim id (fun k=>by have:=(hol b k.symm).1;omega));refine bN rfl rfl ?_;refine bB func119 2 rfl ?_;refine xo rfl (aj (vs:=[_,_]) func138 rfl H.Hs rfl (ah.aX (qd (tb:=ov.ownBlock) hn' hgood hss ho rfl (by omega) (fun b hb=>⟨.inr hb.symm,by have:=hol b hb;omega,fun k=>by have:=hol b hb;have:=(hown b k).2;omega⟩) hal hpot))) ?_;rintro _ h2 ⟨ho2,hx2⟩;refine aS 1 [0,2,6,7,12,13,14,15] rfl ?_;refine aK func119 rfl rfl ?_;rw[cS,if_neg hz,htgt];refine⟨_,rfl,aM.lower ho2 (by omega),⟨by have:=hx2.size;omega,fun b hb _=>?_⟩⟩;rw[hx2.block b (by omega) (fun k=>by have:=hol b k.symm;omega)];exact e1.block b hb (fun k=>k)
theorem cn.less {α:Type}{e:iM α}{Q Q':Nat->Prop}{xs:List α}(k:cn e h Q v xs) (hq:∀b,Q' b->Q b):cn e h Q' v xs:=k.mv ⟨Nat.le_refl _,fun b _ hn=>⟨rfl,fun k=>hn (hq b k)⟩⟩
def IJ (h:ay) (p:Value) (rules:List By):Prop:=∃(O:Nat->Prop) (nb:Nat) (v:Value) (ss:List bR) (st:Nat),p= .pointer (some ⟨nb,0,none⟩)/\cu h O nb v ss st/\eU rules= .inr (ss,st)
def HA (rules:List By):Int:=match eU rules with|.inl e=>e|.inr _=>0
def xy (rules:List By) (s:By) (a:Int):Int×Int:=match eU rules with|.inl _=>(0,-1)|.inr (ss,st)=>Bb ss st s a
theorem Dl {lim:Nat}(hg:Sg h lim) (hlim:lim<=h.size){rv:Value}(hr:cn xU h (fun _=>False) rv rules) (hrl:∀s∈rules,s.length<=1000000) :
 ah Tryz.prog 101 #[rv] h (bX fun r h'=>(∃p,r= .tuple #[p,.int .i64 (HA rules)]/\((∃e,eU rules= .inl e/\p= .pointer none)\/IJ h' p rules))/\aD h h') :=
 (Bd hg hlim hr hrl).ret fun r h' k=>by
  obtain⟨k1,k2⟩:=k;refine⟨?_,k2⟩;unfold wN at k1;unfold HA;cases hm:eU rules with
  |inl e=>rw[hm] at k1;exact⟨_,k1,.inl ⟨e,rfl,rfl⟩⟩
  |inr q =>
   obtain⟨ss,st⟩:=q;rw[hm] at k1;obtain⟨nb,v,h1,_,h3⟩:=k1;exact⟨_,h1,.inr ⟨_,nb,v,ss,st,rfl,h3,hm⟩⟩
theorem zA (k:Made rules ss st):ss.length<=1000000/\1+qX ss (List.replicate ss.length false)<=1000000/\∀c now,List.Sublist now (List.range ss.length)->(stepG ss c now []).length+qX ss (List.replicate ss.length false)<=1000000:=by
 have h1:=k.len;have h2:=k.tot;have h3:=EE ss (List.replicate ss.length false);refine⟨by omega,by omega,fun c now hs=>?_⟩;have:=CV c hs;omega
end
end Go.Proofs.YtiigijehmmcfgaaGreatDoor
