/- What the proof of the statement leans on (part 23). -/
import Derived.Test.YtiigijehmmcfgaaGreatDoorRows
import Derived.Test.YtiigijehmmcfgaaGreatDoorQv

namespace Go.Proofs.YtiigijehmmcfgaaGreatDoor.H
open Go Go.Lw
theorem CE:ct Tryz.prog 109=some false:=by kernel_rfl
theorem lU:ct Tryz.prog 112=some false:=by kernel_rfl
theorem FR:ct Tryz.prog 113=some false:=by kernel_rfl
theorem Kg:ct Tryz.prog 117=some false:=by kernel_rfl
theorem lT:ct Tryz.prog 122=some true:=by kernel_rfl
theorem iG:ct Tryz.prog 137=some false:=by kernel_rfl
theorem HO:ct Tryz.prog 140=some true:=by kernel_rfl
theorem uK:ct Tryz.prog 141=some false:=by kernel_rfl
theorem eR:ct Tryz.prog 143=some true:=by kernel_rfl
theorem Kf:ct Tryz.prog 149=some true:=by kernel_rfl
theorem CD:ct Tryz.prog 153=some false:=by kernel_rfl
theorem Aw:ct Tryz.prog 155=some true:=by kernel_rfl
theorem qh:ct Tryz.prog 158=some false:=by kernel_rfl
theorem uJ:ct Tryz.prog 164=some true:=by kernel_rfl
theorem HN:ct Tryz.prog 198=some false:=by kernel_rfl
theorem eE:ct Tryz.prog 24=some false:=by kernel_rfl
theorem FQ:ct Tryz.prog 25=some false:=by kernel_rfl
theorem aL:ct Tryz.prog 27=some true:=by kernel_rfl
theorem bC:ct Tryz.prog 3=some false:=by kernel_rfl
theorem lF:ct Tryz.prog 31=some true:=by kernel_rfl
theorem GN:ct Tryz.prog 34=some false:=by kernel_rfl
theorem F9:ct Tryz.prog 4=some false:=by kernel_rfl
theorem lE:ct Tryz.prog 44=some false:=by kernel_rfl
theorem Lv:ct Tryz.prog 5=some false:=by kernel_rfl
theorem IF:ct Tryz.prog 81=some false:=by kernel_rfl
theorem jq:ct Tryz.prog 87=some true:=by kernel_rfl
theorem cQ:ct Tryz.prog 9=some false:=by kernel_rfl
theorem IE:ct Tryz.prog 99=some false:=by kernel_rfl
theorem ID  : Tryz.prog.built 111 []=some #[.slice none 0 0]:=by kernel_rfl
theorem IC  : Tryz.prog.built 122 []=some #[.int .i64 (0),.int .i64 (0),.int .i64 (0)]:=by kernel_rfl
theorem rS (a0:Int) (a1:Int) (a2:Int):Tryz.prog.built 122 [(0,.int .i64 a0),(1,.int .i64 a1),(2,.int .i64 a2)]=some #[.int .i64 a0,.int .i64 a1,.int .i64 a2]:=by kernel_rfl
theorem CB (a0:ByteArray):Tryz.prog.built 127 [(0,.string a0)]=some #[.string a0,.slice none 0 0]:=by kernel_rfl
theorem IB  : Tryz.prog.built 139 []=some #[.slice none 0 0,.int .i64 (0)]:=by kernel_rfl
theorem BN  : Tryz.prog.built 143 []=some #[.int .i64 (0),.int .u64 (0),.int .u64 (0),.int .u64 (0),.int .u64 (0),.slice none 0 0]:=by kernel_rfl
theorem qG (a0:Int) (a2:Option Addr) (n2 c2:Nat):Tryz.prog.built 143 [(0,.int .i64 a0),(2,.slice a2 n2 c2)]=some #[.int .i64 a0,.int .u64 (0),.int .u64 (0),.int .u64 (0),.int .u64 (0),.slice a2 n2 c2]:=by kernel_rfl
theorem CA (a0:Int):Tryz.prog.built 143 [(0,.int .i64 a0)]=some #[.int .i64 a0,.int .u64 (0),.int .u64 (0),.int .u64 (0),.int .u64 (0),.slice none 0 0]:=by kernel_rfl
theorem FL  : Tryz.prog.built 149 []=some #[.int .i64 (0),.int .u64 (0),.int .u64 (0),.int .u64 (0),.int .u64 (0),.slice none 0 0,.int .i64 (0)]:=by kernel_rfl
theorem As (a0:Int) (a1_0 a1_1 a1_2 a1_3:Value) (a2:Option Addr) (n2 c2:Nat):Tryz.prog.built 149 [(0,.int .i64 a0),(1,.agg #[a1_0,a1_1,a1_2,a1_3]),(2,.slice a2 n2 c2)]=some #[.int .i64 a0,a1_0,a1_1,a1_2,a1_3,.slice a2 n2 c2,.int .i64 (0)]:=by kernel_rfl
theorem DW (a0:Int) (a3:Int):Tryz.prog.built 149 [(0,.int .i64 a0),(3,.int .i64 a3)]=some #[.int .i64 a0,.int .u64 (0),.int .u64 (0),.int .u64 (0),.int .u64 (0),.slice none 0 0,.int .i64 a3]:=by kernel_rfl
theorem yl (a2:Option Addr) (n2 c2:Nat):Tryz.prog.built 149 [(2,.slice a2 n2 c2)]=some #[.int .i64 (0),.int .u64 (0),.int .u64 (0),.int .u64 (0),.int .u64 (0),.slice a2 n2 c2,.int .i64 (0)]:=by kernel_rfl
theorem IA  : Tryz.prog.built 155 []=some #[.string ⟨#[]⟩,.int .i64 (0),.int .i64 (0)]:=by kernel_rfl
theorem FK  : Tryz.prog.built 160 []=some #[.slice none 0 0,.slice none 0 0]:=by kernel_rfl
theorem gZ  : Tryz.prog.built 179 []=some #[]:=by kernel_rfl
theorem GL (a0:ByteArray):Tryz.prog.built 182 [(0,.string a0)]=some #[.string a0]:=by kernel_rfl
theorem Kc  : Tryz.prog.built 27 []=some #[.string ⟨#[]⟩,.int .i64 (0),.int .i64 (0),.int .i64 (0),.slice none 0 0,.slice none 0 0,.int .i64 (0),.string ⟨#[]⟩,.int .i64 (0),.int .i64 (0),.int .i64 (0),.string ⟨#[]⟩,.int .i64 (0),.string ⟨#[]⟩,.int .i64 (0),.int .i64 (0),.slice none 0 0,.slice none 0 0,.int .i64 (0)]:=by kernel_rfl
theorem FJ (a3:Int):Tryz.prog.built 27 [(3,.int .i64 a3)]=some #[.string ⟨#[]⟩,.int .i64 (0),.int .i64 (0),.int .i64 a3,.slice none 0 0,.slice none 0 0,.int .i64 (0),.string ⟨#[]⟩,.int .i64 (0),.int .i64 (0),.int .i64 (0),.string ⟨#[]⟩,.int .i64 (0),.string ⟨#[]⟩,.int .i64 (0),.int .i64 (0),.slice none 0 0,.slice none 0 0,.int .i64 (0)]:=by kernel_rfl
theorem uG (a0:Int) (a1:Int) (a2:Int):Tryz.prog.built 31 [(0,.int .i64 a0),(1,.int .i64 a1),(2,.int .i64 a2)]=some #[.int .i64 a0,.int .i64 a1,.int .i64 a2,.string ⟨#[]⟩,.bool false]:=by kernel_rfl
theorem FI (a0:Int) (a2:Int):Tryz.prog.built 31 [(0,.int .i64 a0),(2,.int .i64 a2)]=some #[.int .i64 a0,.int .i64 (0),.int .i64 a2,.string ⟨#[]⟩,.bool false]:=by kernel_rfl
theorem uF (a0:Int) (a3:ByteArray) (a2:Int):Tryz.prog.built 31 [(0,.int .i64 a0),(3,.string a3),(2,.int .i64 a2)]=some #[.int .i64 a0,.int .i64 (0),.int .i64 a2,.string a3,.bool false]:=by kernel_rfl
theorem BM (a0:Int):Tryz.prog.built 31 [(0,.int .i64 a0)]=some #[.int .i64 a0,.int .i64 (0),.int .i64 (0),.string ⟨#[]⟩,.bool false]:=by kernel_rfl
theorem Kb  : Tryz.prog.built 87 []=some #[.int .i64 (0),.int .i64 (0)]:=by kernel_rfl
theorem FH (a0:Int) (a1:Int):Tryz.prog.built 87 [(0,.int .i64 a0),(1,.int .i64 a1)]=some #[.int .i64 a0,.int .i64 a1]:=by kernel_rfl
theorem Iz (a0:Int):Tryz.prog.built 87 [(0,.int .i64 a0)]=some #[.int .i64 a0,.int .i64 (0)]:=by kernel_rfl
theorem kE:Tryz.prog.concrete 179=true:=by kernel_rfl
set_option maxRecDepth 100000 in
theorem HJ:gu Tryz.prog 117 1 8:=⟨⟨_,_,rfl,rfl,rfl,rfl,rfl⟩,by decide⟩
set_option maxRecDepth 100000 in
theorem HH:gu Tryz.prog 122 3 24:=⟨⟨_,_,rfl,rfl,rfl,rfl,rfl⟩,by decide⟩
set_option maxRecDepth 100000 in
theorem ur:gu Tryz.prog 143 6 64:=⟨⟨_,_,rfl,rfl,rfl,rfl,rfl⟩,by decide⟩
set_option maxRecDepth 100000 in
theorem HG:gu Tryz.prog 149 7 72:=⟨⟨_,_,rfl,rfl,rfl,rfl,rfl⟩,by decide⟩
set_option maxRecDepth 100000 in
theorem Cs:gu Tryz.prog 164 256 2048:=⟨⟨_,_,rfl,rfl,rfl,rfl,rfl⟩,by decide⟩
set_option maxRecDepth 100000 in
theorem nH:gu Tryz.prog 3 1 8:=⟨⟨_,_,rfl,rfl,rfl,rfl,rfl⟩,by decide⟩
set_option maxRecDepth 100000 in
theorem JX:gu Tryz.prog 31 5 48:=⟨⟨_,_,rfl,rfl,rfl,rfl,rfl⟩,by decide⟩
set_option maxRecDepth 100000 in
theorem JW:gu Tryz.prog 4 1 1:=⟨⟨_,_,rfl,rfl,rfl,rfl,rfl⟩,by decide⟩
set_option maxRecDepth 100000 in
theorem Iu:gu Tryz.prog 44 1 24:=⟨⟨_,_,rfl,rfl,rfl,rfl,rfl⟩,by decide⟩
set_option maxRecDepth 100000 in
theorem Lj:gu Tryz.prog 5 1 1:=⟨⟨_,_,rfl,rfl,rfl,rfl,rfl⟩,by decide⟩
set_option maxRecDepth 100000 in
theorem wE:gu Tryz.prog 9 1 16:=⟨⟨_,_,rfl,rfl,rfl,rfl,rfl⟩,by decide⟩
theorem mixed:Tryz.prog.follows .mixedOrders=true:=by kernel_rfl
theorem JM:(Tryz.f100.name == "runtime.NumGoroutine")=false:=by decide +kernel
theorem JL:(Tryz.f101.name == "runtime.NumGoroutine")=false:=by decide +kernel
theorem JK:(Tryz.f102.name == "runtime.NumGoroutine")=false:=by decide +kernel
theorem JJ:(Tryz.f103.name == "runtime.NumGoroutine")=false:=by decide +kernel
theorem JI:(Tryz.f104.name == "runtime.NumGoroutine")=false:=by decide +kernel
theorem HC:(Tryz.f105.name == "runtime.NumGoroutine")=false:=by decide +kernel
theorem HB:(Tryz.f106.name == "runtime.NumGoroutine")=false:=by decide +kernel
theorem Dl:(Tryz.f11.name == "runtime.NumGoroutine")=false:=by decide +kernel
theorem HA:(Tryz.f111.name == "runtime.NumGoroutine")=false:=by decide +kernel
theorem JH:(Tryz.f113.name == "runtime.NumGoroutine")=false:=by decide +kernel
theorem vY:(Tryz.f114.name == "runtime.NumGoroutine")=false:=by decide +kernel
theorem s5:(Tryz.f115.name == "runtime.NumGoroutine")=false:=by decide +kernel
theorem JG:(Tryz.f116.name == "runtime.NumGoroutine")=false:=by decide +kernel
theorem JF:(Tryz.f117.name == "runtime.NumGoroutine")=false:=by decide +kernel
theorem Ch:(Tryz.f118.name == "runtime.NumGoroutine")=false:=by decide +kernel
theorem JE:(Tryz.f119.name == "runtime.NumGoroutine")=false:=by decide +kernel
theorem oq:(Tryz.f12.name == "runtime.NumGoroutine")=false:=by decide +kernel
theorem JD:(Tryz.f120.name == "runtime.NumGoroutine")=false:=by decide +kernel
theorem Hz:(Tryz.f121.name == "runtime.NumGoroutine")=false:=by decide +kernel
theorem JC:(Tryz.f122.name == "runtime.NumGoroutine")=false:=by decide +kernel
theorem JB:(Tryz.f123.name == "runtime.NumGoroutine")=false:=by decide +kernel
theorem Hy:(Tryz.f124.name == "runtime.NumGoroutine")=false:=by decide +kernel
theorem JA:(Tryz.f125.name == "runtime.NumGoroutine")=false:=by decide +kernel
theorem Jz:(Tryz.f126.name == "runtime.NumGoroutine")=false:=by decide +kernel
theorem Jy:(Tryz.f127.name == "runtime.NumGoroutine")=false:=by decide +kernel
theorem Hx:(Tryz.f128.name == "runtime.NumGoroutine")=false:=by decide +kernel
theorem Jx:(Tryz.f129.name == "runtime.NumGoroutine")=false:=by decide +kernel
theorem Io:(Tryz.f13.name == "runtime.NumGoroutine")=false:=by decide +kernel
theorem Jw:(Tryz.f130.name == "runtime.NumGoroutine")=false:=by decide +kernel
theorem Hw:(Tryz.f134.name == "runtime.NumGoroutine")=false:=by decide +kernel
theorem Jv:(Tryz.f135.name == "runtime.NumGoroutine")=false:=by decide +kernel
theorem ER:(Tryz.f137.name == "runtime.NumGoroutine")=false:=by decide +kernel
theorem Hv:(Tryz.f138.name == "runtime.NumGoroutine")=false:=by decide +kernel
theorem Ju:(Tryz.f139.name == "runtime.NumGoroutine")=false:=by decide +kernel
theorem A9:(Tryz.f14.name == "runtime.NumGoroutine")=false:=by decide +kernel
theorem Jt:(Tryz.f140.name == "runtime.NumGoroutine")=false:=by decide +kernel
theorem Js:(Tryz.f141.name == "runtime.NumGoroutine")=false:=by decide +kernel
theorem Jr:(Tryz.f142.name == "runtime.NumGoroutine")=false:=by decide +kernel
theorem Hu:(Tryz.f143.name == "runtime.NumGoroutine")=false:=by decide +kernel
theorem Ht:(Tryz.f144.name == "runtime.NumGoroutine")=false:=by decide +kernel
theorem Hs:(Tryz.f145.name == "runtime.NumGoroutine")=false:=by decide +kernel
theorem Cg:(Tryz.f146.name == "runtime.NumGoroutine")=false:=by decide +kernel
theorem Hr:(Tryz.f147.name == "runtime.NumGoroutine")=false:=by decide +kernel
theorem K3:(Tryz.f15.name == "runtime.NumGoroutine")=false:=by decide +kernel
theorem Jq:(Tryz.f151.name == "runtime.NumGoroutine")=false:=by decide +kernel
theorem Jp:(Tryz.f154.name == "runtime.NumGoroutine")=false:=by decide +kernel
theorem Hq:(Tryz.f155.name == "runtime.NumGoroutine")=false:=by decide +kernel
theorem sZ:(Tryz.f156.name == "runtime.NumGoroutine")=false:=by decide +kernel
theorem K2:(Tryz.f16.name == "runtime.NumGoroutine")=false:=by decide +kernel
theorem Hp:(Tryz.f164.name == "runtime.NumGoroutine")=false:=by decide +kernel
theorem Jo:(Tryz.f165.name == "runtime.NumGoroutine")=false:=by decide +kernel
theorem vX:(Tryz.f166.name == "runtime.NumGoroutine")=false:=by decide +kernel
theorem Ho:(Tryz.f167.name == "runtime.NumGoroutine")=false:=by decide +kernel
theorem oo:(Tryz.f17.name == "runtime.NumGoroutine")=false:=by decide +kernel
theorem Hl:(Tryz.f174.name == "runtime.NumGoroutine")=false:=by decide +kernel
theorem Hj:(Tryz.f175.name == "runtime.NumGoroutine")=false:=by decide +kernel
theorem pK:(Tryz.f18.name == "runtime.NumGoroutine")=false:=by decide +kernel
theorem Im:(Tryz.f19.name == "runtime.NumGoroutine")=false:=by decide +kernel
theorem K1:(Tryz.f21.name == "runtime.NumGoroutine")=false:=by decide +kernel
theorem iS:(Tryz.f22.name == "runtime.NumGoroutine")=false:=by decide +kernel
theorem Il:(Tryz.f23.name == "runtime.NumGoroutine")=false:=by decide +kernel
theorem Ik:(Tryz.f24.name == "runtime.NumGoroutine")=false:=by decide +kernel
theorem Ij:(Tryz.f25.name == "runtime.NumGoroutine")=false:=by decide +kernel
theorem Ii:(Tryz.f26.name == "runtime.NumGoroutine")=false:=by decide +kernel
theorem Gn:(Tryz.f27.name == "runtime.NumGoroutine")=false:=by decide +kernel
theorem Ih:(Tryz.f28.name == "runtime.NumGoroutine")=false:=by decide +kernel
theorem Jn:(Tryz.f29.name == "runtime.NumGoroutine")=false:=by decide +kernel
theorem Jm:(Tryz.f30.name == "runtime.NumGoroutine")=false:=by decide +kernel
theorem K0:(Tryz.f31.name == "runtime.NumGoroutine")=false:=by decide +kernel
theorem KZ:(Tryz.f32.name == "runtime.NumGoroutine")=false:=by decide +kernel
theorem Jl:(Tryz.f33.name == "runtime.NumGoroutine")=false:=by decide +kernel
theorem KY:(Tryz.f34.name == "runtime.NumGoroutine")=false:=by decide +kernel
theorem KX:(Tryz.f35.name == "runtime.NumGoroutine")=false:=by decide +kernel
theorem Jk:(Tryz.f36.name == "runtime.NumGoroutine")=false:=by decide +kernel
theorem Jj:(Tryz.f37.name == "runtime.NumGoroutine")=false:=by decide +kernel
theorem KW:(Tryz.f38.name == "runtime.NumGoroutine")=false:=by decide +kernel
theorem Ji:(Tryz.f39.name == "runtime.NumGoroutine")=false:=by decide +kernel
theorem Gm:(Tryz.f40.name == "runtime.NumGoroutine")=false:=by decide +kernel
theorem KV:(Tryz.f41.name == "runtime.NumGoroutine")=false:=by decide +kernel
theorem Ig:(Tryz.f43.name == "runtime.NumGoroutine")=false:=by decide +kernel
theorem Ie:(Tryz.f44.name == "runtime.NumGoroutine")=false:=by decide +kernel
theorem Jh:(Tryz.f45.name == "runtime.NumGoroutine")=false:=by decide +kernel
theorem A8:(Tryz.f46.name == "runtime.NumGoroutine")=false:=by decide +kernel
theorem Gl:(Tryz.f49.name == "runtime.NumGoroutine")=false:=by decide +kernel
theorem Ic:(Tryz.f50.name == "runtime.NumGoroutine")=false:=by decide +kernel
theorem Gk:(Tryz.f51.name == "runtime.NumGoroutine")=false:=by decide +kernel
theorem Ib:(Tryz.f53.name == "runtime.NumGoroutine")=false:=by decide +kernel
theorem KU:(Tryz.f54.name == "runtime.NumGoroutine")=false:=by decide +kernel
theorem KT:(Tryz.f55.name == "runtime.NumGoroutine")=false:=by decide +kernel
theorem KR:(Tryz.f56.name == "runtime.NumGoroutine")=false:=by decide +kernel
theorem KQ:(Tryz.f57.name == "runtime.NumGoroutine")=false:=by decide +kernel
theorem zo:(Tryz.f58.name == "runtime.NumGoroutine")=false:=by decide +kernel
theorem EP:(Tryz.f59.name == "runtime.NumGoroutine")=false:=by decide +kernel
theorem Lp:(Tryz.f6.name == "runtime.NumGoroutine")=false:=by decide +kernel
theorem KP:(Tryz.f60.name == "runtime.NumGoroutine")=false:=by decide +kernel
theorem u7:(Tryz.f61.name == "runtime.NumGoroutine")=false:=by decide +kernel
theorem Jg:(Tryz.f62.name == "runtime.NumGoroutine")=false:=by decide +kernel
theorem Ia:(Tryz.f63.name == "runtime.NumGoroutine")=false:=by decide +kernel
theorem KO:(Tryz.f64.name == "runtime.NumGoroutine")=false:=by decide +kernel
theorem KN:(Tryz.f65.name == "runtime.NumGoroutine")=false:=by decide +kernel
theorem H9:(Tryz.f66.name == "runtime.NumGoroutine")=false:=by decide +kernel
theorem Jf:(Tryz.f67.name == "runtime.NumGoroutine")=false:=by decide +kernel
theorem KM:(Tryz.f68.name == "runtime.NumGoroutine")=false:=by decide +kernel
theorem EO:(Tryz.f69.name == "runtime.NumGoroutine")=false:=by decide +kernel
theorem Lh:(Tryz.f7.name == "runtime.NumGoroutine")=false:=by decide +kernel
theorem KL:(Tryz.f70.name == "runtime.NumGoroutine")=false:=by decide +kernel
theorem Je:(Tryz.f71.name == "runtime.NumGoroutine")=false:=by decide +kernel
theorem Jd:(Tryz.f72.name == "runtime.NumGoroutine")=false:=by decide +kernel
theorem Jc:(Tryz.f73.name == "runtime.NumGoroutine")=false:=by decide +kernel
theorem H8:(Tryz.f76.name == "runtime.NumGoroutine")=false:=by decide +kernel
theorem Gj:(Tryz.f77.name == "runtime.NumGoroutine")=false:=by decide +kernel
theorem Jb:(Tryz.f78.name == "runtime.NumGoroutine")=false:=by decide +kernel
theorem KK:(Tryz.f8.name == "runtime.NumGoroutine")=false:=by decide +kernel
theorem Ja:(Tryz.f80.name == "runtime.NumGoroutine")=false:=by decide +kernel
theorem KJ:(Tryz.f81.name == "runtime.NumGoroutine")=false:=by decide +kernel
theorem I9:(Tryz.f83.name == "runtime.NumGoroutine")=false:=by decide +kernel
theorem I8:(Tryz.f84.name == "runtime.NumGoroutine")=false:=by decide +kernel
theorem I7:(Tryz.f85.name == "runtime.NumGoroutine")=false:=by decide +kernel
theorem H7:(Tryz.f86.name == "runtime.NumGoroutine")=false:=by decide +kernel
theorem KI:(Tryz.f87.name == "runtime.NumGoroutine")=false:=by decide +kernel
theorem KH:(Tryz.f88.name == "runtime.NumGoroutine")=false:=by decide +kernel
theorem KG:(Tryz.f89.name == "runtime.NumGoroutine")=false:=by decide +kernel
theorem Lg:(Tryz.f9.name == "runtime.NumGoroutine")=false:=by decide +kernel
theorem KF:(Tryz.f90.name == "runtime.NumGoroutine")=false:=by decide +kernel
theorem Dk:(Tryz.f91.name == "runtime.NumGoroutine")=false:=by decide +kernel
theorem KE:(Tryz.f98.name == "runtime.NumGoroutine")=false:=by decide +kernel
theorem vH:dQ Tryz.prog 109=some 1:=by kernel_rfl
theorem Eu:dQ Tryz.prog 113=some 1:=by kernel_rfl
theorem I1:dQ Tryz.prog 117=some 1:=by kernel_rfl
theorem fh:dQ Tryz.prog 122=some 3:=by kernel_rfl
theorem gx:dQ Tryz.prog 137=some 1:=by kernel_rfl
theorem lM:dQ Tryz.prog 140=some 4:=by kernel_rfl
theorem yL:dQ Tryz.prog 141=some 1:=by kernel_rfl
theorem cg:dQ Tryz.prog 143=some 6:=by kernel_rfl
theorem lK:dQ Tryz.prog 149=some 7:=by kernel_rfl
theorem Et:dQ Tryz.prog 153=some 1:=by kernel_rfl
theorem jX:dQ Tryz.prog 155=some 3:=by kernel_rfl
theorem jW:dQ Tryz.prog 158=some 1:=by kernel_rfl
theorem jV:dQ Tryz.prog 164=some 256:=by kernel_rfl
theorem cX:dQ Tryz.prog 24=some 1:=by kernel_rfl
theorem AQ:dQ Tryz.prog 25=some 1:=by kernel_rfl
theorem aC:dQ Tryz.prog 27=some 19:=by kernel_rfl
theorem aP:dQ Tryz.prog 3=some 1:=by kernel_rfl
theorem gR:dQ Tryz.prog 31=some 5:=by kernel_rfl
theorem yK:dQ Tryz.prog 34=some 1:=by kernel_rfl
theorem vG:dQ Tryz.prog 4=some 1:=by kernel_rfl
theorem fT:dQ Tryz.prog 44=some 1:=by kernel_rfl
theorem I0:dQ Tryz.prog 5=some 1:=by kernel_rfl
theorem AP:dQ Tryz.prog 81=some 1:=by kernel_rfl
theorem eD:dQ Tryz.prog 87=some 2:=by kernel_rfl
theorem b9:dQ Tryz.prog 9=some 1:=by kernel_rfl
theorem Es:dQ Tryz.prog 99=some 1:=by kernel_rfl
theorem IW:(Tryz.prog.info? 101).bind (·.zero)=some (.agg #[.pointer none,.slice none 0 0]):=by kernel_rfl
theorem IV:(Tryz.prog.info? 113).bind (·.zero)=some (.int .i64 (0)):=by kernel_rfl
theorem vB:(Tryz.prog.info? 122).bind (·.zero)=some (.agg #[.int .i64 (0),.int .i64 (0),.int .i64 (0)]):=by kernel_rfl
theorem jU:(Tryz.prog.info? 143).bind (·.zero)=some (.agg #[.int .i64 (0),.int .u64 (0),.int .u64 (0),.int .u64 (0),.int .u64 (0),.slice none 0 0]):=by kernel_rfl
theorem yz:(Tryz.prog.info? 155).bind (·.zero)=some (.agg #[.string ⟨#[]⟩,.int .i64 (0),.int .i64 (0)]):=by kernel_rfl
theorem BY:(Tryz.prog.info? 164).bind (·.zero)=some (.agg (Array.replicate 256 (.int .i64 (0)))):=by kernel_rfl
theorem Kv:(Tryz.prog.info? 24).bind (·.zero)=some (.slice none 0 0):=by kernel_rfl
theorem dB:(Tryz.prog.info? 27).bind (·.zero)=some (.agg #[.string ⟨#[]⟩,.int .i64 (0),.int .i64 (0),.int .i64 (0),.slice none 0 0,.slice none 0 0,.int .i64 (0),.string ⟨#[]⟩,.int .i64 (0),.int .i64 (0),.int .i64 (0),.string ⟨#[]⟩,.int .i64 (0),.string ⟨#[]⟩,.int .i64 (0),.int .i64 (0),.slice none 0 0,.slice none 0 0,.int .i64 (0)]):=by kernel_rfl
theorem Lc:(Tryz.prog.info? 3).bind (·.zero)=some (.int .i64 (0)):=by kernel_rfl
theorem Lb:(Tryz.prog.info? 4).bind (·.zero)=some (.bool false):=by kernel_rfl
theorem wQ:(Tryz.prog.info? 87).bind (·.zero)=some (.agg #[.int .i64 (0),.int .i64 (0)]):=by kernel_rfl
end Go.Proofs.YtiigijehmmcfgaaGreatDoor.H
namespace Go.Proofs.YtiigijehmmcfgaaGreatDoor
open Go.Proofs.Tryz
open Go Go.Lw
set_option maxRecDepth 20000
section
variable {rb n m d lim:Nat}{h h':ay}{c a:UInt8}{l r:By}{x:Nd}{M:Nat->Prop}
def sX:Value:=.iface 179 (.agg #[])
def BU (c:List PanicEntry):Prop:=c=[{ v:=sX,recovered:=false }]
def St (h:ay) (rb:Nat) (l:By):Prop:=br h rb 182 [.string (bs l)]
abbrev yx (rb:Nat):Value:=.pointer (some ⟨rb,0,none⟩)
abbrev only (rb:Nat):Nat->Prop:=fun b=>b=rb
def PR {α:Type}(rb:Nat) (h:ay) (p:Option (α×By)) (Φ:α->Value->ay->Prop):Ending->ay->Prop :=
 D7 (fun v h'=>∃x r,p=some (x,r)/\Φ x v h'/\St h' rb r/\Ext (only rb) h h') (fun ch h'=>BU ch/\p=none/\Ext (only rb) h h')
theorem dY {α:Type}{p:Option (α×By)}{Φ:α->Value->ay->Prop}{c:List PanicEntry}(hc:BU c) (hp:p=none) (hx:Ext (only rb) h h'):PR rb h p Φ (.panicked c) h':=⟨hc,hp,hx⟩
theorem GP {Φ:Value->ay->Prop}{X:List PanicEntry->ay->Prop}{c:List PanicEntry}(k:X c h):D7 Φ X (.panicked c) h:=k
theorem St.cell {h:ay}{rb:Nat}{l:By}(k:St h rb l):cellAt h ⟨rb,0,none⟩=some (.string (bs l)):=br.cell k (i:=0) rfl
theorem St.lt {h:ay}{rb:Nat}{l:By}(k:St h rb l):rb<h.size:=br.lt k
def En:By->Option (UInt8×By)| []=>none|c::r=>some (c,r)
theorem jc (h:En l=none):l=[]:=by cases l with|nil=>rfl|cons c r=>cases h
theorem fS (h:En l=some (c,r)):l=c::r:=by cases l with|nil=>cases h|cons d t=>cases h;rfl
theorem s7 (hs:St h rb l):ah Tryz.prog 155 #[yx rb] h (bX fun r h'=>r= .int .u8 ((l.head?.getD 0).toNat:Nat)/\h'=h):=by
 refine ah.of func155 rfl rfl ?_;refine aY func155 1 [0,2] rfl ?_;refine aq rfl ?_;refine bA func155 2 rfl ?_;refine xp rfl (aa (off:=0) underlying182 rfl rfl H.b9 rfl) ?_;refine xp rfl (af H.cQ rfl hs.cell) ?_;refine xp rfl (ak.fI rfl rfl) ?_;refine xd [0,2,7] rfl ?_;refine aG rfl rfl (fun he=>?_) (fun he=>?_)
 · have hl:l=[]:=gE he;subst hl;refine aY func155 1 [0,2,7] rfl ?_;refine aK func155 rfl rfl ?_;exact⟨_,rfl,rfl,rfl⟩
 · obtain⟨c,r,rfl⟩:=List.exists_cons_of_ne_nil (fun(e:l=[])=>he (by rw[e];rfl));refine aA rfl ?_;refine bA func155 2 rfl ?_;refine xp rfl (aa (off:=0) underlying182 rfl rfl H.b9 rfl) ?_;refine xp rfl (af H.cQ rfl hs.cell) ?_;refine xp rfl (ak.iD underlying9 rfl rfl 0 rfl (rP rfl)) ?_;refine aR 1 [0,2,7] rfl ?_;refine aK func155 rfl rfl ?_;exact⟨_,rfl,rfl,rfl⟩
theorem fR (hs:St h rb l) (hl:l.length<=1000000):ah Tryz.prog 156 #[yx rb] h (PR rb h (En l) fun c v _=>v= .int .u8 (c.toNat:Nat)):=by
 refine ah.of func156 rfl rfl ?_;refine aY func156 1 [0,2] rfl ?_;refine aq rfl ?_;refine bA func156 2 rfl ?_;refine xp rfl (aa (off:=0) underlying182 rfl rfl H.b9 rfl) ?_;refine xp rfl (af H.cQ rfl hs.cell) ?_;refine xp rfl (ak.fI rfl rfl) ?_;refine xd [0,2,8] rfl ?_;refine aG rfl rfl (fun he=>?_) (fun he=>?_)
 · have hl:l=[]:=gE he;subst hl;refine G.bU func156 rfl ?_;refine xp rfl (aS (H.gZ ) rfl) ?_;refine xp rfl (bM H.kE rfl) ?_;refine RW.bk rfl rfl rfl (dA (Φ:=fun _ _=>False) rfl (dY rfl rfl (Ext.refl _ _))) ?_;rintro _ _ hpn;exact hpn.elim
 · obtain⟨c,r,rfl⟩:=List.exists_cons_of_ne_nil (fun(e:l=[])=>he (by rw[e];rfl));have hz:(bs (c::r)).size=r.length+1:=by rw[bf];rfl
   have hd:=jI (c::r) 1;simp only[List.length_cons] at hl;refine aA rfl ?_;refine bA func156 2 rfl ?_;refine xp rfl (aa (off:=0) underlying182 rfl rfl H.b9 rfl) ?_;refine xp rfl (af H.cQ rfl hs.cell) ?_;refine xp rfl (ak.iD underlying9 rfl rfl 0 rfl (rP rfl)) ?_;refine aR 1 [0,2,3,8] rfl ?_;refine bA func156 3 rfl ?_;refine xp rfl (aa (off:=0) underlying182 rfl rfl H.b9 rfl) ?_;refine xp rfl (af H.cQ rfl hs.cell) ?_;refine xp rfl (ak.fk underlying9 rfl rfl 1 rfl (by omega)) ?_;refine cy 1 rfl rfl (aa (off:=0) underlying182 rfl rfl H.b9 rfl) ?_;refine RW.bk rfl rfl rfl (av.aE H.b9 rfl rfl hs (by first|decide|exact of_decide_eq_true rfl|(simp;done)|(simp;omega)) rfl) ?_;rintro _ h1 ⟨rfl,hk,hx,hz1⟩;refine xd [0,2,3,8] rfl ?_;refine aY func156 2 [0,2,3,8] rfl ?_;refine aK func156 rfl rfl ?_;exact⟨c,r,rfl,rfl,by rw[hd] at hk;exact hk,hx⟩
theorem kO (c:UInt8) (hs:St h rb l) (hl:l.length<=1000000):ah Tryz.prog 146 #[yx rb,.int .u8 (c.toNat:Nat)] h (bX fun v h' =>
 ((l.head? =some c/\v= .bool true/\St h' rb l.tail)\/(l.head? ≠some c/\v= .bool false/\St h' rb l))/\Ext (only rb) h h'):=by
 refine ah.of func146 rfl rfl ?_;refine aY func146 1 [0,1,4] rfl ?_;refine aq rfl ?_;refine aq rfl ?_;refine G.bu [(18,.bool (decide (l.head? ≠some c)))] [(0,_),(1,_),(4,_)] ⟨rfl,rfl,rfl,trivial⟩ func146 rfl ?_ ?_
 · refine cy 2 rfl rfl (aa (off:=0) underlying182 rfl rfl H.b9 rfl) ?_;refine xp rfl (af H.cQ rfl hs.cell) ?_;refine xp rfl (ak.fI rfl rfl) ?_;refine aU 1 rfl ?_;refine aH (d:=10) rfl (fun he=>?_) (fun he=>?_)
   · have hl:l=[]:=gE (of_decide_eq_true he);refine aU 8 rfl ?_;refine aB rfl ?_;exact⟨rfl,az rfl (by subst hl;simp),rfl,rfl,rfl,trivial⟩
   · obtain⟨d,r,rfl⟩:=List.exists_cons_of_ne_nil (fun(e:l=[])=>(of_decide_eq_false he) (by rw[e];rfl));refine cy 2 rfl rfl (aa (off:=0) underlying182 rfl rfl H.b9 rfl) ?_;refine xp rfl (af H.cQ rfl hs.cell) ?_;refine xp rfl (ak.iD underlying9 rfl rfl 0 rfl (rP rfl)) ?_;refine aU 3 rfl ?_;refine aB rfl ?_;exact⟨rfl,az rfl (by simp only[List.head?_cons,Option.some.injEq,ne_eq];exact IY d c),rfl,rfl,rfl,trivial⟩
 · refine aG rfl rfl (fun hn=>?_) (fun hn=>?_)
   · refine aY func146 1 [0,1,4,18] rfl ?_;refine aK func146 rfl rfl ?_;exact⟨_,rfl,.inr ⟨hn,rfl,hs⟩,Ext.refl _ _⟩
   · have hn:=Classical.not_not.1 hn;obtain⟨d,r,rfl⟩:=List.exists_cons_of_ne_nil (fun(e:l=[])=>by rw[e] at hn;cases hn);have hz:(bs (d::r)).size=r.length+1:=by rw[bf];rfl
     have hd:=jI (d::r) 1;simp only[List.length_cons] at hl;refine aA rfl ?_;refine bA func146 3 rfl ?_;refine xp rfl (aa (off:=0) underlying182 rfl rfl H.b9 rfl) ?_;refine xp rfl (af H.cQ rfl hs.cell) ?_;refine xp rfl (ak.fk underlying9 rfl rfl 1 rfl (by omega)) ?_;refine cy 1 rfl rfl (aa (off:=0) underlying182 rfl rfl H.b9 rfl) ?_;refine RW.bk rfl rfl rfl (av.aE H.b9 rfl rfl hs (by first|decide|exact of_decide_eq_true rfl|(simp;done)|(simp;omega)) rfl) ?_;rintro _ h1 ⟨rfl,hk,hx,hz1⟩;refine xd [0,1,4,18] rfl ?_;refine aY func146 1 [0,1,4,18] rfl ?_;refine aK func146 rfl rfl ?_;exact⟨_,rfl,.inl ⟨hn,rfl,by rw[hd] at hk;exact hk⟩,hx⟩
theorem s9 (c:UInt8) (hs:St h rb l) (hl:l.length<=1000000):ah Tryz.prog 164 #[yx rb,.int .u8 (c.toNat:Nat)] h (PR rb h (if l.head? =some c then some ((),l.tail) else none) fun _ _ _=>True):=by
 refine ah.of func164 rfl rfl ?_;refine bA func164 2 rfl ?_;refine xo rfl (aj (vs:=[_,_]) func146 rfl H.Cg rfl (ah.aX (kO c hs hl))) ?_;rintro _ h1 ⟨hor,hx⟩
 rcases hor with ⟨h1,rfl,h2⟩|⟨h1,rfl,h2⟩
 · refine aR 1 [0,1,7] rfl ?_;refine aO rfl rfl (fun hc=>absurd hc (by decide)) (fun _=>?_);refine aA rfl ?_;refine G.DK func164 rfl ?_;exact⟨(),_,if_pos h1,trivial,h2,hx⟩
 · refine aR 1 [0,1,7] rfl ?_;refine aO rfl rfl (fun _=>?_) (fun hc=>absurd hc (by decide));refine G.bU func164 rfl ?_;refine xp rfl (aS (H.gZ ) rfl) ?_;refine xp rfl (bM H.kE rfl) ?_;refine RW.bk rfl rfl rfl (dA (Φ:=fun _ _=>False) rfl (dY rfl (if_neg h1) hx)) ?_;rintro _ _ hpn;exact hpn.elim
theorem lX (x:UInt8):ah Tryz.prog 40 #[.string ⟨#[40,41,91,93,124,42,43,63,46,92,45,94]⟩,.int .u8 (x.toNat:Nat)] h (bX fun r h'=>r= .int .i64 (Lib.indexByte fK x)/\h'=h) :=
 (iI _ _).ret fun _ _ ⟨ho,he⟩=>⟨by rw[ho];simp[fK],he⟩
theorem jy:∀x:UInt8,(0<=Lib.indexByte fK x)↔x∈fK:=by
 have h:∀n:Fin 256,(0<=Lib.indexByte fK (UInt8.ofNat n.val))↔(UInt8.ofNat n.val)∈fK:=by decide +kernel
 intro x;have:=h ⟨x.toNat,x.toNat_lt⟩;simpa using this
def xY:By:=[48,49,50,51,52,53,54,55,56,57,97,98,99,100,101,102]
theorem xX (x:UInt8):ah Tryz.prog 40 #[.string ⟨#[48,49,50,51,52,53,54,55,56,57,97,98,99,100,101,102]⟩,.int .u8 (x.toNat:Nat)] h (bX fun r h'=>r= .int .i64 (Lib.indexByte xY x)/\h'=h) :=
 (iI _ _).ret fun _ _ ⟨ho,he⟩=>⟨by rw[ho];simp[xY],he⟩
theorem Gr:∀n:Fin 256,IntKind.u8.wrap ((BitVec.ofInt IntKind.u8.bits (n.val:Int) |||BitVec.ofInt IntKind.u8.bits 32).toNat)=(((UInt8.ofNat n.val) ||| 32).toNat:Nat):=by decide +kernel
theorem low (x:UInt8):IntKind.u8.wrap ((BitVec.ofInt IntKind.u8.bits (x.toNat:Int) |||BitVec.ofInt IntKind.u8.bits 32).toNat)=((x ||| 32).toNat:Nat):=by
 have:=Gr ⟨x.toNat,x.toNat_lt⟩;simpa using this
theorem GJ:∀n:Fin 256,lf (UInt8.ofNat n.val)=if Lib.indexByte xY ((UInt8.ofNat n.val) ||| 32)<0\/n.val<48 then none else some (Lib.indexByte xY ((UInt8.ofNat n.val) ||| 32)).toNat:=by decide +kernel
theorem Lt (x:UInt8):lf x=if Lib.indexByte xY (x ||| 32)<0\/x.toNat<48 then none else some (Lib.indexByte xY (x ||| 32)).toNat:=by
 have:=GJ ⟨x.toNat,x.toNat_lt⟩;simpa using this
theorem DB {x:UInt8}(h:lf x=some n):n<16:=by
 unfold lf at h;split at h
 · cases h;omega
 · split at h
   · cases h;omega
   · split at h
     · cases h;omega
     · cases h
theorem rK (x:UInt8):ah Tryz.prog 175 #[.int .u8 (x.toNat:Nat)] h (D7 (fun v h'=>∃n:Nat,lf x=some n/\n<16/\v= .int .u8 n/\h'=h) (fun ch h'=>BU ch/\lf x=none/\h'=h)):=by
 have hd:=Lt x;refine ah.of func175 rfl rfl ?_;refine aY func175 1 [0,2] rfl ?_;refine bA func175 1 rfl ?_;refine xp rfl (ak.yg rfl rfl) ?_;refine xo rfl (aj (vs:=[_,_]) func40 rfl H.Gm rfl (ah.aX ((low x▸xX (x ||| 32))))) ?_;rintro _ _ ⟨rfl,rfl⟩;refine aR 1 [0,2,3] rfl ?_;refine aq rfl ?_;refine aq rfl ?_;refine G.bu [(12,.bool (decide (Lib.indexByte xY (x ||| 32)<0\/x.toNat<48)))] [(0,_),(2,_),(3,_)] ⟨rfl,rfl,rfl,trivial⟩ func175 rfl ?_ ?_
 · refine aU 3 rfl ?_;refine aH (d:=9) rfl (fun hg=>?_) (fun hg=>?_)
   · refine aU 3 rfl ?_;refine aB rfl ?_;exact⟨rfl,az rfl (by have:=of_decide_eq_true hg;simp[this]),rfl,rfl,rfl,trivial⟩
   · refine aU 3 rfl ?_;refine aB rfl ?_;exact⟨rfl,az rfl (by have:=of_decide_eq_false hg;simp only[decide_eq_decide];omega),rfl,rfl,rfl,trivial⟩
 · refine aG rfl rfl (fun hn=>?_) (fun hn=>?_)
   · rw[if_pos hn] at hd;refine G.bU func175 rfl ?_;refine xp rfl (aS (H.gZ ) rfl) ?_;refine xp rfl (bM H.kE rfl) ?_;refine RW.bk rfl rfl rfl (dA (Φ:=fun _ _=>False) rfl (GP ⟨rfl,hd,rfl⟩)) ?_;rintro _ _ hpn;exact hpn.elim
   · rw[if_neg hn] at hd;have h16:=DB hd;refine aA rfl ?_;refine bA func175 1 rfl ?_;refine xp rfl (ak.Cu underlying3 underlying5 rfl) ?_;refine aR 1 [0,2,3,12] rfl ?_;refine aK func175 rfl rfl ?_;refine⟨_,hd,h16,?_,rfl⟩
     show Value.int .u8 _=_
     congr 1
     have:IntKind.u8.wrap (Lib.indexByte xY (x ||| 32))=Lib.indexByte xY (x ||| 32):=wrap_u8 (by omega);rw[this];omega
theorem Fe:∀m n:Fin 16,IntKind.u8.wrap ((BitVec.ofInt IntKind.u8.bits (IntKind.u8.wrap ((m.val:Int)*2 ^ min (4:Int).toNat IntKind.u8.bits)) |||BitVec.ofInt IntKind.u8.bits (n.val:Int)).toNat)=((UInt8.ofNat (m.val*16+n.val)).toNat:Nat):=by decide +kernel
theorem K7 (hm:m<16) (hn:n<16):IntKind.u8.wrap ((BitVec.ofInt IntKind.u8.bits (IntKind.u8.wrap ((m:Int)*2 ^ min (4:Int).toNat IntKind.u8.bits)) |||BitVec.ofInt IntKind.u8.bits (n:Int)).toNat)=((UInt8.ofNat (m*16+n)).toNat:Nat):=Fe ⟨m,hm⟩ ⟨n,hn⟩
theorem Is {x:UInt8}(t:By) (h:lf x=none):pY (120::x::t)=none:=by
 unfold pY;cases t with
 |nil=>rfl
 |cons y t=>simp[h]
theorem nU (hs:St h rb l) (hl:l.length<=1000000):ah Tryz.prog 167 #[yx rb] h (PR rb h (pY l) fun c v _=>v= .int .u8 (c.toNat:Nat)):=by
 refine ah.of func167 rfl rfl ?_;refine aY func167 1 [0,2] rfl ?_;refine aq rfl ?_;refine bA func167 1 rfl ?_;refine xo rfl (aj (vs:=[_]) func156 rfl H.sZ rfl (ah.jv (fR hs hl) ((fun _ _ ⟨hc,hp,hx⟩=>dY hc (by rw[jc hp];rfl) hx)))) ?_;rintro _ h1 ⟨c,r,hp,rfl,hs1,hx1⟩;refine aR 1 [0,2,3] rfl ?_;refine G.block rfl rfl ?_;refine aY func167 3 [0,2,3,7] rfl ?_;obtain rfl:=fS hp;simp only[List.length_cons] at hl;refine aG rfl rfl (fun e1=>?_) (fun e1=>?_)
 · have e1:c=110:=(de rfl).1 e1;refine aY func167 1 [0,2,3,7] rfl ?_;refine aK func167 rfl rfl ?_;exact⟨10,r,by unfold pY;simp[e1],rfl,hs1,hx1⟩
 · have e1:¬c=110:=fun e=>e1 ((de rfl).2 e)
   refine aY func167 3 [0,2,3,7,10] rfl ?_;refine aG rfl rfl (fun e2=>?_) (fun e2=>?_)
   · have e2:c=116:=(de rfl).1 e2;refine aY func167 1 [0,2,3,7,10] rfl ?_;refine aK func167 rfl rfl ?_;exact⟨9,r,by unfold pY;simp[e2],rfl,hs1,hx1⟩
   · have e2:¬c=116:=fun e=>e2 ((de rfl).2 e)
     refine aY func167 3 [0,2,3,7,10,13] rfl ?_;refine aG rfl rfl (fun e3=>?_) (fun e3=>?_)
     · have e3:c=114:=(de rfl).1 e3;refine aY func167 1 [0,2,3,7,10,13] rfl ?_;refine aK func167 rfl rfl ?_;exact⟨13,r,by unfold pY;simp[e3],rfl,hs1,hx1⟩
     · have e3:¬c=114:=fun e=>e3 ((de rfl).2 e)
       refine aY func167 3 [0,2,3,7,10,13,16] rfl ?_;refine aG rfl rfl (fun e4=>?_) (fun e4=>?_)
       · have e4:c=120:=(de rfl).1 e4;subst e4;refine bA func167 1 rfl ?_;refine xo rfl (aj (vs:=[_]) func156 rfl H.sZ rfl (ah.jv (fR hs1 (by omega)) ((fun _ _ ⟨hc,hp,hx⟩=>dY hc (by rw[jc hp];rfl) (hx1.trans hx))))) ?_;rintro _ h2 ⟨x,r2,hp2,rfl,hs2,hx2⟩;refine xo rfl (aj (vs:=[_]) func175 rfl H.Hj rfl (ah.jv (rK x) ((fun _ h' ⟨hc,hq,hh⟩=>dY hc (by obtain rfl:=fS hp2;exact Is _ hq) (by subst hh;exact hx1.trans hx2))))) ?_;rintro _ _ ⟨m,hm,hm16,rfl,rfl⟩;refine aR 1 [0,2,3,4,7,10,13,16] rfl ?_;refine bA func167 1 rfl ?_;refine xp rfl (CG rfl rfl (by omega)) ?_;refine aU 1 rfl ?_;obtain rfl:=fS hp2;simp only[List.length_cons] at hl;refine xo rfl (aj (vs:=[_]) func156 rfl H.sZ rfl (ah.jv (fR hs2 (by omega)) ((fun _ _ ⟨hc,hp,hx⟩=>dY hc (by rw[jc hp];rfl) ((hx1.trans hx2).trans hx))))) ?_;rintro _ h3 ⟨y,r3,hp3,rfl,hs3,hx3⟩;refine xo rfl (aj (vs:=[_]) func175 rfl H.Hj rfl (ah.jv (rK y) ((fun _ h' ⟨hc,hq,hh⟩=>dY hc (by obtain rfl:=fS hp3;unfold pY;simp[hm,hq]) (by subst hh;exact(hx1.trans hx2).trans hx3))))) ?_;rintro _ _ ⟨n,hn,hn16,rfl,rfl⟩;refine xp rfl (ak.yg rfl rfl) ?_;refine aR 1 [0,2,3,4,7,10,13,16] rfl ?_;obtain rfl:=fS hp3;refine aK func167 rfl rfl ?_;exact⟨UInt8.ofNat (m*16+n),r3,by unfold pY;simp[hm,hn],by show Value.int _ _=_;rw[K7 hm16 hn16],hs3,(hx1.trans hx2).trans hx3⟩
       · have e4:¬c=120:=fun e=>e4 ((de rfl).2 e)
         refine bA func167 1 rfl ?_;refine xo rfl (aj (vs:=[_,_]) func40 rfl H.Gm rfl (ah.aX (lX c))) ?_;rintro _ _ ⟨rfl,rfl⟩;refine aR 2 [0,2,3,7,10,13,16,28] rfl ?_;refine aG rfl rfl (fun e5=>?_) (fun e5=>?_)
         · have e5:=(jy c).1 e5;refine aY func167 2 [0,2,3,7,10,13,16,28] rfl ?_;refine aK func167 rfl rfl ?_;exact⟨c,r,by unfold pY;simp[e1,e2,e3,e4,e5],rfl,hs1,hx1⟩
         · have e5:¬c∈fK:=fun e=>e5 ((jy c).2 e)
           refine aA rfl ?_;refine G.aT ?_;refine G.bU func167 rfl ?_;refine xp rfl (aS (H.gZ ) rfl) ?_;refine xp rfl (bM H.kE rfl) ?_;refine RW.bk rfl rfl rfl (dA (Φ:=fun _ _=>False) rfl (dY rfl (by unfold pY;simp[e1,e2,e3,e4,e5]) hx1)) ?_;rintro _ _ hpn;exact hpn.elim
theorem pO (hs:St h rb l) (hl:l.length<=1000000):ah Tryz.prog 174 #[yx rb] h (PR rb h (ox l) fun c v _=>v= .int .u8 (c.toNat:Nat)):=by
 refine ah.of func174 rfl rfl ?_;refine aY func174 1 [0,2] rfl ?_;refine bA func174 1 rfl ?_;refine xo rfl (aj (vs:=[_]) func156 rfl H.sZ rfl (ah.jv (fR hs hl) ((fun _ _ ⟨hc,hp,hx⟩=>dY hc (by rw[jc hp];rfl) hx)))) ?_;rintro _ h1 ⟨c,r,hp,rfl,hs1,hx1⟩;refine aR 1 [0,2,3] rfl ?_;refine aq rfl ?_;refine G.block rfl rfl ?_;refine aY func174 3 [0,2,3,6] rfl ?_;obtain rfl:=fS hp;simp only[List.length_cons] at hl;refine aG rfl rfl (fun e1=>?_) (fun e1=>?_)
 · have e1:c=92:=(de rfl).1 e1;refine bA func174 1 rfl ?_;refine xo rfl (aj (vs:=[_]) func167 rfl H.Ho rfl (ah.jv (nU hs1 (by omega)) ((fun _ _ ⟨hc,hp,hx⟩=>dY hc (by unfold ox;simp[e1,hp]) (hx1.trans hx))))) ?_;rintro _ h2 ⟨d,r2,hp2,rfl,hs2,hx2⟩;refine aR 1 [0,2,3,6] rfl ?_;refine aK func174 rfl rfl ?_;exact⟨d,r2,by unfold ox;simp[e1,hp2],rfl,hs2,hx1.trans hx2⟩
 · have e1:¬c=92:=fun e=>e1 ((de rfl).2 e)
   refine bA func174 1 rfl ?_;refine xo rfl (aj (vs:=[_,_]) func40 rfl H.Gm rfl (ah.aX (lX c))) ?_;rintro _ _ ⟨rfl,rfl⟩;refine aR 2 [0,2,3,6,11] rfl ?_;refine aG rfl rfl (fun e5=>?_) (fun e5=>?_)
   · have e5:=(jy c).1 e5;refine G.bU func174 rfl ?_;refine xp rfl (aS (H.gZ ) rfl) ?_;refine xp rfl (bM H.kE rfl) ?_;refine RW.bk rfl rfl rfl (dA (Φ:=fun _ _=>False) rfl (dY rfl (by unfold ox;simp[e1,e5]) hx1)) ?_;rintro _ _ hpn;exact hpn.elim
   · have e5:¬c∈fK:=fun e=>e5 ((jy c).2 e)
     refine aA rfl ?_;refine G.aT ?_;refine aY func174 2 [0,2,3,6,11] rfl ?_;refine aK func174 rfl rfl ?_;exact⟨c,r,by unfold ox;simp[e1,e5],rfl,hs1,hx1⟩
theorem EU (k s:Nat) (v:Value) (i:Nat) (hi:i<256):(dV k s v).set (1+i / 64*1) (.int .u64 ((AG s (i / 64) ||| 2 ^ (i%64):Nat):Int))=dV k (s |||(1 <<< i)) v:=by
 have h4:i / 64<4:=by omega
 have hw:=Ee s i;have hs:∀q,q≠i / 64->eO (s |||(1 <<< i)) q=eO s q:=fun q hq=>by unfold eO;rw[Ef s i q hq]
 have he:eO (s |||(1 <<< i)) (i / 64)= .int .u64 ((AG s (i / 64) ||| 2 ^ (i%64):Nat):Int):=by unfold eO;rw[hw]
 rw[<-he];generalize i / 64=q at *;unfold dV
 match q,h4 with
 | 0,_=>rw[hs 1 (by decide),hs 2 (by decide),hs 3 (by decide)];rfl
 | 1,_=>rw[hs 0 (by decide),hs 2 (by decide),hs 3 (by decide)];rfl
 | 2,_=>rw[hs 0 (by decide),hs 1 (by decide),hs 3 (by decide)];rfl
 | 3,_=>rw[hs 0 (by decide),hs 1 (by decide),hs 2 (by decide)];rfl
theorem ET (k s:Nat) (v:Value) (q:Nat) (hq:q<4):(dV k s v)[1+q*1]? =some (eO s q):=by
 match q,hq with
 | 0,_=>rfl
 | 1,_=>rfl
 | 2,_=>rfl
 | 3,_=>rfl
theorem HX {w i:Nat}(hw:w<18446744073709551616):IntKind.u64.wrap ((BitVec.ofInt IntKind.u64.bits (w:Int) |||BitVec.ofInt IntKind.u64.bits (IntKind.u64.wrap (1*2 ^ min (((i:Int)).tmod 64).toNat IntKind.u64.bits))).toNat:Int)=((w ||| 2 ^ (i%64):Nat):Int):=by
 have h1:((i:Int)).tmod 64=((i%64:Nat):Int):=by rw[Int.tmod_eq_emod_of_nonneg (by omega)];omega
 have hb:i%64<64:=Nat.mod_lt _ (by decide);have h2:2 ^ (i%64)<2 ^ 64:=Nat.pow_lt_pow_right (by decide) hb;rw[h1,I3,KB hw h2]
theorem AU (s i n:Nat) (h:0<n):vL s i n=vL (s |||(1 <<< i)) (i+1) (n-1):=by
 cases n with
 |zero=>omega
 |succ n=>rfl
theorem gS {nb k s:Nat}{v:Value}(hk:br h nb 143 (dV k s v)) (a b:UInt8):ah Tryz.prog 166 #[.pointer (some ⟨nb,1,none⟩),.int .u8 (a.toNat:Nat),.int .u8 (b.toNat:Nat)] h (bX fun _ h' =>
 br h' nb 143 (dV k (nM s a b) v)/\Ext (only nb) h h'):=by
 have ha:=a.toNat_lt;have hb:=b.toNat_lt;refine ah.of func166 rfl rfl ?_;refine bA func166 1 rfl ?_;refine xp rfl (ak.BD underlying5 underlying3 rfl (wrap_i64 ⟨by omega,by omega⟩)) ?_;refine aR 1 [0,1,2,6] rfl ?_;refine G.block rfl rfl ?_;refine bQ (σ:=Nat×Nat) (fun q=>[(0,.pointer (some ⟨nb,1,none⟩)),(2,.int .u8 (b.toNat:Nat)),(6,.int .i64 (q.1:Nat))]) (fun q h'=>br h' nb 143 (dV k q.2 v)/\Ext (only nb) h h'/\q.1<=256/\vL q.2 q.1 (b.toNat+1-q.1)=nM s a b) (fun q=>b.toNat+1-q.1) ((a.toNat,s)) rfl ⟨rfl,rfl,rfl,trivial⟩ ⟨hk,Ext.refl _ _,by show a.toNat<=256;omega,rfl⟩ ?_;rintro⟨i,s'⟩ h1 ⟨hk1,hx1,hi,hsp⟩ ih
 try dsimp only
 dsimp only at hk1 hi hsp;refine aq rfl ?_;refine bA func166 2 rfl ?_;refine xp rfl (ak.BD underlying5 underlying3 rfl (wrap_i64 ⟨by omega,by omega⟩)) ?_;refine aR 1 [0,2,6,12] rfl ?_;refine aG rfl rfl (fun hle=>?_) (fun hle=>?_)
 · have hi255:i<=b.toNat:=by omega
   rw[AU _ _ _ (by omega)] at hsp;have hq:i / 64<4:=by omega
   have hdiv:IntKind.i64.wrap (((i:Int)).tdiv 64)=((i / 64:Nat):Int):=by
    rw[Int.tdiv_eq_ediv_of_nonneg (by omega),wrap_i64 ⟨by omega,by omega⟩];omega
   have hw:=AF s' (i / 64);have hset:=EU k s' v i (by omega);have hk1':br h1 nb 143 [.int .i64 k,eO s' 0,eO s' 1,eO s' 2,eO s' 3,v]:=hk1;refine aA rfl ?_;refine aq rfl ?_;refine G.block rfl rfl ?_;refine bV (fun b=>Array.size h1<=b) (fun i=>Nat.blt i 12) (sz:=13) (listed:= #[false,false,false,false,false,false,false,false,false,false,false,false,false]) func166 H.mixed rfl rfl rfl ?_;refine bE 0 1 (by kernel_rfl) rfl ?_;refine bE 1 3 (by kernel_rfl) rfl ?_;refine bg 2 7 (by kernel_rfl) rfl (fun h' e=>yp rfl rfl (by decide)) ?_;refine bE 3 15 (by kernel_rfl) rfl ?_;refine bg 4 31 (by kernel_rfl) rfl (fun h' e=>ak.dX underlying140 H.AP rfl rfl (i / 64) hdiv hq) ?_;refine bg 5 63 (by kernel_rfl) rfl (fun h' e=>af H.IF rfl (e.old (hk1.cell (ET k s' v _ hq)))) ?_;refine bE 6 127 (by kernel_rfl) rfl ?_;refine bg 7 255 (by kernel_rfl) rfl (fun h' e=>CI rfl rfl (by decide)) ?_;refine bg 8 511 (by kernel_rfl) rfl (fun h' e=>CG rfl rfl (by rw[Int.tmod_eq_emod_of_nonneg (by omega)];omega)) ?_;refine bg 9 1023 (by kernel_rfl) rfl (fun h' e=>ak.yg rfl rfl) ?_;refine dJ 10 2047 (by kernel_rfl) rfl (ak.aX (cB rfl)) ?_;rintro _ hq_ ⟨rfl,hqe_⟩;replace hqe_:=hqe_.symm;subst hqe_;refine⟨fun _=>Ext.refl _ _,?_⟩;refine bg 11 4095 (by kernel_rfl) rfl (fun h' e=>ak.dX underlying140 H.AP rfl rfl (i / 64) hdiv hq) ?_;refine ie 12 8191 (by kernel_rfl) rfl (av.aE H.AP rfl rfl hk1' (by first|decide|exact of_decide_eq_true rfl|(simp;done)|(simp;omega)) rfl) ?_;rintro _ h2 ⟨rfl,hk2,hx2,hz2⟩;refine⟨fun hk=>(nomatch hk),?_⟩;refine aQ (by kernel_rfl) ?_;refine xu [0,2,6,12] rfl ?_;refine G.aT ?_;refine G.bU func166 rfl ?_;refine cy 1 rfl rfl (ak.bK rfl rfl ⟨by omega,by omega⟩) ?_;refine aR 1 [0,2,6,12] rfl ?_;rw[HX hw,show [.int .i64 (k:Int),eO s' 0,eO s' 1,eO s' 2,eO s' 3,v]=dV k s' v from rfl,hset] at hk2;exact ih (i+1,s' |||(1 <<< i)) _ _ ⟨rfl,rfl,rfl,trivial⟩ ⟨hk2,hx1.trans hx2,by show i+1<=256;omega,by show vL _ (i+1) (b.toNat+1-(i+1))=_;rw[<-hsp];rfl⟩ (by show b.toNat+1-(i+1)<b.toNat+1-i;omega)
 · have h0:b.toNat+1-i=0:=by omega
   rw[h0] at hsp;refine bG rfl rfl ?_;refine G.DK func166 rfl ?_;exact⟨_,rfl,by rw[<-hsp];exact hk1,hx1⟩
theorem DC (s:Nat) (b:UInt8):ah Tryz.prog 141 #[.agg (uq s).toArray,.int .u8 (b.toNat:Nat)] h (bX fun r h'=>r= .bool (s.testBit b.toNat)/\aD h h'):=by
 have hb:=b.toNat_lt;have hq:b.toNat / 64<4:=by omega
 have hdiv:IntKind.u8.wrap (((b.toNat:Int)).tdiv 64)=((b.toNat / 64:Nat):Int):=by
  rw[Int.tdiv_eq_ediv_of_nonneg (by omega),wrap_u8 (by omega)];omega
 have hmod:((b.toNat:Int)).tmod 64=((b.toNat%64:Nat):Int):=by rw[Int.tmod_eq_emod_of_nonneg (by omega)];omega
 have hm64:b.toNat%64<64:=Nat.mod_lt _ (by decide)
 have hword:∀q,q<4->(uq s)[0+q*1]? =some (eO s q):=fun q hq=>by
  match q,hq with
  | 0,_=>rfl
  | 1,_=>rfl
  | 2,_=>rfl
  | 3,_=>rfl
 refine ah.of func141 rfl rfl ?_;refine xr func141 rfl ?_;refine xo rfl (av.cS rfl) ?_;rintro _ h1 ⟨rfl,hk,he,hz⟩;refine aR 1 [0,1,2,4] rfl ?_;refine bA func141 1 rfl ?_;refine xp rfl (yp rfl rfl (by decide)) ?_;have hk:br h1 h.size 140 (uq s):=hk;refine xp rfl (ak.dX underlying140 H.AP rfl rfl (b.toNat / 64) hdiv hq) ?_;refine xp rfl (af H.IF rfl (hk.cell (hword _ hq))) ?_;refine cy 1 rfl rfl (CI rfl rfl (by decide)) ?_;refine xp rfl (GW rfl rfl (by rw[hmod];omega)) ?_;refine xp rfl (ak.FF rfl rfl) ?_;refine aR 2 [0,1,2,4] rfl ?_;refine aK func141 rfl rfl ?_;refine⟨_,rfl,?_,he⟩;rw[hmod,I2 _ _ hm64,K9 (Nat.lt_of_le_of_lt (Nat.shiftRight_le _ _) (AF s _)),Gd];cases s.testBit b.toNat<;>rfl
theorem jx.only {h0:ay}{g:Nat}(e:Ext M h0 h) (x:Ext (fun b=>b=g) h h') (hg:h0.size<=g):Ext M h0 h' :=
 ⟨Nat.le_trans e.size x.size,fun b hb hm=>by rw[x.block b (Nat.lt_of_lt_of_le hb e.size) (by omega)];exact e.block b hb hm⟩
theorem jx.ax {h0:ay}(e:Ext M h0 h) (x:aD h h'):Ext M h0 h':=e.trans (aD.of x)
theorem sJ:∀(n m acc:Nat) (s:By),s.length<n->s.length<m->lN n acc s=lN m acc s
 | 0,_,_,_,h,_=>by omega
 |_,0,_,_,_,h=>by omega
 |n+1,m+1,acc,s,hn,hm=>by
  rw[lN,lN];cases hf:eY s with
  |none=>rfl
  |some p =>
   obtain⟨⟨a,b⟩,r⟩:=p;have hlen:=mD hf;simp only;split
   · rfl
   · exact sJ n m _ _ (by omega) (by omega)
def nV (first:Bool) (acc:Nat) (l:By):Option (Nat×By):=if first=false/\l.head? =some 93 then some (acc,l.tail) else lN (l.length+1) acc l
theorem oL {first:Bool}{acc:Nat}(h:¬(first=false/\l.head? =some 93)) (hf:eY l=none):nV first acc l=none:=by
 unfold nV;rw[if_neg h,lN,hf]
theorem uy {first:Bool}{acc:Nat}{b:UInt8}(h:¬(first=false/\l.head? =some 93)) (hf:eY l=some ((a,b),r)):nV first acc l=nV false (nM acc a b) r:=by
 have hlen:=mD hf;unfold nV;rw[if_neg h,lN,hf];simp only[true_and];split
 · simp
 · rename_i hne
   rw[if_neg (fun e=>by
    cases r with
    |nil=>cases e
    |cons c t=>simp at e;subst e;exact hne t rfl)]
   exact sJ _ _ _ _ (by omega) (by omega)
theorem JT (h:ox l=none):eY l=none:=by unfold eY;rw[h]
theorem JS (h:ox l=some (a,r)) (hr:r.head? ≠some 45):eY l=some ((a,a),r):=by
 unfold eY;rw[h];simp only;split
 · exact absurd rfl hr
 · rfl
theorem JR (h:ox l=some (a,r)) (hr:r.head? =some 45) (hb:ox r.tail=none):eY l=none:=by
 unfold eY;rw[h];cases r with
 |nil=>cases hr
 |cons c t=>simp at hr;subst hr;simp at hb;simp[hb]
theorem JQ {r':By}{b:UInt8}(h:ox l=some (a,r)) (hr:r.head? =some 45) (hb:ox r.tail=some (b,r')):eY l=if b.toNat<a.toNat then none else some ((a,b),r'):=by
 unfold eY;rw[h];cases r with
 |nil=>cases hr
 |cons c t=>simp at hr;subst hr;simp at hb;simp[hb]
theorem vp (l:By):iF l=(nV true 0 (if l.head? =some 94 then l.tail else l)).map fun p=>(.mk 1 (if l.head? =some 94 then mo p.1 else p.1) [],p.2):=by
 unfold iF nV;split
 · simp
 · rename_i hne
   have h1:l.head? ≠some 94:=fun e=>by
    cases l with
    |nil=>cases e
    |cons c t=>simp at e;subst e;exact hne t rfl
   simp[h1]
theorem Gc (s q:Nat) (hq:q<4):AG (mo s) q=18446744073709551615 ^^^ AG s q:=by
 apply Nat.eq_of_testBit_eq
 intro i;rw[kL,Nat.testBit_xor,kL];unfold mo;rw[Nat.testBit_xor,show FO=2 ^ 256-1 from rfl,Nat.testBit_two_pow_sub_one,show (18446744073709551615:Nat)=2 ^ 64-1 from rfl,Nat.testBit_two_pow_sub_one]
 by_cases hi:i<64
 · have:64*q+i<256:=by omega
   simp[hi,this]
 · simp[hi]
theorem IX {x:Nat}(hx:x<18446744073709551616):IntKind.u64.wrap ((BitVec.ofInt IntKind.u64.bits (if IntKind.u64.signed then -1 else IntKind.u64.max) ^^^ BitVec.ofInt IntKind.u64.bits (x:Int)).toNat:Int)=((18446744073709551615 ^^^ x:Nat):Int):=by
 have e:(BitVec.ofInt IntKind.u64.bits (if IntKind.u64.signed then -1 else IntKind.u64.max) ^^^ BitVec.ofInt IntKind.u64.bits (x:Int)).toNat=18446744073709551615 ^^^ x:=by
  rw[BitVec.toNat_xor]
  have h1:(BitVec.ofInt IntKind.u64.bits (x:Int)).toNat=x:=by
   show (BitVec.ofInt 64 (x:Int)).toNat=x
   simp only[BitVec.toNat_ofInt];omega
  rw[h1];rfl
 rw[e];have:18446744073709551615 ^^^ x<2 ^ 64:=Nat.xor_lt_two_pow (by decide) hx;exact mX ⟨by omega,by omega⟩
def zu (s q i:Nat):Value:=if i<q then eO (mo s) i else eO s i
def Iq (s q:Nat):List Value:=[.int .i64 1,zu s q 0,zu s q 1,zu s q 2,zu s q 3,.slice none 0 0]
theorem ES (s q:Nat) (hq:q<4):(Iq s q)[1+q*1]? =some (eO s q):=by
 match q,hq with
 | 0,_=>rfl
 | 1,_=>rfl
 | 2,_=>rfl
 | 3,_=>rfl
theorem Gp (s q:Nat) (hq:q<4):(Iq s q).set (1+q*1) (.int .u64 ((18446744073709551615 ^^^ AG s q:Nat):Int))=Iq s (q+1):=by
 rw[<-Gc s q hq]
 match q,hq with
 | 0,_=>rfl
 | 1,_=>rfl
 | 2,_=>rfl
 | 3,_=>rfl
abbrev Cx (n:Nat):Nat->Prop:=fun b=>b<n
def BR (n:Nat) (x:Nd) (v:Value) (h':ay):Prop:=∃w,v= .agg (dV x.kind x.set w).toArray/\b7 h' (Cx n) (dV x.kind x.set w) x
theorem fA (h:ay) (O:Nat->Prop) (k s:Nat):b7 h O (dV k s (.slice none 0 0)) (.mk k s []):=.of k s (ck.nil _ _ _)
theorem vk (hs:St h rb l) (hl:l.length<=1000000):ah Tryz.prog 165 #[yx rb] h (PR rb h (iF l) (BR h.size)):=by
 have hlt:=hs.lt;have hbr:=vp l;refine ah.of func165 rfl rfl ?_;refine xr func165 rfl ?_;refine xo rfl (av.aW H.jU) ?_;rintro _ h1 ⟨rfl,hkr,he1,hz1⟩;refine xd [0,2] rfl ?_;refine xr func165 rfl ?_;refine xp rfl (aS (H.CA _) rfl) ?_;refine xo rfl (av.aW H.jU) ?_;rintro _ h2 ⟨rfl,hk2,he2,hz2⟩;refine RW.bk rfl rfl rfl (av.an H.cg rfl rfl hk2 (by first|rfl|(simp;done)|(simp;omega)) (by first|decide|exact of_decide_eq_true rfl|(simp;done)|(simp;omega)) (by first|decide|simp[Value.oneCell'])) ?_;rintro _ h3 ⟨rfl,hk3,hx3,hz3⟩;have hk3:br h3 h1.size 143 (dV 1 0 (.slice none 0 0)):=hk3;have hkr:br h1 h.size 143 (dV 0 0 (.slice none 0 0)):=hkr;have e3:aD h h3:=aD.only (he1.trans he2) hx3 (by omega);have hkr3:br h3 h.size 143 (dV 0 0 (.slice none 0 0)):=(hkr.ax he2).ext hx3 (by show ¬_=_;omega);have hs3:St h3 rb l:=br.ax hs e3;refine xd [0,2,3] rfl ?_;refine bA func165 1 rfl ?_;refine xo rfl (aj (vs:=[_,_]) func146 rfl H.Cg rfl (ah.aX (kO 94 hs3 hl))) ?_;rintro _ h4 ⟨hor,hx4⟩
 obtain⟨nt,l1,rfl,hnt,hl1,hs4⟩:∃(nt:Bool) (l1:By),_=Value.bool nt/\nt=decide (l.head? =some 94)/\l1=(if l.head? =some 94 then l.tail else l)/\St h4 rb l1:=by
  rcases hor with ⟨a1,a2,a3⟩|⟨a1,a2,a3⟩
  · exact⟨true,_,a2,by simp[a1],by rw[if_pos a1],a3⟩
  · exact⟨false,_,a2,by simp[a1],by rw[if_neg a1],a3⟩
 rw[<-hl1] at hbr;have hl1l:l1.length<=1000000:=by rw[hl1];split;(have:l.tail.length<=l.length:=by simp);omega;exact hl
 have hkr4:=hkr3.ext hx4 (by show ¬_=_;omega);have hk4:=hk3.ext hx4 (by show ¬_=_;omega);have e4:Ext (only rb) h h4:=(aD.of e3).trans hx4;have hz4:=hx4.size;generalize htg:nV true 0 l1=tgt at hbr;refine aR 1 [0,2,3,4] rfl ?_;refine aq rfl ?_;refine aY func165 1 [0,2,3,4,5] rfl ?_;refine G.block rfl rfl ?_;refine bQ (σ:=Bool×Nat×By) (fun q=>[(0,yx rb),(2,.pointer (some ⟨h.size,0,none⟩)),(3,.pointer (some ⟨h1.size,0,none⟩)),(4,.bool nt),(5,.bool q.1)]) (fun q h'=>St h' rb q.2.2/\br h' h1.size 143 (dV 1 q.2.1 (.slice none 0 0))/\br h' h.size 143 (dV 0 0 (.slice none 0 0))/\Ext (only rb) h h'/\q.2.2.length<=1000000/\nV q.1 q.2.1 q.2.2=tgt) (fun q=>q.2.2.length) ((true,0,l1)) rfl ⟨rfl,rfl,rfl,rfl,rfl,trivial⟩ ⟨hs4,hk4,hkr4,e4,hl1l,htg⟩ ?_;rintro⟨first,acc,m⟩ h5 ⟨hs5,hk5,hkr5,e5,hm,hcon⟩ ih
 try dsimp only
 dsimp only at hs5 hk5 hm hcon;refine aq rfl ?_;refine aq rfl ?_;refine G.bu [(17,.bool (decide (¬(first=false/\m.head? =some 93))))] [(0,_),(2,_),(3,_),(4,_),(5,_)] ⟨rfl,rfl,rfl,rfl,rfl,trivial⟩ func165 rfl ?_ ?_
 · refine aU 2 rfl ?_;refine aH (d:=13) rfl (fun hf=>?_) (fun hf=>?_)
   · refine aU 4 rfl ?_;refine aB rfl ?_;exact⟨rfl,az rfl (by simp[hf]),rfl,rfl,rfl,rfl,rfl,trivial⟩
   · refine aU 1 rfl ?_;refine xo rfl (aj (vs:=[_]) func155 rfl H.Hq rfl (ah.aX (s7 hs5))) ?_;rintro _ _ ⟨rfl,rfl⟩;refine aU 2 rfl ?_;refine aB rfl ?_;exact⟨rfl,az rfl (by cases m with|nil=>simp|cons c t=>simp only[hf,List.head?_cons,Option.getD_some,Option.some.injEq,true_and];exact decide_eq_decide.2 (not_congr (de rfl))),rfl,rfl,rfl,rfl,rfl,trivial⟩
 · refine aG rfl rfl (fun hgo=>?_) (fun hgo=>?_)
   · refine aA rfl ?_;refine aq rfl ?_;refine G.block rfl rfl ?_;refine bA func165 1 rfl ?_;refine xo rfl (aj (vs:=[_]) func174 rfl H.Hl rfl (ah.jv (pO hs5 hm) ((fun _ _ ⟨hc,hp,hx⟩=>dY hc (by rw[hbr,<-hcon,oL hgo (JT hp)];rfl) (e5.trans hx))))) ?_;rintro _ h6 ⟨a,r,ha,rfl,hs6,hx6⟩;have hrl:=pP ha;have hk6:=hk5.ext hx6 (by show ¬_=_;omega);have hkr6:=hkr5.ext hx6 (by show ¬_=_;omega);have e6:=e5.trans hx6;refine aR 1 [0,2,3,4,5,6,17] rfl ?_;refine aY func165 2 [0,2,3,4,5,6,7,17] rfl ?_;refine aq rfl ?_;refine bA func165 1 rfl ?_;refine xo rfl (aj (vs:=[_,_]) func146 rfl H.Cg rfl (ah.aX (kO 45 hs6 (by omega)))) ?_;rintro _ h7 ⟨hor7,hx7⟩;have hk7:=hk6.ext hx7 (by show ¬_=_;omega);have hkr7:=hkr6.ext hx7 (by show ¬_=_;omega);have e7:=e6.trans hx7
     rcases hor7 with ⟨a1,rfl,hs7⟩|⟨a1,rfl,hs7⟩
     · have htl:r.tail.length<=r.length:=by simp
       refine xd [0,2,3,4,5,6,7,17,22] rfl ?_;refine aO rfl rfl (fun _=>?_) (fun hc=>absurd hc (by decide));refine G.bU func165 rfl ?_;refine aU 1 rfl ?_;refine xo rfl (aj (vs:=[_]) func174 rfl H.Hl rfl (ah.jv (pO hs7 (by omega)) ((fun _ _ ⟨hc,hp,hx⟩=>dY hc (by rw[hbr,<-hcon,oL hgo (JR ha a1 hp)];rfl) (e7.trans hx))))) ?_;rintro _ h8 ⟨b,r8,hb,rfl,hs8,hx8⟩;have hbl:=pP hb;have hk8:=hk7.ext hx8 (by show ¬_=_;omega);have hkr8:=hkr7.ext hx8 (by show ¬_=_;omega);have e8:=e7.trans hx8;have hf4:=JQ ha a1 hb;refine aR 1 [0,2,3,4,5,6,7,17,22] rfl ?_;refine aq rfl ?_;refine aY func165 3 [0,2,3,4,5,6,7,17,22,27] rfl ?_;refine aG rfl rfl (fun hlow=>?_) (fun hlow=>?_)
       · rw[if_pos (by omega)] at hf4;refine G.bU func165 rfl ?_;refine xp rfl (aS (H.gZ ) rfl) ?_;refine xp rfl (bM H.kE rfl) ?_;refine RW.bk rfl rfl rfl (dA (Φ:=fun _ _=>False) rfl (dY rfl (by rw[hbr,<-hcon,oL hgo hf4];rfl) e8)) ?_;rintro _ _ hpn;exact hpn.elim
       · rw[if_neg (by omega)] at hf4;refine aA rfl ?_;refine G.bU func165 rfl ?_;refine xp rfl (aa (off:=1) underlying143 rfl rfl H.lM rfl) ?_;refine aU 2 rfl ?_;refine xo rfl (aj (vs:=[_,_,_]) func166 rfl H.vX rfl (ah.aX (gS hk8 a b))) ?_;rintro _ h9 ⟨hk9,hx9⟩;refine xd [0,2,3,4,5,6,7,17,22,27] rfl ?_;refine G.aT ?_;refine G.bU func165 rfl ?_;refine aR 1 [0,2,3,4,5,6,7,17,22,27] rfl ?_;have hsp:=uy (acc:=acc) hgo hf4;exact ih (false,nM acc a b,r8) _ _ ⟨rfl,rfl,rfl,rfl,rfl,trivial⟩ ⟨br.ext hs8 hx9 (by show ¬_=_;omega),hk9,hkr8.ext hx9 (by show ¬_=_;omega),jx.only e8 hx9 (by omega),by show r8.length<=_;omega,by rw[<-hcon,hsp]⟩ (by show r8.length<m.length;omega)
     · have hf2:=JS ha a1;refine xd [0,2,3,4,5,6,7,17,22] rfl ?_;refine aO rfl rfl (fun hc=>absurd hc (by decide)) (fun _=>?_);refine aA rfl ?_;refine aq rfl ?_;refine aY func165 3 [0,2,3,4,5,6,7,17,22,27] rfl ?_;refine aO rfl rfl (fun hc=>absurd hc (by simp)) (fun _=>?_);refine aA rfl ?_;refine G.bU func165 rfl ?_;refine xp rfl (aa (off:=1) underlying143 rfl rfl H.lM rfl) ?_;refine aU 2 rfl ?_;refine xo rfl (aj (vs:=[_,_,_]) func166 rfl H.vX rfl (ah.aX (gS hk7 a a))) ?_;rintro _ h9 ⟨hk9,hx9⟩;refine xd [0,2,3,4,5,6,7,17,22,27] rfl ?_;refine G.aT ?_;refine G.bU func165 rfl ?_;refine aR 1 [0,2,3,4,5,6,7,17,22,27] rfl ?_;have hsp:=uy (acc:=acc) hgo hf2;exact ih (false,nM acc a a,r) _ _ ⟨rfl,rfl,rfl,rfl,rfl,trivial⟩ ⟨br.ext hs7 hx9 (by show ¬_=_;omega),hk9,hkr7.ext hx9 (by show ¬_=_;omega),jx.only e7 hx9 (by omega),by show r.length<=_;omega,by rw[<-hcon,hsp]⟩ (by show r.length<m.length;omega)
   · have hgo:=Classical.not_not.1 hgo;have htgt:tgt=some (acc,m.tail):=by rw[<-hcon];unfold nV;rw[if_pos hgo]
     refine bG rfl rfl ?_;refine bA func165 1 rfl ?_;refine xo rfl (aj (vs:=[_,_]) func164 rfl H.Hp rfl (ah.jv (s9 93 hs5 hm) ((fun _ _ ⟨hc,hp,hx⟩=>absurd hp (by rw[if_pos hgo.2];simp))))) ?_;rintro _ h6 ⟨_,r,hp,_,hs6,hx6⟩;refine xd [0,2,3,4,5,17] rfl ?_;refine aq rfl ?_;refine aY func165 1 [0,2,3,4,5,17,36] rfl ?_;refine G.block rfl rfl ?_;rw[if_pos hgo.2] at hp;cases hp;have hk6:=hk5.ext hx6 (by show ¬_=_;omega);have hkr6:=hkr5.ext hx6 (by show ¬_=_;omega);have e6:=e5.trans hx6;have hk6:br h6 h1.size 143 (Iq acc 0):=hk6;refine bQ (σ:=Nat) (fun q=>[(2,.pointer (some ⟨h.size,0,none⟩)),(3,.pointer (some ⟨h1.size,0,none⟩)),(4,.bool nt),(36,.int .i64 (q:Nat))]) (fun q h'=>q<=4/\St h' rb m.tail/\br h' h1.size 143 (Iq acc (if nt then q else 0))/\br h' h.size 143 (dV 0 0 (.slice none 0 0))/\Ext (only rb) h h') (fun q=>4-q) (0) rfl ⟨rfl,rfl,rfl,rfl,trivial⟩ ⟨by omega,hs6,by cases nt<;>exact hk6,hkr6,e6⟩ ?_;rintro q h7 ⟨hq,hs7,hk7,hkr7,e7⟩ ih;refine aY func165 1 [2,3,4,36,37] rfl ?_;refine aq rfl ?_;refine aG rfl rfl (fun hq4=>?_) (fun hq4=>?_)
     · have hq4':q<4:=by omega
       refine aA rfl ?_;refine aq rfl ?_;refine G.block rfl rfl ?_;refine aY func165 2 [2,3,4,8,36,37] rfl ?_;refine aY func165 1 [2,3,4,8,36,37,39] rfl ?_;refine aO rfl rfl (fun hb=>?_) (fun hb=>?_)
       · rw[if_pos hb] at hk7;have hk7':br h7 h1.size 143 [.int .i64 1,zu acc q 0,zu acc q 1,zu acc q 2,zu acc q 3,.slice none 0 0]:=hk7;refine G.bU func165 rfl ?_;refine cy 2 rfl rfl (aa (off:=1) underlying143 rfl rfl H.lM rfl) ?_;refine xp rfl (ak.dX underlying140 H.AP rfl rfl q rfl hq4') ?_;refine xp rfl (af H.IF rfl (hk7.cell (ES acc q hq4'))) ?_;refine xp rfl (ak.JY rfl) ?_;refine xp rfl (aa (off:=1) underlying143 rfl rfl H.lM rfl) ?_;refine xp rfl (ak.dX underlying140 H.AP rfl rfl q rfl hq4') ?_;refine RW.bk rfl rfl rfl (av.aE H.AP rfl rfl hk7' (by first|decide|exact of_decide_eq_true rfl|(simp;done)|(simp;omega)) rfl) ?_;rintro _ h8 ⟨rfl,hk8,hx8,hz8⟩;refine xd [2,3,4,8,36,37,39] rfl ?_;refine G.aT ?_;refine G.bU func165 rfl ?_;refine xp rfl (ak.bK rfl rfl ⟨by omega,by omega⟩) ?_;refine aR 1 [2,3,4,8,36,37,39] rfl ?_;have hk8:br h8 h1.size 143 (Iq acc (q+1)):=by rw[<-Gp acc q hq4',<-IX (AF acc q)];exact hk8
         exact ih (q+1) _ _ ⟨rfl,rfl,rfl,rfl,trivial⟩ ⟨by omega,br.ext hs7 hx8 (by show ¬_=_;omega),by rw[if_pos hb];exact hk8,hkr7.ext hx8 (by show ¬_=_;omega),jx.only e7 hx8 (by omega)⟩ (by omega)
       · rw[if_neg (by rw[hb];decide)] at hk7;refine aA rfl ?_;refine G.aT ?_;refine G.bU func165 rfl ?_;refine xp rfl (ak.bK rfl rfl ⟨by omega,by omega⟩) ?_;refine aR 1 [2,3,4,8,36,37,39] rfl ?_;exact ih (q+1) _ _ ⟨rfl,rfl,rfl,rfl,trivial⟩ ⟨by omega,hs7,by rw[if_neg (by rw[hb];decide)];exact hk7,hkr7,e7⟩ (by omega)
     · obtain rfl:q=4:=by omega
       have hfin:Iq acc (if nt then 4 else 0)=dV 1 (if l.head? =some 94 then mo acc else acc) (.slice none 0 0):=by
        subst hnt
        by_cases hd:l.head? =some 94<;>simp[hd]<;>rfl
       rw[hfin] at hk7;have hbr2:iF l=some (.mk 1 (if l.head? =some 94 then mo acc else acc) [],m.tail):=by rw[hbr,htgt];rfl
       generalize (if l.head? =some 94 then mo acc else acc)=fs at hk7 hbr2;refine bG rfl rfl ?_;refine xr func165 rfl ?_;refine xp rfl (ak.au H.eR H.cg rfl hk7.row (by first|rfl|(simp;done)|(simp;omega))) ?_;refine RW.bk rfl rfl rfl (av.an H.cg rfl rfl hkr7 (by first|rfl|(simp;done)|(simp;omega)) (by first|decide|exact of_decide_eq_true rfl|(simp;done)|(simp;omega)) (b7.one (fA h7 (only rb) 1 fs))) ?_;rintro _ h8 ⟨rfl,hk8,hx8,hz8⟩;refine xd [2,3,4,36,37] rfl ?_;have hk8:br h8 h.size 143 (dV 1 fs (.slice none 0 0)):=hk8;refine G.bq func165 rfl (.cons (aM.bp H.eR H.cg rfl (hk8.row) (by first|rfl|(simp;done)|(simp;omega))) (.nil)) ?_;exact⟨_,m.tail,hbr2,⟨_,rfl,fA _ _ _ _⟩,br.ext hs7 hx8 (by show ¬_=_;omega),jx.only e7 hx8 (Nat.le_refl _)⟩
theorem gH {cs:List Value}(k:b7 h (Cx m) cs x) (hn:n<=m) (e:Ext M h h') (hM:∀b,b<h.size->M b->b<m):b7 h' (Cx n) cs x :=
 k.mv (Mv.eG e fun b hb ho=>⟨fun hm=>ho (hM b hb hm),fun k=>ho (Nat.lt_of_lt_of_le k hn)⟩)
theorem EK {cs ds:List Value}(h:cs.length=ds.length):over cs 0 ds=ds:=by
 unfold over;rw[List.drop_of_length_le (by omega)];simp
theorem pW {O:Nat->Prop}{v:Value}{xs:List Nd}(kind:Nat) (hv:ck rF h O v xs):ah Tryz.prog 147 #[.int .i64 (kind:Nat),v] h (bX fun r h'=>(∃w,r= .agg (dV (cD kind xs).kind (cD kind xs).set w).toArray/\b7 h' O (dV (cD kind xs).kind (cD kind xs).set w) (cD kind xs))/\aD h h'):=by
 obtain⟨oa,n,c,rfl,hsl⟩:=hv.open;have hn:=hsl.len;refine ah.of func147 rfl rfl ?_;refine xr func147 rfl ?_;refine xo rfl (av.aW H.jU) ?_;rintro _ h1 ⟨rfl,hk,he,hz⟩;refine xd [0,1,4] rfl ?_;refine aq rfl ?_;refine bA func147 1 rfl ?_;refine xp rfl (ak.aJ underlying141 rfl) ?_;refine xd [0,1,4,6] rfl ?_;refine G.block rfl rfl ?_;refine aY func147 2 [0,1,4,6,7] rfl ?_;have hk:br h1 h.size 143 (dV 0 0 (.slice none 0 0)):=hk;have hsl1:=hsl.mv (Mv.ax he);have hv1:=hv.ax he;refine aG rfl rfl (fun e0=>?_) (fun e0=>?_)
 · obtain rfl:n=0:=by omega
   have hx:xs=[]:=List.eq_nil_of_length_eq_zero hn;subst hx;refine xr func147 rfl ?_;refine xp rfl (aS (H.BN ) rfl) ?_;refine RW.bk rfl rfl rfl (av.an H.cg rfl rfl hk (by first|rfl|(simp;done)|(simp;omega)) (by first|decide|exact of_decide_eq_true rfl|(simp;done)|(simp;omega)) (by first|decide|simp[Value.oneCell'])) ?_;rintro _ h2 ⟨rfl,hk2,hx2,hz2⟩;refine xd [0,1,4,6,7] rfl ?_;have hk2:br h2 h.size 143 (dV 0 0 (.slice none 0 0)):=hk2;refine G.bq func147 rfl (.cons (aM.bp H.eR H.cg rfl (hk2.row) (by first|rfl|(simp;done)|(simp;omega))) (.nil)) ?_;exact⟨_,rfl,⟨_,rfl,fA _ _ 0 0⟩,aD.only he hx2 (Nat.le_refl _)⟩
 · refine aY func147 2 [0,1,4,6,7,10] rfl ?_;refine aG rfl rfl (fun e1=>?_) (fun e1=>?_)
   · obtain rfl:n=1:=by omega
     obtain⟨x,rfl⟩:=List.length_eq_one_iff.1 hn;obtain⟨b,o,cs,ha,ho,hr,hR⟩:=hsl.get 0 x rfl;have hr:=he.rowAt (fun k=>k) hr;obtain⟨w,rfl,hw⟩:=b7.open hR;refine bA func147 1 rfl ?_;refine xp rfl (ak.aF underlying141 H.cg rfl rfl 0 rfl ha (by decide)) ?_;refine xp rfl (ak.au H.eR H.cg rfl hr (by first|rfl|(simp;done)|(simp;omega))) ?_;refine RW.bk rfl rfl rfl (av.an H.cg rfl rfl hk (by first|rfl|(simp;done)|(simp;omega)) (by first|decide|exact of_decide_eq_true rfl|(simp;done)|(simp;omega)) (rF.one hR)) ?_;rintro _ h2 ⟨rfl,hk2,hx2,hz2⟩;refine xd [0,1,4,6,7,10] rfl ?_;have hk2:br h2 h.size 143 (dV x.kind x.set w):=hk2;refine G.bq func147 rfl (.cons (aM.bp H.eR H.cg rfl (hk2.row) (by first|rfl|(simp;done)|(simp;omega))) (.nil)) ?_;exact⟨_,rfl,⟨w,rfl,b7.ax hR (aD.only he hx2 (Nat.le_refl _))⟩,aD.only he hx2 (Nat.le_refl _)⟩
   · refine aA rfl ?_;refine G.aT ?_;refine bA func147 2 rfl ?_;refine xp rfl (aS (H.qG _ _ _ _) rfl) ?_;refine RW.bk rfl rfl rfl (av.an H.cg rfl rfl hk (by first|rfl|(simp;done)|(simp;omega)) (by first|decide|exact of_decide_eq_true rfl|(simp;done)|(simp;omega)) (by first|decide|simp[Value.oneCell'])) ?_;rintro _ h2 ⟨rfl,hk2,hx2,hz2⟩;refine xd [0,1,4,6,7,10] rfl ?_;have hk2:br h2 h.size 143 (dV kind 0 (.slice oa n c)):=hk2;refine G.bq func147 rfl (.cons (aM.bp H.eR H.cg rfl (hk2.row) (by first|rfl|(simp;done)|(simp;omega))) (.nil)) ?_
     have hj:cD kind xs= .mk kind 0 xs:=by
      unfold cD;split
      · simp at hn;omega
      · simp at hn;omega
      · rfl
     rw[hj];exact⟨_,rfl,⟨.slice oa n c,rfl,b7.of kind 0 (hv.ax (aD.only he hx2 (Nat.le_refl _)))⟩,aD.only he hx2 (Nat.le_refl _)⟩
def Sg (h:ay) (lim:Nat):Prop:=∃m,4<lim/\m<lim/\cellAt h ⟨4,0,none⟩=some (.map (some m)) /\
 ∃l:List (Int×Int),fB (Value.int .u8) (Value.int .i64) h m l/\∀c:UInt8,((kK (c.toNat:Int) l).map (Value.int .i64)).getD (Value.int .i64 0)=Value.int .i64 (dF c:Nat)
theorem Sg.ext {h h':ay}{lim:Nat}(k:Sg h lim){M:Nat->Prop}(e:Ext M h h') (hM:∀b,M b->lim<=b):Sg h' lim:=by
 obtain⟨m,h1,h2,h3,l,h4,h5⟩:=k;exact⟨m,h1,h2,e.cell (fun k=>absurd (hM _ k) (by show ¬lim<=4;omega)) h3,l,h4.ext e (fun k=>by have:=hM _ k;omega),h5⟩
def uO (d lim:Nat):Prop:=∀(h:ay) (rb:Nat) (l:By),Sg h lim->lim<=rb->St h rb l->l.length<d->l.length<=1000000 ->
 ah Tryz.prog 134 #[yx rb] h (PR rb h (er d l) (BR h.size))
theorem BO (ih:uO d lim) (hg:Sg h lim) (hrb:lim<=rb) (hs:St h rb l) (hd:l.length<=d) (hl:l.length<=1000000):ah Tryz.prog 154 #[yx rb] h (PR rb h (fq (er d) l) (BR h.size)):=by
 have hlt:=hs.lt;refine ah.of func154 rfl rfl ?_;refine xr func154 rfl ?_;refine xo rfl (av.aW H.jU) ?_;rintro _ h1 ⟨rfl,hkr,he1,hz1⟩;refine xd [0,2] rfl ?_;refine xr func154 rfl ?_;refine xp rfl (aS (H.CA _) rfl) ?_;refine xo rfl (av.aW H.jU) ?_;rintro _ h2 ⟨rfl,hk2,he2,hz2⟩;refine RW.bk rfl rfl rfl (av.an H.cg rfl rfl hk2 (by first|rfl|(simp;done)|(simp;omega)) (by first|decide|exact of_decide_eq_true rfl|(simp;done)|(simp;omega)) (by first|decide|simp[Value.oneCell'])) ?_;rintro _ h3 ⟨rfl,hk3,hx3,hz3⟩;have hk3:br h3 h1.size 143 (dV 1 0 (.slice none 0 0)):=hk3;have hkr:br h1 h.size 143 (dV 0 0 (.slice none 0 0)):=hkr;have e3:aD h h3:=aD.only (he1.trans he2) hx3 (by omega);have hkr3:br h3 h.size 143 (dV 0 0 (.slice none 0 0)):=(hkr.ax he2).ext hx3 (by show ¬_=_;omega);have hs3:St h3 rb l:=br.ax hs e3;refine xd [0,2,3] rfl ?_;refine aq rfl ?_;refine bA func154 1 rfl ?_;refine xo rfl (aj (vs:=[_]) func156 rfl H.sZ rfl (ah.jv (fR hs3 hl) ((fun _ _ ⟨hc,hp,hx⟩=>dY hc (by rw[jc hp];rfl) ((aD.of e3).trans hx))))) ?_;rintro _ h4 ⟨c,r,hp,rfl,hs4,hx4⟩;obtain rfl:=fS hp;simp only[List.length_cons] at hl hd;have hkr4:=hkr3.ext hx4 (by show ¬_=_;omega);have hk4:=hk3.ext hx4 (by show ¬_=_;omega);have e4:Ext (only rb) h h4:=(aD.of e3).trans hx4;have hz4:=hx4.size;have hg4:Sg h4 lim:=hg.ext e4 (fun b (hb:b=rb)=>by omega);refine aR 1 [0,2,3,4] rfl ?_;refine aY func154 1 [0,2,3,4,8] rfl ?_;refine G.block rfl rfl ?_;refine aY func154 2 [0,2,3,4,8,13] rfl ?_
 have fin:∀(x:Nd) (w:Value) (m:By) (h':ay) (ρ':Env),Sub [(0,yx rb),(2,.pointer (some ⟨h.size,0,none⟩)),(3,.pointer (some ⟨h1.size,0,none⟩))] ρ'->br h' h1.size 143 (dV x.kind x.set w)->br h' h.size 143 (dV 0 0 (.slice none 0 0))->St h' rb m->b7 h' (Cx (h.size+1)) (dV x.kind x.set w) x->Ext (only rb) h h'->fq (er d) (c::r)=some (x,m)->G Tryz.prog 154 f154 [.code [1,1,1]] ρ' h' (PR rb h (fq (er d) (c::r)) (BR h.size)):=by
  rintro x w m hh ρ' hsub hkx hkrr hst hnd hee hat;refine G.sub (ρ':=[(0,yx rb),(2,.pointer (some ⟨h.size,0,none⟩)),(3,.pointer (some ⟨h1.size,0,none⟩))]) hsub ?_;refine xr func154 rfl ?_;refine xp rfl (ak.au H.eR H.cg rfl hkx.row (by first|rfl|(simp;done)|(simp;omega))) ?_;refine RW.bk rfl rfl rfl (av.an H.cg rfl rfl hkrr (by first|rfl|(simp;done)|(simp;omega)) (by first|decide|exact of_decide_eq_true rfl|(simp;done)|(simp;omega)) (b7.one hnd)) ?_;rintro _ h9 ⟨rfl,hk9,hx9,hz9⟩;refine xd [0,2,3] rfl ?_;have hk9:br h9 h.size 143 (dV x.kind x.set w):=hk9;refine G.bq func154 rfl (.cons (aM.bp H.eR H.cg rfl (hk9.row) (by first|rfl|(simp;done)|(simp;omega))) (.nil)) ?_;exact⟨x,m,hat,⟨w,rfl,gH hnd (Nat.le_succ _) hx9 (fun b _ (hb:b=h.size)=>by omega)⟩,br.ext hst hx9 (by show ¬_=_;omega),jx.only hee hx9 (Nat.le_refl _)⟩
 refine aG rfl rfl (fun c1=>?_) (fun c1=>?_)
 · have c1:c=40:=(de rfl).1 c1;subst c1;refine bA func154 1 rfl ?_;refine xo rfl (aj (vs:=[_]) func134 rfl H.Hw rfl (ah.jv (ih h4 rb r hg4 hrb hs4 (by omega) (by omega)) ((fun _ _ ⟨hc,hp,hx⟩=>dY hc (by unfold fq;simp[hp]) (e4.trans hx))))) ?_;rintro _ h5 ⟨x,r5,hp5,⟨w,rfl,hnd5⟩,hs5,hx5⟩;have hk5:=hk4.ext hx5 (by show ¬_=_;omega);have hkr5:=hkr4.ext hx5 (by show ¬_=_;omega);have hr5:=ke d hp5;refine RW.bk rfl rfl rfl (av.an H.cg rfl rfl hk5 (by first|rfl|(simp;done)|(simp;omega)) (by first|decide|exact of_decide_eq_true rfl|(simp;done)|(simp;omega)) (b7.one hnd5)) ?_;rintro _ h6 ⟨rfl,hk6,hx6,hz6⟩;refine xd [0,2,3,4,8,13] rfl ?_;refine G.bU func154 rfl ?_;refine aU 1 rfl ?_;have hk6:br h6 h1.size 143 (dV x.kind x.set w):=hk6;have hs6:St h6 rb r5:=br.ext hs5 hx6 (by show ¬_=_;omega);have hnd6:b7 h6 (Cx (h.size+1)) (dV x.kind x.set w) x:=gH hnd5 (by omega) hx6 (fun b _ (hb:b=h1.size)=>by omega);have e6:=jx.only (e4.trans hx5) hx6 (by omega);refine xo rfl (aj (vs:=[_,_]) func164 rfl H.Hp rfl (ah.jv (s9 41 hs6 (by omega)) ((fun _ _ ⟨hc,hp,hx⟩=>dY hc (by unfold fq;simp only[if_true,hp5];split;rename_i t ht;cases ht;simp at hp;rfl) (e6.trans hx))))) ?_;rintro _ h7 ⟨_,r7,hp7,_,hs7,hx7⟩;refine xd [0,2,3,4,8,13] rfl ?_;refine G.aT ?_
   have hcl:r5=41::r7:=by
    split at hp7
    · rename_i hh;cases hp7;cases r5 with|nil=>cases hh|cons a b=>simp at hh;subst hh;rfl
    · cases hp7
   subst hcl;exact fin x w r7 _ _ ⟨rfl,rfl,rfl,trivial⟩ (hk6.ext hx7 (by show ¬_=_;omega)) ((hkr5.ext hx6 (by show ¬_=_;omega)).ext hx7 (by show ¬_=_;omega)) hs7 (gH hnd6 (Nat.le_refl _) hx7 (fun b _ (hb:b=rb)=>by omega)) (e6.trans hx7) (by unfold fq;simp[hp5])
 · have c1:¬c=40:=fun e=>c1 ((de rfl).2 e)
   refine aY func154 2 [0,2,3,4,8,13,19] rfl ?_;refine aG rfl rfl (fun c2=>?_) (fun c2=>?_)
   · have c2:c=91:=(de rfl).1 c2;refine G.bU func154 rfl ?_;refine aU 1 rfl ?_;refine xo rfl (aj (vs:=[_]) func165 rfl H.Jo rfl (ah.jv (vk hs4 (by omega)) ((fun _ _ ⟨hc,hp,hx⟩=>dY hc (by unfold fq;simp[c2,hp]) (e4.trans hx))))) ?_;rintro _ h5 ⟨x,r5,hp5,⟨w,rfl,hnd5⟩,hs5,hx5⟩;have hk5:=hk4.ext hx5 (by show ¬_=_;omega);have hkr5:=hkr4.ext hx5 (by show ¬_=_;omega);refine RW.bk rfl rfl rfl (av.an H.cg rfl rfl hk5 (by first|rfl|(simp;done)|(simp;omega)) (by first|decide|exact of_decide_eq_true rfl|(simp;done)|(simp;omega)) (b7.one hnd5)) ?_;rintro _ h6 ⟨rfl,hk6,hx6,hz6⟩;refine xd [0,2,3,4,8,13,19] rfl ?_;refine G.aT ?_;have hk6:br h6 h1.size 143 (dV x.kind x.set w):=hk6;exact fin x w r5 _ _ ⟨rfl,rfl,rfl,trivial⟩ hk6 (hkr5.ext hx6 (by show ¬_=_;omega)) (br.ext hs5 hx6 (by show ¬_=_;omega)) (gH hnd5 (by omega) hx6 (fun b _ (hb:b=h1.size)=>by omega)) (jx.only (e4.trans hx5) hx6 (by omega)) (by unfold fq;simp[c2,hp5])
   · have c2:¬c=91:=fun e=>c2 ((de rfl).2 e)
     refine aY func154 2 [0,2,3,4,8,13,19,23] rfl ?_;refine aG rfl rfl (fun c3=>?_) (fun c3=>?_)
     · have c3:c=46:=(de rfl).1 c3;refine xr func154 rfl ?_;refine xp rfl (aa (off:=1) underlying143 rfl rfl H.lM rfl) ?_;refine xo rfl (aj (vs:=[_,_,_]) func166 rfl H.vX rfl (ah.aX (gS hk4 0 9))) ?_;rintro _ h5 ⟨hk5,hx5⟩;refine xd [0,2,3,4,8,13,19,23] rfl ?_;refine G.bU func154 rfl ?_;refine xp rfl (aa (off:=1) underlying143 rfl rfl H.lM rfl) ?_;refine xo rfl (aj (vs:=[_,_,_]) func166 rfl H.vX rfl (ah.aX (gS hk5 11 255))) ?_;rintro _ h6 ⟨hk6,hx6⟩;refine xd [0,2,3,4,8,13,19,23] rfl ?_;refine G.aT ?_;have hx56:=hx5.trans hx6;exact fin HK (.slice none 0 0) r _ _ ⟨rfl,rfl,rfl,trivial⟩ hk6 (hkr4.ext hx56 (by show ¬_=_;omega)) (br.ext hs4 hx56 (by show ¬_=_;omega)) (fA _ _ _ _) (jx.only e4 hx56 (by omega)) (by unfold fq;simp[c3])
     · have c3:¬c=46:=fun e=>c3 ((de rfl).2 e)
       refine aY func154 2 [0,2,3,4,8,13,19,23,29] rfl ?_;refine aG rfl rfl (fun c4=>?_) (fun c4=>?_)
       · have c4:c=92:=(de rfl).1 c4;refine bA func154 1 rfl ?_;refine xo rfl (aj (vs:=[_]) func167 rfl H.Ho rfl (ah.jv (nU hs4 (by omega)) ((fun _ _ ⟨hc,hp,hx⟩=>dY hc (by unfold fq;simp[c4,hp]) (e4.trans hx))))) ?_;rintro _ h5 ⟨b,r5,hp5,rfl,hs5,hx5⟩;have hk5:=hk4.ext hx5 (by show ¬_=_;omega);have hkr5:=hkr4.ext hx5 (by show ¬_=_;omega);refine aR 1 [0,2,3,4,8,13,19,23,29] rfl ?_;refine G.bU func154 rfl ?_;refine xp rfl (aa (off:=1) underlying143 rfl rfl H.lM rfl) ?_;refine aU 2 rfl ?_;refine xo rfl (aj (vs:=[_,_,_]) func166 rfl H.vX rfl (ah.aX (gS hk5 b b))) ?_;rintro _ h6 ⟨hk6,hx6⟩;refine xd [0,2,3,4,8,13,19,23,29] rfl ?_;refine G.aT ?_;exact fin (ye b) (.slice none 0 0) r5 _ _ ⟨rfl,rfl,rfl,trivial⟩ hk6 (hkr5.ext hx6 (by show ¬_=_;omega)) (br.ext hs5 hx6 (by show ¬_=_;omega)) (fA _ _ _ _) (jx.only (e4.trans hx5) hx6 (by omega)) (by unfold fq;simp[c4,hp5])
       · have c4:¬c=92:=fun e=>c4 ((de rfl).2 e)
         refine aq rfl ?_;refine aY func154 2 [0,2,3,4,8,13,19,23,29,37] rfl ?_;refine aG rfl rfl (fun d41=>?_) (fun d41=>?_)
         · have d41:c=41:=(de rfl).1 d41;refine aA rfl ?_;refine aO rfl rfl (fun _=>?_) (fun hc=>absurd hc (by rw[d41];decide));refine G.bU func154 rfl ?_;refine xp rfl (aS (H.gZ ) rfl) ?_;refine xp rfl (bM H.kE rfl) ?_;refine RW.bk rfl rfl rfl (dA (Φ:=fun _ _=>False) rfl (dY rfl (by unfold fq;simp[d41]) e4)) ?_;rintro _ _ hpn;exact hpn.elim
         · have d41:¬c=41:=fun e=>d41 ((de rfl).2 e)
           refine aY func154 2 [0,2,3,4,8,13,19,23,29,37] rfl ?_;refine aG rfl rfl (fun d93=>?_) (fun d93=>?_)
           · have d93:c=93:=(de rfl).1 d93;refine aA rfl ?_;refine aO rfl rfl (fun _=>?_) (fun hc=>absurd hc (by rw[d93];decide));refine G.bU func154 rfl ?_;refine xp rfl (aS (H.gZ ) rfl) ?_;refine xp rfl (bM H.kE rfl) ?_;refine RW.bk rfl rfl rfl (dA (Φ:=fun _ _=>False) rfl (dY rfl (by unfold fq;simp[d93]) e4)) ?_;rintro _ _ hpn;exact hpn.elim
           · have d93:¬c=93:=fun e=>d93 ((de rfl).2 e)
             refine aY func154 2 [0,2,3,4,8,13,19,23,29,37] rfl ?_;refine aG rfl rfl (fun d124=>?_) (fun d124=>?_)
             · have d124:c=124:=(de rfl).1 d124;refine aA rfl ?_;refine aO rfl rfl (fun _=>?_) (fun hc=>absurd hc (by rw[d124];decide));refine G.bU func154 rfl ?_;refine xp rfl (aS (H.gZ ) rfl) ?_;refine xp rfl (bM H.kE rfl) ?_;refine RW.bk rfl rfl rfl (dA (Φ:=fun _ _=>False) rfl (dY rfl (by unfold fq;simp[d124]) e4)) ?_;rintro _ _ hpn;exact hpn.elim
             · have d124:¬c=124:=fun e=>d124 ((de rfl).2 e)
               refine aY func154 2 [0,2,3,4,8,13,19,23,29,37] rfl ?_;refine aG rfl rfl (fun d42=>?_) (fun d42=>?_)
               · have d42:c=42:=(de rfl).1 d42;refine aA rfl ?_;refine aO rfl rfl (fun _=>?_) (fun hc=>absurd hc (by rw[d42];decide));refine G.bU func154 rfl ?_;refine xp rfl (aS (H.gZ ) rfl) ?_;refine xp rfl (bM H.kE rfl) ?_;refine RW.bk rfl rfl rfl (dA (Φ:=fun _ _=>False) rfl (dY rfl (by unfold fq;simp[d42]) e4)) ?_;rintro _ _ hpn;exact hpn.elim
               · have d42:¬c=42:=fun e=>d42 ((de rfl).2 e)
                 refine aY func154 2 [0,2,3,4,8,13,19,23,29,37] rfl ?_;refine aG rfl rfl (fun d43=>?_) (fun d43=>?_)
                 · have d43:c=43:=(de rfl).1 d43;refine aA rfl ?_;refine aO rfl rfl (fun _=>?_) (fun hc=>absurd hc (by rw[d43];decide));refine G.bU func154 rfl ?_;refine xp rfl (aS (H.gZ ) rfl) ?_;refine xp rfl (bM H.kE rfl) ?_;refine RW.bk rfl rfl rfl (dA (Φ:=fun _ _=>False) rfl (dY rfl (by unfold fq;simp[d43]) e4)) ?_;rintro _ _ hpn;exact hpn.elim
                 · have d43:¬c=43:=fun e=>d43 ((de rfl).2 e)
                   refine G.bU func154 rfl ?_;refine aR 2 [0,2,3,4,8,13,19,23,29,37] rfl ?_;refine aG rfl rfl (fun d63=>?_) (fun d63=>?_)
                   · have d63:c=63:=(de rfl).1 d63;refine G.bU func154 rfl ?_;refine xp rfl (aS (H.gZ ) rfl) ?_;refine xp rfl (bM H.kE rfl) ?_;refine RW.bk rfl rfl rfl (dA (Φ:=fun _ _=>False) rfl (dY rfl (by unfold fq;simp[d63]) e4)) ?_;rintro _ _ hpn;exact hpn.elim
                   · have d63:¬c=63:=fun e=>d63 ((de rfl).2 e)
                     refine G.bU func154 rfl ?_;refine xp rfl (aa (off:=1) underlying143 rfl rfl H.lM rfl) ?_;refine aU 2 rfl ?_;refine xo rfl (aj (vs:=[_,_,_]) func166 rfl H.vX rfl (ah.aX (gS hk4 c c))) ?_;rintro _ h6 ⟨hk6,hx6⟩;refine xd [0,2,3,4,8,13,19,23,29,37] rfl ?_;refine G.aT ?_;exact fin (ye c) (.slice none 0 0) r _ _ ⟨rfl,rfl,rfl,trivial⟩ hk6 (hkr4.ext hx6 (by show ¬_=_;omega)) (br.ext hs4 hx6 (by show ¬_=_;omega)) (fA _ _ _ _) (jx.only e4 hx6 (by omega)) (by unfold fq;simp[c1,c2,c3,c4,d41,d93,d124,d42,d43,d63])
theorem xg {ρ:Env}{dst:Option Nat}{ty:TypeId}{pos:String}{after:Array Edge}{guard:Option (Nat×Bool)}{x y:Operand}{l:List (Int×Int)}
 (hx:bS ρ x=some (.map (some m))) (hy:bS ρ y=some (.int .u8 (c.toNat:Nat))) (hm:fB (Value.int .u8) (Value.int .i64) h m l) (hv:∀c:UInt8,((kK (c.toNat:Int) l).map (Value.int .i64)).getD (Value.int .i64 0)=Value.int .i64 (dF c:Nat)) :
 ak Tryz.prog ⟨dst,.lookup 198 x y false,ty,pos,after,guard⟩ ρ h (.int .i64 (dF c:Nat)):=by
 have:=ak.lookup (P:=Tryz.prog) (ρ:=ρ) (h:=h) (dst:=dst) (ty:=ty) (pos:=pos) (after:=after) (guard:=guard) (js.int .u8) underlying198 underlying5 (z:=.int .i64 0) (et:=3) (by kernel_rfl) hx hy rfl hm
 rwa [hv c] at this
theorem yT (h:0<dF c):eU x (c::r)=eU (.mk (dF c) 0 [x]) r:=by
 rw[eU,if_neg (by omega)]
theorem yS {m:By}(h:dF (m.head?.getD 0)=0):eU x m=(x,m):=by
 cases m with
 |nil=>rfl
 |cons c r=>rw[eU,if_pos (by simpa using h)]
theorem zh (ih:uO d lim) (hg:Sg h lim) (hrb:lim<=rb) (hs:St h rb l) (hd:l.length<=d) (hl:l.length<=1000000):ah Tryz.prog 151 #[yx rb] h (PR rb h (fW (er d) l) (BR h.size)):=by
 have hlt:=hs.lt;refine ah.of func151 rfl rfl ?_;refine xr func151 rfl ?_;refine xo rfl (av.aW H.jU) ?_;rintro _ h1 ⟨rfl,hkr,he1,hz1⟩;refine xd [0,2] rfl ?_;refine bA func151 1 rfl ?_;refine xo rfl (aj (vs:=[_]) func154 rfl H.Jp rfl (ah.jv (BO ih (hg.ext he1 (fun _ k=>k.elim)) hrb (br.ax hs he1) hd hl) ((fun _ _ ⟨hc,hp,hx⟩=>dY hc (by unfold fW;rw[hp];rfl) ((aD.of he1).trans hx))))) ?_;rintro _ h2 ⟨x0,m0,hp0,⟨w0,rfl,hnd2⟩,hs2,hx2⟩;refine xo rfl (av.aW H.jU) ?_;rintro _ h3 ⟨rfl,hk3,he3,hz3⟩;refine RW.bk rfl rfl rfl (av.an H.cg rfl rfl hk3 (by first|rfl|(simp;done)|(simp;omega)) (by first|decide|exact of_decide_eq_true rfl|(simp;done)|(simp;omega)) (b7.one hnd2)) ?_;rintro _ h4 ⟨rfl,hk4,hx4,hz4⟩;have hz2:=hx2.size;have hkr:br h1 h.size 143 (dV 0 0 (.slice none 0 0)):=hkr;have hk4:br h4 h2.size 143 (dV x0.kind x0.set w0):=hk4;have e2:Ext (only rb) h h2:=(aD.of he1).trans hx2;have hkr2:=hkr.ext hx2 (by show ¬_=_;omega);have e24:aD h2 h4:=aD.only he3 hx4 (Nat.le_refl _);have hnd4:b7 h4 (fun b=>b<h.size+1\/b=h2.size) (dV x0.kind x0.set w0) x0:=hnd2.mv (Mv.eG e24 fun b hb hn=>⟨fun k=>k,fun k=>by have:¬b<h1.size:=hn;omega⟩);have hm0:=wJ (fun h=>ke d h) hp0;have hpc:fW (er d) l=some (eU x0 m0):=by unfold fW;rw[hp0];rfl
 generalize htg:eU x0 m0=tgt at hpc;generalize hnb:h2.size=nb at hk4 hnd4 hs2;have hnb1:h.size+1<=nb:=by omega
 refine xd [0,2,3] rfl ?_;refine aq rfl ?_;refine G.block rfl rfl ?_;refine bQ (σ:=Nd×Value×By) (fun q=>[(0,yx rb),(2,.pointer (some ⟨h.size,0,none⟩)),(3,.pointer (some ⟨nb,0,none⟩))]) (fun q h'=>St h' rb q.2.2/\br h' nb 143 (dV q.1.kind q.1.set q.2.1)/\br h' h.size 143 (dV 0 0 (.slice none 0 0))/\Ext (only rb) h h'/\b7 h' (fun b=>b<h.size+1\/b=nb) (dV q.1.kind q.1.set q.2.1) q.1/\q.2.2.length<=1000000/\eU q.1 q.2.2=tgt) (fun q=>q.2.2.length) ((x0,w0,m0)) rfl ⟨rfl,rfl,rfl,trivial⟩ ⟨br.ax hs2 e24,hk4,hkr2.ax e24,jx.ax e2 e24,hnd4,by show m0.length<=_;omega,htg⟩ ?_;rintro⟨x,w,m⟩ h5 ⟨hs5,hk5,hkr5,e5,hnd5,hm,hsg⟩ ih
 try dsimp only
 dsimp only at hs5 hk5 hnd5 hm hsg;have hg5:Sg h5 lim:=hg.ext e5 (fun b (hb:b=rb)=>by omega);obtain⟨mp,hm1,hm2,hcell,lm,hmap,hval⟩:=hg5;refine aq rfl ?_;refine aq rfl ?_;refine G.uv func151 H.mixed rfl (by kernel_rfl) ?_;refine RQ.aV rfl rfl rfl rfl (af H.HN rfl hcell) ?_;refine RQ.aV rfl rfl rfl rfl (bT rfl) ?_;refine RQ.J8 (vs:=[_]) rfl rfl rfl rfl rfl func155 rfl H.Hq rfl (s7 hs5) ?_;refine RQ.aV rfl rfl rfl rfl (xg rfl rfl hmap hval) ?_;refine RQ.aV rfl rfl rfl rfl (CJ rfl rfl) ?_;refine iW rfl ?_;refine xu [0,2,3,10] rfl ?_;refine aG rfl rfl (fun hgo=>?_) (fun hgo=>?_)
 · have hgo:0<dF (m.head?.getD 0):=by omega
   obtain⟨c,r,rfl⟩:=List.exists_cons_of_ne_nil (fun(e:m=[])=>by rw[e] at hgo;revert hgo;decide);have hgo:0<dF c:=hgo;rw[yT hgo] at hsg;simp only[List.length_cons] at hm;have hlt5:=hk5.lt;have hltr:=hkr5.lt
   have hn1:¬((⟨4,0,none⟩:Addr).block=rb\/Array.size h5<=(⟨4,0,none⟩:Addr).block):=by
    show ¬(4=rb\/Array.size h5<=4);omega
   have hn2:¬(nb=rb\/Array.size h5<=nb):=by omega
   have hn3:¬(mp=rb\/Array.size h5<=mp):=by omega
   have hO5:¬(h5.size<h.size+1\/h5.size=nb):=by have:=hkr5.lt;omega
   refine aA rfl ?_;refine G.block rfl rfl ?_;refine bV (fun b=>b=rb\/Array.size h5<=b) (fun i=>Nat.blt i 7) (sz:=8) (listed:= #[false,false,false,false,false,false,false,false]) func151 H.mixed rfl rfl rfl ?_;refine bg 0 1 (by kernel_rfl) rfl (fun h' e=>af H.HN rfl (e.cell hn1 hcell)) ?_;refine bE 1 3 (by kernel_rfl) rfl ?_;refine bg 4 19 (by kernel_rfl) rfl (fun h' e=>ak.au H.eR H.cg rfl (e.rowAt hn2 hk5.row) (by first|rfl|(simp;done)|(simp;omega))) ?_;refine RD.uY 2 5 (li:= #[true,true,true,false,true,false,false,false]) (lj:= #[true,true,false,false,true,true,false,false]) rfl rfl (by kernel_rfl) rfl rfl rfl rfl rfl rfl (aj (vs:=[_]) func156 rfl H.sZ rfl (ah.jv (fR hs5 (by simp only[List.length_cons];omega)) ((fun _ _ ⟨_,hp,_⟩=>by cases hp)))) (av.gD (cs:=[_,_,_,_,_,_]) underlying141 H.ur rfl rfl (by decide)) (by kernel_rfl) (by kernel_rfl) ?_ ?_
   · rintro _ h6 ⟨_,_,hp6,rfl,hs6,hx6⟩;refine⟨fun _=>hx6.mono (fun _ _ k=>.inl k),?_⟩;cases hp6;have hmap6:=hmap.ext hx6 (by show ¬_=_;omega);have hz6:=hx6.size;have hk6:=hk5.ext hx6 (by show ¬_=_;omega);have hnd6:b7 h6 (fun b=>b<h.size+1\/b=nb) (dV x.kind x.set w) x:=hnd5.mv (Mv.eG hx6 fun b hb hn=>⟨fun(k:b=rb)=>hn (.inl (by omega)),hn⟩);refine bg 3 31 (by kernel_rfl) rfl (fun h' e=>xg rfl rfl (hmap6.ext e hn3) hval) ?_;refine dJ 5 63 (by kernel_rfl) rfl (av.gD (cs:=[_,_,_,_,_,_]) underlying141 H.ur rfl rfl (by decide)) ?_;rintro _ _ ⟨rfl,rfl⟩;refine⟨fun _=>by first|exact Ext.push _ _ _|assumption,?_⟩;refine bg 6 127 (by kernel_rfl) rfl (fun h' e=>aS (H.qG _ _ _ _) rfl) ?_;have hsl:=ck.rf (e:=rF) (t:=143) hnd6 (show ¬(h6.size<h.size+1\/h6.size=nb) by omega);have ep:=Ext.push (fun _=>False) h6 (.cells (dV x.kind x.set w).toArray 143);have hk7:=hk6.ax ep;have hs7:St _ rb r:=br.ax hs6 ep;have hkr7:=(hkr5.ext hx6 (by show ¬_=_;omega)).ax ep;have e7:=jx.ax (e5.trans hx6) ep;refine ie 7 255 (by kernel_rfl) rfl (av.an H.cg rfl rfl hk7 (by first|rfl|(simp;done)|(simp;omega)) (by first|decide|exact of_decide_eq_true rfl|(simp;done)|(simp;omega)) (b7.one (b7.of (dF c) 0 hsl))) ?_;rintro _ h8 ⟨rfl,hk8,hx8,hz8⟩;refine⟨fun hk=>(nomatch hk),?_⟩;refine aQ (by kernel_rfl) ?_;refine xu [0,2,3,10] rfl ?_;refine G.aT ?_;have hk8:br h8 nb 143 (dV (dF c) 0 (.slice (some ⟨h6.size,0,none⟩) 1 1)):=hk8;exact ih (.mk (dF c) 0 [x],.slice (some ⟨h6.size,0,none⟩) 1 1,r) _ _ ⟨rfl,rfl,rfl,trivial⟩ ⟨br.ext hs7 hx8 (by show ¬_=_;omega),hk8,hkr7.ext hx8 (by show ¬_=_;omega),jx.only e7 hx8 (by omega),(b7.of (dF c) 0 hsl).mv (Mv.eG hx8 fun b hb hn=>⟨fun(k:b=nb)=>hn (.inr k),hn⟩),by show r.length<=_;omega,hsg⟩ (by show r.length<(c::r).length;simp)
   · rintro _ _ ⟨rfl,rfl⟩;refine⟨fun _=>by first|exact Ext.push _ _ _|assumption,?_⟩;have hsl:=ck.rf (e:=rF) (t:=143) hnd5 hO5;have ep:=Ext.push (fun _=>False) h5 (.cells (dV x.kind x.set w).toArray 143);refine dJ 2 55 (by kernel_rfl) rfl (aj (vs:=[_]) func156 rfl H.sZ rfl (ah.jv (fR (br.ax hs5 ep) (by simp only[List.length_cons];omega)) ((fun _ _ ⟨_,hp,_⟩=>by cases hp)))) ?_;rintro _ h6 ⟨_,_,hp6,rfl,hs6,hx6⟩;refine⟨fun _=>hx6.mono (fun _ _ k=>.inl k),?_⟩;cases hp6;have hmap6:=(hmap.ext ep (fun k=>k)).ext hx6 (by show ¬_=_;omega);have hz6:=hx6.size;have hzp:(h5.push (.cells (dV x.kind x.set w).toArray 143)).size=h5.size+1:=by simp
     have hk6:=(hk5.ax ep).ext hx6 (by show ¬_=_;omega);have hkr6:=(hkr5.ax ep).ext hx6 (by show ¬_=_;omega);have hn4:¬(mp=rb\/Array.size h5<=mp):=hn3;refine bg 3 63 (by kernel_rfl) rfl (fun h' e=>xg rfl rfl (hmap6.ext e hn4) hval) ?_;refine bg 6 127 (by kernel_rfl) rfl (fun h' e=>aS (H.qG _ _ _ _) rfl) ?_;have hsl6:ck rF h6 (fun b=>b<h.size+1\/b=nb) (.slice (some ⟨h5.size,0,none⟩) 1 1) [x]:=hsl.mv (Mv.eG hx6 fun b hb hn=>⟨fun(k:b=rb)=>hn (.inl (by omega)),hn⟩);refine ie 7 255 (by kernel_rfl) rfl (av.an H.cg rfl rfl hk6 (by first|rfl|(simp;done)|(simp;omega)) (by first|decide|exact of_decide_eq_true rfl|(simp;done)|(simp;omega)) (b7.one (b7.of (dF c) 0 hsl6))) ?_;rintro _ h8 ⟨rfl,hk8,hx8,hz8⟩;refine⟨fun hk=>(nomatch hk),?_⟩;refine aQ (by kernel_rfl) ?_;refine xu [0,2,3,10] rfl ?_;refine G.aT ?_;have hk8:br h8 nb 143 (dV (dF c) 0 (.slice (some ⟨h5.size,0,none⟩) 1 1)):=hk8;exact ih (.mk (dF c) 0 [x],.slice (some ⟨h5.size,0,none⟩) 1 1,r) _ _ ⟨rfl,rfl,rfl,trivial⟩ ⟨br.ext hs6 hx8 (by show ¬_=_;omega),hk8,hkr6.ext hx8 (by show ¬_=_;omega),jx.only ((jx.ax e5 ep).trans hx6) hx8 (by omega),(b7.of (dF c) 0 hsl6).mv (Mv.eG hx8 fun b hb hn=>⟨fun(k:b=nb)=>hn (.inr k),hn⟩),by show r.length<=_;omega,hsg⟩ (by show r.length<(c::r).length;simp)
 · rw[yS (by omega)] at hsg;refine bG rfl rfl ?_;refine xr func151 rfl ?_;refine xp rfl (ak.au H.eR H.cg rfl hk5.row (by first|rfl|(simp;done)|(simp;omega))) ?_;refine RW.bk rfl rfl rfl (av.an H.cg rfl rfl hkr5 (by first|rfl|(simp;done)|(simp;omega)) (by first|decide|exact of_decide_eq_true rfl|(simp;done)|(simp;omega)) (b7.one hnd5)) ?_;rintro _ h6 ⟨rfl,hk6,hx6,hz6⟩;refine xd [0,2,3,10] rfl ?_;have hk6:br h6 h.size 143 (dV x.kind x.set w):=hk6;refine G.bq func151 rfl (.cons (aM.bp H.eR H.cg rfl (hk6.row) (by first|rfl|(simp;done)|(simp;omega))) (.nil)) ?_;exact⟨x,m,by rw[hpc,<-hsg],⟨w,rfl,hnd5.mv (Mv.eG hx6 fun b hb hn=>⟨fun(k:b=h.size)=>hn (.inl (by omega)),fun(k:b<h.size)=>hn (.inl (by omega))⟩)⟩,br.ext hs5 hx6 (by show ¬_=_;omega),jx.only e5 hx6 (Nat.le_refl _)⟩
theorem vP (ih:uO d lim) (hg:Sg h lim) (hrb:lim<=rb) (hs:St h rb l) (hd:l.length<=d) (hl:l.length<=1000000):ah Tryz.prog 145 #[yx rb] h (PR rb h (xk (er d) l) (BR h.size)):=by
 have hlt:=hs.lt;have hrl:∀{s x r},er d s=some (x,r)->r.length<=s.length:=fun h=>ke d h
 refine ah.of func145 rfl rfl ?_;refine xr func145 rfl ?_;refine xo rfl (av.aW H.jU) ?_;rintro _ h1 ⟨rfl,hkr,he1,hz1⟩;refine xd [0,2] rfl ?_;refine aY func145 1 [0,2,3] rfl ?_;refine aq rfl ?_;refine G.block rfl rfl ?_;have hkr:br h1 h.size 143 (dV 0 0 (.slice none 0 0)):=hkr;generalize htg:mc (er d) (l.length+1) l=tgt;have hrow:xk (er d) l=tgt.map fun p=>(cD 2 p.1,p.2):=by unfold xk;rw[htg]
 have htg0:tgt.map (fun p=>(([]:List Nd)++p.1,p.2))=tgt:=by cases tgt<;>rfl
 refine bQ (σ:=List Nd×Value×By) (fun q=>[(0,yx rb),(2,.pointer (some ⟨h.size,0,none⟩)),(3,q.2.1)]) (fun q h'=>St h' rb q.2.2/\gO rF (Cx h1.size) h' h1.size 143 q.2.1 q.1/\br h' h.size 143 (dV 0 0 (.slice none 0 0))/\Ext (only rb) h h'/\q.2.2.length+q.1.length<=l.length/\(mc (er d) (q.2.2.length+1) q.2.2).map (fun p=>(q.1++p.1,p.2))=tgt) (fun q=>q.2.2.length) (([],.slice none 0 0,l)) rfl ⟨rfl,rfl,rfl,trivial⟩ ⟨br.ax hs he1,gO.nil _ _ _ _ _,hkr,aD.of he1,by show l.length+0<=_;omega,by rw[htg];exact htg0⟩ ?_;rintro⟨acc,v,m⟩ h5 ⟨hs5,hv5,hkr5,e5,hm,hcon⟩ ih'
 try dsimp only
 dsimp only at hs5 hv5 hm hcon;refine aq rfl ?_;refine aq rfl ?_;refine G.bu [(24,.bool (!jL m))] [(0,_),(2,_),(3,_)] ⟨rfl,rfl,rfl,trivial⟩ func145 rfl ?_ ?_
 · refine cy 2 rfl rfl (aa (off:=0) underlying182 rfl rfl H.b9 rfl) ?_;refine xp rfl (af H.cQ rfl hs5.cell) ?_;refine xp rfl (ak.s8 rfl rfl) ?_;refine aU 1 rfl ?_;refine aH (d:=9) rfl (fun he=>?_) (fun he=>?_)
   · have hne:¬bs m=⟨#[]⟩:=of_decide_eq_true he;obtain⟨c,r,rfl⟩:=List.exists_cons_of_ne_nil (fun(e:m=[])=>hne (by rw[e];rfl));refine cy 2 rfl rfl (aa (off:=0) underlying182 rfl rfl H.b9 rfl) ?_;refine xp rfl (af H.cQ rfl hs5.cell) ?_;refine xp rfl (ak.iD underlying9 rfl rfl 0 rfl (rP rfl)) ?_;refine aU 3 rfl ?_;refine aH (d:=17) rfl (fun h124=>?_) (fun h124=>?_)
     · have h124:¬c=124:=fun e=>(of_decide_eq_true h124) ((de rfl).2 e)
       refine cy 2 rfl rfl (aa (off:=0) underlying182 rfl rfl H.b9 rfl) ?_;refine xp rfl (af H.cQ rfl hs5.cell) ?_;refine xp rfl (ak.iD underlying9 rfl rfl 0 rfl (rP rfl)) ?_;refine aU 2 rfl ?_;refine aB rfl ?_;exact⟨rfl,az rfl (by simp only[jL];rw[show (c ==124)=false by simpa using h124,Bool.false_or,show (c ==41)=decide (c=41) by rw[Bool.eq_iff_iff];simp,<-decide_not];exact decide_eq_decide.2 (not_congr (de rfl))),rfl,rfl,rfl,trivial⟩
     · have h124:c=124:=(de rfl).1 (Classical.not_not.1 (of_decide_eq_false h124));refine aU 7 rfl ?_;refine aB rfl ?_;exact⟨rfl,az rfl (by simp[jL,h124]),rfl,rfl,rfl,trivial⟩
   · have hne:bs m=⟨#[]⟩:=Classical.not_not.1 (of_decide_eq_false he);obtain rfl:m=[]:=gE hne;refine aU 15 rfl ?_;refine aB rfl ?_;exact⟨rfl,az rfl (by rfl),rfl,rfl,rfl,trivial⟩
 · obtain⟨css,hc1,hc2,hc3⟩:=id hv5;have hlt5:=hkr5.lt;have hz5:=e5.size;refine aO rfl rfl (fun hgo=>?_) (fun hgo=>?_)
   · have hend:jL m=false:=by simpa using hgo
     have hcon':tgt=(match fW (er d) m with|none=>none|some (x,r)=>((mc (er d) (r.length+1) r).map fun p=>(x::p.1,p.2)).map (fun p=>(acc++p.1,p.2))):=by
      rw[<-hcon,mc,if_neg (by rw[hend];decide)];cases hp:fW (er d) m with
      |none=>rfl
      |some q =>
       obtain⟨x,r⟩:=q;have:=fV hrl hp;simp only;rw[vQ hrl m.length (r.length+1) r (by omega) (by omega)]
     refine aA rfl ?_;refine G.block rfl rfl ?_;refine G.bU func145 rfl ?_;refine aU 2 rfl ?_;refine xo rfl (aj (vs:=[_]) func151 rfl H.Jq rfl (ah.jv (zh ih (hg.ext e5 (fun b (hb:b=rb)=>by omega)) hrb hs5 (by omega) (by omega)) ((fun _ _ ⟨hc,hp,hx⟩=>dY hc (by rw[hrow,hcon',hp];rfl) (e5.trans hx))))) ?_;rintro _ h6 ⟨x,r,hp,⟨w,rfl,hnd6⟩,hs6,hx6⟩;have hr6:=fV hrl hp;have hz6:=hx6.size;have hown:∀b,v.ownBlock=some b->h1.size<=b/\b<h5.size:=fun b hb=>hc2.lt hb
     have hc26:=hc2.ext hx6 (fun b hb (k:b=rb)=>by have:=hown b hb;omega);have hc36:∀(i:Nat) (cs:List Value) (x:Nd),css[i]? =some cs->acc[i]? =some x->rF.R h6 (fun b=>dw v.ownBlock b\/b<h1.size) cs x:=fun i cs x h1' h2'=>rF.mv (hc3 i cs x h1' h2') (Mv.eG hx6 fun b hb hn=>⟨fun(k:b=rb)=>hn (.inr (by show b<_;omega)),hn⟩)
     have hnd6':rF.R h6 (fun b=>dw v.ownBlock b\/b<h1.size) (dV x.kind x.set w) x:=b7.mv hnd6 ⟨Nat.le_refl _,fun b hb hn=>⟨rfl,fun k=>by
      have hn:¬b<h5.size:=hn
      rcases k with k|k
      · have:=hown b k.symm;omega
      · omega⟩⟩
     refine xo rfl (av.gD (cs:=[_,_,_,_,_,_]) underlying141 H.ur rfl rfl (by decide)) ?_;rintro _ _ ⟨rfl,rfl⟩;refine xo rfl (av.cH underlying141 H.ur rfl rfl (hc26) rfl rfl (b7.one hnd6) (by omega) (by decide) (by omega)) ?_;rintro v7 h7 ⟨ho7,hx7,-,hv7⟩;refine aR 1 [0,2,3,24] rfl ?_;refine G.aT ?_;have hrb7:¬dw v.ownBlock rb:=fun k=>by have:=hown rb k.symm;omega
     have hr7:¬dw v.ownBlock h.size:=fun k=>by have:=hown _ k.symm;omega
     have e7:Ext (only rb) h h7:=⟨by have:=hx7.size;omega,fun b hb hn=>by rw[hx7.block b (by omega) (fun k=>by have:=hown b k.symm;omega)];exact(e5.trans hx6).block b hb hn⟩
     rw[hp] at hcon';exact ih' (acc++[x],v7,r) _ _ ⟨rfl,rfl,rfl,trivial⟩ ⟨br.ext hs6 hx7 hrb7,gO.oh hc1 hc36 ho7 hx7 hv7 hnd6',(hkr5.ext hx6 (by show ¬_=_;omega)).ext hx7 hr7,e7,by show r.length+(acc++[x]).length<=_;rw[List.length_append,List.length_singleton];omega,by rw[hcon'];simp only[Option.map_map];congr 1;funext p;simp⟩ (by show r.length<m.length;omega)
   · have hend:jL m=true:=by simpa using hgo
     rw[mc,if_pos hend] at hcon;have hsl:ck rF h5 (Cx h1.size) v acc:=hv5.read (fun b hb (k:b<h1.size)=>by omega) (fun b _ k=>k);refine bG rfl rfl ?_;refine bA func145 1 rfl ?_;refine xo rfl (aj (vs:=[_,_]) func147 rfl H.Hr rfl (ah.aX (pW 2 hsl))) ?_;rintro _ h6 ⟨⟨w,rfl,hnd6⟩,he6⟩;refine RW.bk rfl rfl rfl (av.an H.cg rfl rfl (hkr5.ax he6) (by first|rfl|(simp;done)|(simp;omega)) (by first|decide|exact of_decide_eq_true rfl|(simp;done)|(simp;omega)) (b7.one hnd6)) ?_;rintro _ h7 ⟨rfl,hk7,hx7,hz7⟩;refine xd [0,2,3,24] rfl ?_;have hk7:br h7 h.size 143 (dV (cD 2 acc).kind (cD 2 acc).set w):=hk7;have hz6:=he6.size;refine G.bq func145 rfl (.cons (aM.bp H.eR H.cg rfl (hk7.row) (by first|rfl|(simp;done)|(simp;omega))) (.nil)) ?_;exact⟨cD 2 acc,m,by rw[hrow,<-hcon];simp,⟨w,rfl,gH hnd6 (by omega) hx7 (fun b _ (hb:b=h.size)=>by omega)⟩,br.ext (br.ax hs5 he6) hx7 (by show ¬_=_;omega),jx.only (jx.ax e5 he6) hx7 (Nat.le_refl _)⟩
theorem C6 (ih:uO d lim) (hg:Sg h lim) (hrb:lim<=rb) (hs:St h rb l) (hd:l.length<=d) (hl:l.length<=1000000):ah Tryz.prog 134 #[yx rb] h (PR rb h (er (d+1) l) (BR h.size)):=by
 have hlt:=hs.lt;have hrl:∀{s x r},er d s=some (x,r)->r.length<=s.length:=fun h=>ke d h
 have hrows:er (d+1) l=match xk (er d) l with|none=>none|some (x,r)=>rM (er d) [x] r:=sP hrl [] l
 refine ah.of func134 rfl rfl ?_;refine xr func134 rfl ?_;refine xo rfl (av.aW H.jU) ?_;rintro _ h1 ⟨rfl,hkr,he1,hz1⟩;refine xd [0,2] rfl ?_;refine bA func134 1 rfl ?_;refine xo rfl (aj (vs:=[_]) func145 rfl H.Hs rfl (ah.jv (vP ih (hg.ext he1 (fun _ k=>k.elim)) hrb (br.ax hs he1) hd hl) ((fun _ _ ⟨hc,hp,hx⟩=>dY hc (by rw[hrows,hp]) ((aD.of he1).trans hx))))) ?_;rintro _ h2 ⟨x0,m0,hp0,⟨w0,rfl,hnd2⟩,hs2,hx2⟩;have hkr:br h1 h.size 143 (dV 0 0 (.slice none 0 0)):=hkr;have hz2:=hx2.size;have hm0:=yW hrl hp0;have ep:=Ext.push (fun _=>False) h2 (.cells (dV x0.kind x0.set w0).toArray 143);have hv0:gO rF (Cx h1.size) (h2.push (.cells (dV x0.kind x0.set w0).toArray 143)) h1.size 143 (.slice (some ⟨h2.size,0,none⟩) 1 1) [x0]:=gO.rf (e:=rF) hnd2 hz2;have hs3:St _ rb m0:=br.ax hs2 ep;have hkr3:=(hkr.ext hx2 (by show ¬_=_;omega)).ax ep;have e3:=jx.ax ((aD.of he1).trans hx2) ep;rw[hp0] at hrows;simp only at hrows;generalize htg:rM (er d) [x0] m0=tgt at hrows;refine xo rfl (av.gD (cs:=[_,_,_,_,_,_]) underlying141 H.ur rfl rfl (by decide)) ?_;rintro _ _ ⟨rfl,rfl⟩;refine aR 1 [0,2,3] rfl ?_;refine aq rfl ?_;refine G.block rfl rfl ?_;refine bQ (σ:=List Nd×Value×By) (fun q=>[(0,yx rb),(2,.pointer (some ⟨h.size,0,none⟩)),(3,q.2.1)]) (fun q h'=>St h' rb q.2.2/\gO rF (Cx h1.size) h' h1.size 143 q.2.1 q.1/\br h' h.size 143 (dV 0 0 (.slice none 0 0))/\Ext (only rb) h h'/\(q.2.2.length<=l.length/\q.2.2.length+q.1.length<=l.length+1)/\rM (er d) q.1 q.2.2=tgt) (fun q=>q.2.2.length) (([x0],.slice (some ⟨h2.size,0,none⟩) 1 1,m0)) rfl ⟨rfl,rfl,rfl,trivial⟩ ⟨hs3,hv0,hkr3,e3,⟨by show m0.length<=_;omega,by show m0.length+1<=_;omega⟩,htg⟩ ?_;rintro⟨acc,v,m⟩ h5 ⟨hs5,hv5,hkr5,e5,⟨hml,hm⟩,hcon⟩ ih'
 try dsimp only
 dsimp only at hs5 hv5 hml hm hcon;refine aq rfl ?_;refine bA func134 1 rfl ?_;refine xo rfl (aj (vs:=[_,_]) func146 rfl H.Cg rfl (ah.aX (kO 124 hs5 (by omega)))) ?_;rintro _ h6 ⟨hor,hx6⟩;refine xd [0,2,3,8] rfl ?_;have hlt5:=hkr5.lt;have hz5:=e5.size;have hz6:=hx6.size;have hkr6:=hkr5.ext hx6 (by show ¬_=_;omega);have e6:=e5.trans hx6;have hv6:gO rF (Cx h1.size) h6 h1.size 143 v acc:=hv5.mv (hx6.mono fun b _ (k:b=rb)=>(by omega:b<h1.size)) (fun b hb (k:b<h1.size)=>by omega) (fun b _ k=>k);obtain⟨css,hc1,hc2,hc3⟩:=id hv6
 rcases hor with ⟨a1,rfl,hs6⟩|⟨a1,rfl,hs6⟩
 · obtain⟨c,t,rfl⟩:=List.exists_cons_of_ne_nil (fun(e:m=[])=>by rw[e] at a1;cases a1);have hs6:St h6 rb t:=hs6;simp only[List.length_cons] at hm hml
   have hcon':tgt=match xk (er d) t with|none=>none|some (x,r)=>rM (er d) (acc++[x]) r:=by
    have hG:=sP (rows:=er d) hrl acc t;rw[<-hcon];refine Eq.trans ?_ hG;unfold rM;rw[if_pos a1];rfl
   refine aO rfl rfl (fun _=>?_) (fun hc=>absurd hc (by decide));refine aA rfl ?_;refine G.block rfl rfl ?_;refine G.bU func134 rfl ?_;refine aU 2 rfl ?_;refine xo rfl (aj (vs:=[_]) func145 rfl H.Hs rfl (ah.jv (vP ih (hg.ext e6 (fun b (hb:b=rb)=>by omega)) hrb hs6 (by omega) (by omega)) ((fun _ _ ⟨hc,hp,hx⟩=>dY hc (by rw[hrows,hcon',hp]) (e6.trans hx))))) ?_;rintro _ h7 ⟨x,r,hp,⟨w,rfl,hnd7⟩,hs7,hx7⟩;have hr7:=yW hrl hp;have hz7:=hx7.size;have hown:∀b,v.ownBlock=some b->h1.size<=b/\b<h6.size:=fun b hb=>hc2.lt hb
   have hc27:=hc2.ext hx7 (fun b hb (k:b=rb)=>by have:=hown b hb;omega);have hc37:∀(i:Nat) (cs:List Value) (x:Nd),css[i]? =some cs->acc[i]? =some x->rF.R h7 (fun b=>dw v.ownBlock b\/b<h1.size) cs x:=fun i cs x h1' h2'=>rF.mv (hc3 i cs x h1' h2') (Mv.eG hx7 fun b hb hn=>⟨fun(k:b=rb)=>hn (.inr (by show b<_;omega)),hn⟩)
   have hnd7':rF.R h7 (fun b=>dw v.ownBlock b\/b<h1.size) (dV x.kind x.set w) x:=b7.mv hnd7 ⟨Nat.le_refl _,fun b hb hn=>⟨rfl,fun k=>by
    have hn:¬b<h6.size:=hn
    rcases k with k|k
    · have:=hown b k.symm;omega
    · omega⟩⟩
   refine xo rfl (av.gD (cs:=[_,_,_,_,_,_]) underlying141 H.ur rfl rfl (by decide)) ?_;rintro _ _ ⟨rfl,rfl⟩;refine xo rfl (av.cH underlying141 H.ur rfl rfl (hc27) rfl rfl (b7.one hnd7) (by omega) (by decide) (by omega)) ?_;rintro v8 h8 ⟨ho8,hx8,-,hv8⟩;refine aR 1 [0,2,3,8] rfl ?_;refine G.aT ?_;have hrb8:¬dw v.ownBlock rb:=fun k=>by have:=hown rb k.symm;omega
   have hr8:¬dw v.ownBlock h.size:=fun k=>by have:=hown _ k.symm;omega
   have e8:Ext (only rb) h h8:=⟨by have:=hx8.size;omega,fun b hb hn=>by rw[hx8.block b (by omega) (fun k=>by have:=hown b k.symm;omega)];exact(e6.trans hx7).block b hb hn⟩
   rw[hp] at hcon';exact ih' (acc++[x],v8,r) _ _ ⟨rfl,rfl,rfl,trivial⟩ ⟨br.ext hs7 hx8 hrb8,gO.oh hc1 hc37 ho8 hx8 hv8 hnd7',(hkr6.ext hx7 (by show ¬_=_;omega)).ext hx8 hr8,e8,⟨by show r.length<=_;omega,by show r.length+(acc++[x]).length<=_;rw[List.length_append,List.length_singleton];omega⟩,hcon'.symm⟩ (by show r.length<(c::t).length;simp only[List.length_cons];omega)
 · refine aO rfl rfl (fun hc=>absurd hc (by decide)) (fun _=>?_);have hsl:ck rF h6 (Cx h1.size) v acc:=hv6.read (fun b hb (k:b<h1.size)=>by omega) (fun b _ k=>k);have hfin:tgt=some (cD 3 acc,m):=by rw[<-hcon];unfold rM;rw[if_neg a1]
   refine bG rfl rfl ?_;refine bA func134 1 rfl ?_;refine xo rfl (aj (vs:=[_,_]) func147 rfl H.Hr rfl (ah.aX (pW 3 hsl))) ?_;rintro _ h7 ⟨⟨w,rfl,hnd7⟩,he7⟩;refine RW.bk rfl rfl rfl (av.an H.cg rfl rfl (hkr6.ax he7) (by first|rfl|(simp;done)|(simp;omega)) (by first|decide|exact of_decide_eq_true rfl|(simp;done)|(simp;omega)) (b7.one hnd7)) ?_;rintro _ h8 ⟨rfl,hk8,hx8,hz8⟩;refine xd [0,2,3,8] rfl ?_;have hk8:br h8 h.size 143 (dV (cD 3 acc).kind (cD 3 acc).set w):=hk8;have hz7:=he7.size;refine G.bq func134 rfl (.cons (aM.bp H.eR H.cg rfl (hk8.row) (by first|rfl|(simp;done)|(simp;omega))) (.nil)) ?_;exact⟨cD 3 acc,m,by rw[hrows,hfin],⟨w,rfl,gH hnd7 (by omega) hx8 (fun b _ (hb:b=h.size)=>by omega)⟩,br.ext (br.ax hs6 he7) hx8 (by show ¬_=_;omega),jx.only (jx.ax e6 he7) hx8 (Nat.le_refl _)⟩
theorem Ca (lim:Nat):∀d,uO d lim
 | 0=>fun _ _ l _ _ _ h _=>absurd h (Nat.not_lt_zero _)
 |d+1=>fun _ _ _ hg hrb hs hd hl=>C6 (Ca lim d) hg hrb hs (by omega) hl
end
end Go.Proofs.YtiigijehmmcfgaaGreatDoor
namespace Go.Proofs.YtiigijehmmcfgaaGreatDoor
open Go.Proofs.Tryz
open Go Go.Lw Go.RowKit
set_option maxRecDepth 20000
section
variable {h:ay}{nb eb:Nat}
abbrev vC:List Value:=dV 0 0 (.slice none 0 0)
theorem BH {cs:List Value}{v0:Value}(hcs:cs.length=6) (hk:br h nb 143 cs) (he:br h eb 113 [v0]) (hne:nb≠eb) (B w:World) (ha:At B h w) :
 CallsD Tryz.prog 133 #[.pointer (some ⟨nb,0,none⟩),.pointer (some ⟨eb,0,none⟩)] (.panicking [{ v:=sX,recovered:=false }]) w fun e u' w' =>
  (∃r,e= .returned r)/\u'= .panicking [{ v:=sX,recovered:=true }]/\∃h',At B h' w'/\br h' nb 143 vC/\br h' eb 113 [.int .i64 10]/\Ext (fun b=>b=nb\/b=eb) h h':=by
 refine mM (v:=sX) (vs:=[.pointer (some ⟨nb,0,none⟩),.pointer (some ⟨eb,0,none⟩)]) (u':=.panicking [{ v:=sX,recovered:=true }]) func133 rfl rfl rfl rfl rfl rfl rfl rfl rfl rfl (fun c₀ cs hu=>.inl (by simp[recoverD,hu])) (fun a hf=>?_);refine wp_seq (wp_region ?_);refine(show RW Tryz.prog Tryz.f133.ntmps _ 0 _ h (fun ρ' h'=>h'=h/\Sub [(5,.bool true),(2,sX),(0,.pointer (some ⟨nb,0,none⟩)),(1,.pointer (some ⟨eb,0,none⟩))] ρ') (fun _ _=>False) from ?_) B a w hf ha _ ?_ (fun _ _ _ _ _ _ k=>k.elim)
 · refine cy 1 rfl rfl (ak.zq underlying20 rfl (.inr ⟨_,_,rfl⟩)) ?_;exact aB rfl ⟨rfl,rfl,rfl,rfl,rfl,trivial⟩
 rintro ρ' h' a1 w1 hf1 ha1 ⟨rfl,hsub⟩;have hf1:=hf1.sub hsub;refine wp_cond_true (hf1.eval (x:=.tmp 5) rfl) ?_;refine wp_seq (wp_region ?_);refine(show RW Tryz.prog Tryz.f133.ntmps _ 0 _ h' (fun ρ' g=>g=h'/\Sub [(0,.pointer (some ⟨nb,0,none⟩)),(1,.pointer (some ⟨eb,0,none⟩))] ρ') (fun _ _=>False) from ?_) B a1 w1 hf1 ha1 _ ?_ (fun _ _ _ _ _ _ k=>k.elim)
 · refine cy 1 rfl rfl (ak.uX underlying179 rfl) ?_;exact aB rfl ⟨rfl,rfl,rfl,trivial⟩
 rintro ρ'' h'' a2 w2 hf2 ha2 ⟨rfl,hsub2⟩;have hf2:=hf2.sub hsub2;refine wp_region ?_;refine(show RW Tryz.prog Tryz.f133.ntmps _ 0 _ h'' (fun _ g=>br g nb 143 vC/\br g eb 113 [.int .i64 10]/\Ext (fun b=>b=nb\/b=eb) h'' g) (fun _ _=>False) from ?_) B a2 w2 hf2 ha2 _ ?_ (fun _ _ _ _ _ _ k=>k.elim)
 · refine xp rfl (aS (H.BN ) rfl) ?_;refine RW.bk rfl rfl rfl (av.an H.cg rfl rfl hk rfl (by rw[hcs];decide) (by first|decide|simp[Value.oneCell'])) ?_;rintro _ h3 ⟨rfl,hk3,hx3,hz3⟩
   have hk3:br h3 nb 143 vC:=by
    rw[EK (by rw[hcs];rfl)] at hk3;exact hk3
   refine RW.bk rfl rfl rfl (av.aE H.Eu rfl rfl (he.ext hx3 (fun e=>hne e.symm)) (by simp) rfl) ?_;rintro _ h4 ⟨rfl,hk4,hx4,hz4⟩;exact aB rfl ⟨hk3.ext hx4 (fun e=>hne e),hk4,(hx3.mono fun _ _ k=>.inl k).trans (hx4.mono fun _ _ k=>.inr k)⟩
 rintro _ h5 a5 w5 hf5 ha5 ⟨hq1,hq2,hq3⟩;exact⟨hf5.nd,_,iB hf5 ha5 .nil,⟨_,rfl⟩,rfl,h5,ha5,hq1,hq2,hq3⟩
theorem BI (B w:World) (ha:At B h w) :
 CallsD Tryz.prog 133 #[.pointer (some ⟨nb,0,none⟩),.pointer (some ⟨eb,0,none⟩)] .returning w fun e u' w'=>(∃r,e= .returned r)/\u'= .returning/\At B h w':=by
 refine mM (v:=.nilIface) (vs:=[.pointer (some ⟨nb,0,none⟩),.pointer (some ⟨eb,0,none⟩)]) (u':=.returning) func133 rfl rfl rfl rfl rfl rfl rfl rfl rfl rfl (fun c₀ cs hu=>.inr ⟨by simp[recoverD,hu],rfl,rfl⟩) (fun a hf=>?_);refine wp_seq (wp_region ?_);refine(show RW Tryz.prog Tryz.f133.ntmps _ 0 _ h (fun ρ' h'=>h'=h/\Sub [(5,.bool false)] ρ') (fun _ _=>False) from ?_) B a w hf ha _ ?_ (fun _ _ _ _ _ _ k=>k.elim)
 · refine cy 1 rfl rfl (ak.zq underlying20 rfl (.inl rfl)) ?_;exact aB rfl ⟨rfl,rfl,trivial⟩
 rintro ρ' h' a1 w1 hf1 ha1 ⟨rfl,hsub⟩;have hf1:=hf1.sub hsub;refine wp_cond_false (hf1.eval (x:=.tmp 5) rfl) (wp_skip ?_);exact⟨hf1.nd,_,iB hf1 ha1 .nil,⟨_,rfl⟩,rfl,ha1⟩
theorem tH {cs:List Value}{v0:Value}{ρ:Env}{R:Ending->ay->Prop}(h2:ρ.at 2=some (.pointer (some ⟨nb,0,none⟩))) (h3:ρ.at 3=some (.pointer (some ⟨eb,0,none⟩))) (hcs:cs.length=6) (hk:br h nb 143 cs) (he:br h eb 113 [v0]) (hne:nb≠eb)
 (hR:∀h',Ext (fun b=>b=nb\/b=eb) h h'->R (.returned (.tuple #[.agg vC.toArray,.int .i64 10])) h') :
 nD Tryz.prog f113 [{ target:=.fn (.func 133) #[.pointer (some ⟨nb,0,none⟩),.pointer (some ⟨eb,0,none⟩)],args:= #[] }] (.panicking [{ v:=sX,recovered:=false }]) ρ h R:=by
 intro B a w hf ha;refine leaves_cons (f:=133) (args:= #[.pointer (some ⟨nb,0,none⟩),.pointer (some ⟨eb,0,none⟩)]) (by simp) (nN func133 rfl (by decide +kernel)) ?_;refine(BH hcs hk he hne B w ha).mono ?_;rintro e u' w' ⟨⟨r,rfl⟩,rfl,h',ha',hk',he',hx'⟩;refine⟨_,iB hf.zero ha' (.cons (aM.bp H.eR H.cg h2 hk'.row rfl) (.cons (aM.cell H.FR h3 (he'.cell (i:=0) rfl)) .nil)),h',ha',hR h' hx'⟩
theorem Bm {x:Nd}{w0:Value}{e0:Int}{ρ:Env}{R:Ending->ay->Prop}(h2:ρ.at 2=some (.pointer (some ⟨nb,0,none⟩))) (h3:ρ.at 3=some (.pointer (some ⟨eb,0,none⟩))) (hk:br h nb 143 (dV x.kind x.set w0)) (he:br h eb 113 [.int .i64 e0])
 (hR:R (.returned (.tuple #[.agg (dV x.kind x.set w0).toArray,.int .i64 e0])) h) :
 nD Tryz.prog f113 [{ target:=.fn (.func 133) #[.pointer (some ⟨nb,0,none⟩),.pointer (some ⟨eb,0,none⟩)],args:= #[] }] .returning ρ h R:=by
 intro B a w hf ha;refine leaves_cons (f:=133) (args:= #[.pointer (some ⟨nb,0,none⟩),.pointer (some ⟨eb,0,none⟩)]) (by simp) (nN func133 rfl (by decide +kernel)) ?_;refine(BI B w ha).mono ?_;rintro e u' w' ⟨⟨r,rfl⟩,rfl,ha'⟩;refine⟨_,iB hf.zero ha' (.cons (aM.bp H.eR H.cg h2 hk.row rfl) (.cons (aM.cell H.FR h3 (he.cell (i:=0) rfl)) .nil)),h,ha',hR⟩
def IG (h h':ay) (s:By) (r:Value):Prop:=∃w,r= .tuple #[.agg (dV (bZ s).1.kind (bZ s).1.set w).toArray,.int .i64 (bZ s).2]/\b7 h' (Cx h.size) (dV (bZ s).1.kind (bZ s).1.set w) (bZ s).1
theorem zi {lim:Nat}(hg:Sg h lim) (hlim:lim<=h.size) (s:By) (hs:s.length<=1000000):ah Tryz.prog 113 #[.string (bs s)] h (bX fun r h'=>IG h h' s r/\aD h h'):=by
 have hsz:=bf s;refine ah.of func113 rfl rfl ?_;refine xr func113 rfl ?_;refine xo rfl (av.aW H.jU) ?_;rintro _ h1 ⟨rfl,hk1,he1,hz1⟩;refine xo rfl (av.aW H.IV) ?_;rintro _ h2 ⟨rfl,hk2,he2,hz2⟩;refine xd [0,2,3] rfl ?_;refine aq rfl ?_;refine bA func113 1 rfl ?_;refine xp rfl (ak.aZ underlying9 rfl) ?_;refine aR 1 [0,2,3,7] rfl ?_;have hk1:br h1 h.size 143 vC:=hk1;have hk2:br h2 h1.size 113 [.int .i64 0]:=hk2;have hk12:=hk1.ax he2;have e2:=he1.trans he2;refine aG rfl rfl (fun hbig=>?_) (fun hbig=>?_)
 · have hE:bZ s=(nA,3):=by unfold bZ;rw[if_pos (by omega)]
   refine xr func113 rfl ?_;refine xp rfl (aS (H.BN ) rfl) ?_;refine RW.bk rfl rfl rfl (av.an H.cg rfl rfl hk12 (by first|rfl|(simp;done)|(simp;omega)) (by first|decide|exact of_decide_eq_true rfl|(simp;done)|(simp;omega)) (by first|decide|simp[Value.oneCell'])) ?_;rintro _ h3 ⟨rfl,hk3,hx3,hz3⟩;refine RW.bk rfl rfl rfl (av.aE H.Eu rfl rfl (hk2.ext hx3 (by show ¬_=_;omega)) (by first|decide|exact of_decide_eq_true rfl|(simp;done)|(simp;omega)) rfl) ?_;rintro _ h4 ⟨rfl,hk4,hx4,hz4⟩;refine xd [0,2,3,7] rfl ?_;have hk3:br h3 h.size 143 vC:=hk3;have hk4:br h4 h1.size 113 [.int .i64 3]:=hk4;refine G.bq func113 rfl (.cons (aM.bp H.eR H.cg rfl ((hk3.ext hx4 (by show ¬_=_;omega)).row) (by first|rfl|(simp;done)|(simp;omega))) (.cons (aM.cell H.FR rfl (hk4.cell (i:=0) rfl)) (.nil))) ?_;refine⟨_,rfl,⟨.slice none 0 0,by rw[hE];rfl,by rw[hE];exact fA _ _ 0 0⟩,aD.only (aD.only e2 hx3 (Nat.le_refl _)) hx4 (by omega)⟩
 · refine aA rfl ?_;refine aq rfl ?_;refine G.Ix (caps:=[.pointer (some ⟨h.size,0,none⟩),.pointer (some ⟨h1.size,0,none⟩)]) func113 rfl rfl rfl rfl rfl rfl rfl rfl rfl rfl rfl ?_;have hE:bZ s=match jN s with|some x=>(x,0)|none=>(nA,10):=by unfold bZ;rw[if_neg (by omega)];rfl
   refine oW rfl ?_;refine GD.bU func113 rfl ?_;refine ju.aV rfl rfl rfl rfl (bT rfl) ?_;refine ju.aV rfl rfl rfl rfl (aS (H.GL _) rfl) ?_;refine ju.Ea rfl rfl rfl rfl (av.cS rfl) ?_;rintro _ h3 ⟨rfl,hk3,he3,hz3⟩;refine ju.aV rfl rfl rfl rfl (ak.assign rfl) ?_;refine kI rfl ?_;refine GD.sub (ρ':=[(0,_),(2,_),(3,_),(4,_),(7,_)]) ⟨rfl,rfl,rfl,rfl,rfl,trivial⟩ ?_;refine oW rfl ?_;refine GD.bU func113 rfl ?_;refine ju.aV rfl rfl rfl rfl (bT rfl) ?_;have hk3:br h3 h2.size 182 [.string (bs s)]:=hk3;have hg3:Sg h3 lim:=hg.ext (e2.trans he3) (fun _ k=>k.elim);have hrows:=Ca lim (s.length+1) h3 h2.size s hg3 (by omega) hk3 (Nat.lt_succ_self _) hs;have hk13:=hk12.ax he3;have hk23:=hk2.ax he3;have e3:=e2.trans he3;refine ju.Ea rfl rfl rfl rfl (aj (vs:=[_]) func134 rfl H.Hw rfl (ah.jv (hrows) ((fun _ h' ⟨hc,hp,hx⟩=>by rw[hc];exact tH rfl rfl rfl (hk13.ext hx (by show ¬_=_;omega)) (hk23.ext hx (by show ¬_=_;omega)) (by omega) (fun h'' hx2=>⟨_,rfl,⟨.slice none 0 0,by rw[hE];unfold jN;rw[hp];rfl,by rw[hE];unfold jN;rw[hp];exact fA _ _ 0 0⟩,⟨by have:=hx.size;have:=hx2.size;have:=e3.size;omega,fun b hb _=>by rw[hx2.block b (by have:=hx.size;omega) (by omega),hx.block b (by omega) (by show ¬_=_;omega)];exact e3.block b hb (fun k=>k)⟩⟩))))) ?_;rintro _ h4 ⟨x,r,hp,⟨w,rfl,hnd⟩,hs4,hx4⟩;have hz4:=hx4.size;have hk14:=hk13.ext hx4 (by show ¬_=_;omega);have hk24:=hk23.ext hx4 (by show ¬_=_;omega);have e4:aD h h4:=aD.only e3 hx4 (by omega);refine ju.bk rfl rfl rfl (av.an H.cg rfl rfl hk14 (by first|rfl|(simp;done)|(simp;omega)) (by first|decide|exact of_decide_eq_true rfl|(simp;done)|(simp;omega)) (b7.one hnd)) ?_;rintro _ h5 ⟨rfl,hk5,hx5,hz5⟩;refine kI rfl ?_;refine GD.sub (ρ':=[(0,_),(2,_),(3,_),(4,_),(7,_)]) ⟨rfl,rfl,rfl,rfl,rfl,trivial⟩ ?_;refine oW rfl ?_;refine oW rfl ?_;refine GD.bU func113 rfl ?_;refine ju.aV rfl rfl rfl rfl (bT rfl) ?_;refine ju.aV rfl rfl rfl rfl (cB rfl) ?_;refine ju.aV rfl rfl rfl rfl (aa (off:=0) underlying182 rfl rfl H.b9 rfl) ?_;have hk5:br h5 h.size 143 (dV x.kind x.set w):=hk5;have hk25:=hk24.ext hx5 (by show ¬_=_;omega);have hs5:St h5 h2.size r:=br.ext hs4 hx5 (by show ¬_=_;omega);have hnd5:b7 h5 (Cx h3.size) (dV x.kind x.set w) x:=gH hnd (Nat.le_refl _) hx5 (fun b _ (hb:b=h.size)=>by omega);have e5:=aD.only e4 hx5 (Nat.le_refl _);refine ju.aV rfl rfl rfl rfl (af H.cQ rfl hs5.cell) ?_;refine ju.aV rfl rfl rfl rfl (ak.s8 rfl rfl) ?_;refine kI rfl ?_;refine GD.sub (ρ':=[(0,_),(2,_),(3,_),(4,_),(7,_),(19,_)]) ⟨rfl,rfl,rfl,rfl,rfl,rfl,trivial⟩ ?_;refine IK rfl rfl (fun hr=>?_) (fun hr=>?_)
   · have hr:r≠[]:=fun e=>hr (by rw[e];rfl)
     have hpn:jN s=none:=by
      unfold jN;rw[hp];cases r with
      |nil=>exact absurd rfl hr
      |cons c t=>rfl
     refine GD.bU func113 rfl ?_;refine ju.aV rfl rfl rfl rfl (aS (H.gZ ) rfl) ?_;refine ju.aV rfl rfl rfl rfl (bM H.kE rfl) ?_;refine ju.bk rfl rfl rfl (dA (Φ:=fun _ _=>False) rfl (tH rfl rfl rfl hk5 hk25 (by omega) (fun h'' hx2=>⟨_,rfl,⟨.slice none 0 0,by rw[hE,hpn];rfl,by rw[hE,hpn];exact fA _ _ 0 0⟩,⟨by have:=hx2.size;have:=e5.size;omega,fun b hb _=>by rw[hx2.block b (by have:=e5.size;omega) (by omega)];exact e5.block b hb (fun k=>k)⟩⟩))) ?_;rintro _ _ hpn;exact hpn.elim
   · obtain rfl:r=[]:=gE (Classical.not_not.1 hr);have hpn:jN s=some x:=by unfold jN;rw[hp]
     refine G2 rfl ?_;refine oW rfl ?_;refine GD.bU func113 rfl ?_;refine ju.aV rfl rfl rfl rfl (ak.au H.eR H.cg rfl hk5.row (by first|rfl|(simp;done)|(simp;omega))) ?_;refine ju.bk rfl rfl rfl (av.an H.cg rfl rfl hk5 (by first|rfl|(simp;done)|(simp;omega)) (by first|decide|exact of_decide_eq_true rfl|(simp;done)|(simp;omega)) (b7.one hnd5)) ?_;rintro _ h6 ⟨rfl,hk6,hx6,hz6⟩;refine ju.bk rfl rfl rfl (av.aE H.Eu rfl rfl (hk25.ext hx6 (by show ¬_=_;omega)) (by first|decide|exact of_decide_eq_true rfl|(simp;done)|(simp;omega)) rfl) ?_;rintro _ h7 ⟨rfl,hk7,hx7,hz7⟩;refine kI rfl ?_;refine GD.sub (ρ':=[(0,_),(2,_),(3,_),(4,_),(7,_),(19,_)]) ⟨rfl,rfl,rfl,rfl,rfl,rfl,trivial⟩ ?_;have hk6:br h6 h.size 143 (dV x.kind x.set w):=hk6;have hk7:br h7 h1.size 113 [.int .i64 0]:=hk7;have hk17:=hk6.ext hx7 (by show ¬_=_;omega);have e7:=aD.only (aD.only e5 hx6 (Nat.le_refl _)) hx7 (by omega);have hnd7:b7 h7 (Cx h.size) (dV x.kind x.set w) x:=gH (gH hnd5 (Nat.le_refl _) hx6 (fun b _ (hb:b=h.size)=>by omega)) (by omega) hx7 (fun b _ (hb:b=h1.size)=>by omega);refine IJ func113 rfl ?_;exact Bm rfl rfl hk17 hk7 ⟨_,rfl,⟨w,by rw[hE,hpn],by rw[hE,hpn];exact hnd7⟩,e7⟩
end
end Go.Proofs.YtiigijehmmcfgaaGreatDoor
namespace Go.Proofs.YtiigijehmmcfgaaGreatDoor
open Go.Proofs.Tryz
open Go Go.Lw
set_option maxRecDepth 20000
section
variable {h h':ay}{O:Nat->Prop}{v w:Value}{nb st n i:Nat}{ss:List bR}{x:bR}{rules:List By}{todo:List Nat}{seen:List Bool}
def cW (n:Nat):Value:=.int .i64 (n:Nat)
def gI:iN Nat:=.flat cW fun _=>rfl
def CX (k s:Nat) (v:Value) (r:Nat):List Value:=[.int .i64 (k:Nat),eO s 0,eO s 1,eO s 2,eO s 3,v,.int .i64 (r:Nat)]
def FX (h:ay) (O:Nat->Prop) (cs:List Value) (x:bR):Prop:=∃v,cs=CX x.kind x.set v x.rule/\ck gI h O v x.to
theorem ck.HE {α:Type}{e:iN α}{xs:List α}(k:ck e h O v xs):v.oneCell'=true:=by
 obtain⟨oa,n,c,rfl,_⟩:=k;rfl
def DN:iN bR:=⟨7,by decide,FX,fun h=>by obtain⟨v,rfl,_⟩:=h;rfl,fun h=>by
 obtain⟨v,rfl,hv⟩:=h;intro u hu;simp[CX,eO] at hu
 rcases hu with rfl|rfl|rfl|rfl|rfl|rfl|rfl<;>first|rfl|exact ck.HE hv,fun h m=>by
 obtain⟨v,hc,hv⟩:=h;exact⟨v,hc,hv.mv m⟩⟩
structure cu (h:ay) (O:Nat->Prop) (nb:Nat) (v:Value) (ss:List bR) (st:Nat):Prop where
 blk:br h nb 139 [v,.int .i64 (st:Nat)]
 row:gO DN (fun b=>b=nb\/O b) h (nb+1) 149 v ss
abbrev eK (nb:Nat) (v:Value):Nat->Prop:=fun b=>b=nb\/dw v.ownBlock b
theorem cu.own (k:cu h O nb v ss st):∀b,v.ownBlock=some b->nb<b/\b<h.size:=fun b hb=>by
 obtain⟨css,_,h2,_⟩:=k.row;have:=h2.lt hb;omega
theorem cu.ext {M:Nat->Prop}{O O':Nat->Prop}{h h':ay}{nb:Nat}{v:Value}{ss:List bR}{st:Nat}(k:cu h O nb v ss st) (e:Ext M h h') (hnb:¬M nb) (hown:∀b,v.ownBlock=some b->¬M b) (hM:∀b,b<h.size->M b->O b) (hO:∀b,b<h.size->O' b->O b):cu h' O' nb v ss st :=
 ⟨k.blk.ext e hnb,k.row.Eb e hown (fun b hb hm=>.inr (hM b hb hm)) (fun b hb k=>k.imp id (hO b hb))⟩
theorem cu.ax {O':Nat->Prop}(k:cu h O nb v ss st) (e:aD h h') (hO:∀b,b<h.size->O' b->O b):cu h' O' nb v ss st:=k.ext e (fun k=>k) (fun _ _ k=>k) (fun _ _ k=>k.elim) hO
theorem D5 (hn:cu h O nb v ss st) (_hO:∀b,O b->b<h.size) (hx:FX h (fun b=>eK nb v b\/O b) (CX x.kind x.set w x.rule) x) (hl:ss.length<=1000000) :
 ah Tryz.prog 115 #[.pointer (some ⟨nb,0,none⟩),.agg (CX x.kind x.set w x.rule).toArray] h (bX fun r h'=>∃v',r= .int .i64 (ss.length:Nat)/\cu h' O nb v' (ss++[x]) st/\Ext (eK nb v) h h'/\(∀b,v'.ownBlock=some b->v.ownBlock=some b\/h.size<=b)):=by
 have hw1:∀u∈CX x.kind x.set w x.rule,u.oneCell'=true:=DN.one hx;refine ah.of func115 rfl rfl ?_;refine xr func115 rfl ?_;refine xo rfl (av.cS rfl) ?_;rintro _ h1 ⟨rfl,hk1,he1,hz1⟩;have hk1:br h1 h.size 149 (CX x.kind x.set w x.rule):=hk1;have hn1:=hn.ax (O':=O) he1 (fun _ _ k=>k);obtain⟨css,hc1,hc2,hc3⟩:=id hn1.row;have hown:=hn1.own;have hnlt:=hn1.blk.lt;have hnz:=hn.blk.lt;have hnM:¬(dw v.ownBlock nb\/Array.size h1<=nb):=by rintro(k|k);(have:=hown nb k.symm;omega);omega
 have hkM:¬(dw v.ownBlock h.size\/Array.size h1<=h.size):=by rintro(k|k);(have:=hn.own _ k.symm;omega);omega
 refine aR 1 [0,1,3,4] rfl ?_;refine aq rfl ?_;refine bV (fun b=>dw v.ownBlock b\/Array.size h1<=b) (fun i=>Nat.blt i 10) (sz:=11) (listed:= #[false,false,false,false,false,false,false,false,false,false,false]) func115 H.mixed rfl rfl rfl ?_;refine bE 0 1 (by kernel_rfl) rfl ?_;refine bE 1 3 (by kernel_rfl) rfl ?_;refine bE 2 7 (by kernel_rfl) rfl ?_;refine bg 3 15 (by kernel_rfl) rfl (fun h' e=>aa (off:=0) underlying139 rfl rfl H.gx rfl) ?_;refine bg 4 31 (by kernel_rfl) rfl (fun h' e=>af H.iG rfl (e.cell hnM (hn1.blk.cell (i:=0) rfl))) ?_;refine bg 5 63 (by kernel_rfl) rfl (fun h' e=>ak.au H.Kf H.lK rfl (e.rowAt hkM hk1.row) (by first|rfl|(simp;done)|(simp;omega))) ?_;refine dJ 6 127 (by kernel_rfl) rfl (av.gD (cs:=[_,_,_,_,_,_,_]) underlying137 H.HG rfl rfl (by decide)) ?_;rintro _ _ ⟨rfl,rfl⟩;refine⟨fun _=>by first|exact Ext.push _ _ _|assumption,?_⟩;refine dJ 7 255 (by kernel_rfl) rfl (av.cH underlying137 H.HG rfl rfl (hc2) rfl rfl (hw1) (by omega) (by decide) (by omega)) ?_;rintro v2 h2 ⟨ho2,hx2,hx2',hv2⟩;refine⟨fun _=>hx2'.mono (fun _ _ k=>.inl k),?_⟩;obtain⟨oa2,c2,rfl,_⟩:=ho2.open;refine dJ 8 511 (by kernel_rfl) rfl (ak.aX (cB rfl)) ?_;rintro _ hq_ ⟨rfl,hqe_⟩;replace hqe_:=hqe_.symm;subst hqe_;refine⟨fun _=>Ext.refl _ _,?_⟩;refine bg 9 1023 (by kernel_rfl) rfl (fun h' e=>aa (off:=0) underlying139 rfl rfl H.gx rfl) ?_;refine ie 10 2047 (by kernel_rfl) rfl (av.aE H.gx rfl rfl (hn1.blk.ext hx2 (fun k=>by have:=hown nb k.symm;omega)) (by first|decide|exact of_decide_eq_true rfl|(simp;done)|(simp;omega)) rfl) ?_;rintro _ h3 ⟨rfl,hk3,hx3,hz3⟩;refine⟨fun hk=>(nomatch hk),?_⟩;refine aQ (by kernel_rfl) ?_;refine xu [0,1,3,4] rfl ?_;refine bA func115 2 rfl ?_;refine xp rfl (aa (off:=0) underlying139 rfl rfl H.gx rfl) ?_;have hxs:DN.R h1 (fun b=>dw v.ownBlock b\/b=nb\/O b) (CX x.kind x.set w x.rule) x:=DN.mv hx ⟨he1.size,fun b hb hn=>⟨he1.block b hb (fun k=>k),fun k=>hn (by rcases k with k|k|k;(exact .inl (.inr k));(exact .inl (.inl k));exact .inr k)⟩⟩;have hrow2:gO DN (fun b=>b=nb\/O b) h2 (nb+1) 149 (.slice oa2 (ss.length+1) c2) (ss++[x]):=gO.oh hc1 hc3 ho2 hx2 hv2 hxs;have hrow3:gO DN (fun b=>b=nb\/O b) h3 (nb+1) 149 (.slice oa2 (ss.length+1) c2) (ss++[x]):=hrow2.Eb hx3 (fun b hb (k:b=nb)=>by have:=hv2 b hb;rcases this with k'|k';(have:=hown b k';omega);omega) (fun b _ k=>.inl k) (fun b _ k=>k);have hk3:br h3 nb 139 [.slice oa2 (ss.length+1) c2,.int .i64 (st:Nat)]:=hk3;refine xp rfl (af H.iG rfl (hk3.cell (i:=0) rfl)) ?_;refine xp rfl (ak.aJ underlying137 rfl) ?_;refine xp rfl (ak.ey rfl rfl ⟨by omega,by omega⟩) ?_;refine aR 1 [0,1,3,4] rfl ?_;refine aK func115 rfl rfl ?_;refine⟨_,rfl,_,?_,⟨hk3,hrow3⟩,⟨by have:=he1.size;have:=hx2.size;omega,fun b hb hn=>by rw[hx3.block b (by have:=hx2.size;omega) (fun k=>hn (.inl k)),hx2.block b (by omega) (fun k=>hn (.inr k)),he1.block b hb (fun k=>k)]⟩,fun b hb=>?_⟩
 · show Value.int _ _=_
   congr 1;omega
 · rcases hv2 b hb with k|k
   · exact .inl k
   · exact .inr (by omega)
theorem se {l cap:Nat}{oa:Option Addr}{c:Nat}{J:Nat->ay->Prop}(hn:n<=1000000)
 (hread:∀j h,J j h->cellAt h ⟨cap,0,none⟩=some (.slice oa n c)) (hy:∀j h,J (j+1) h->j<n->∃(b o k s:Nat) (w:Value),oa=some ⟨b,o,none⟩/\Lw.rowAt h b (o+j*6) (dV k s w) /\
  lG Tryz.prog l #[.int .i64 (j:Nat),.agg (dV k s w).toArray] h (bX fun r h'=>r= .bool true/\J j h')) (h0:J n h) :
 ah Tryz.prog 148 #[.func (.yield l) #[] #[],.pointer (some ⟨cap,0,none⟩)] h (bX fun _ h'=>J 0 h'):=by
 refine ah.of func148 rfl rfl ?_;refine xr func148 rfl ?_;refine xp rfl (af H.uK rfl (hread _ _ h0)) ?_;refine xp rfl (ak.aJ underlying141 rfl) ?_;refine xp rfl (ak.ey rfl rfl ⟨by omega,by omega⟩) ?_;refine aR 1 [0,1,3] rfl ?_;refine G.block rfl rfl ?_;refine bQ (σ:=Nat) (fun j=>[(0,.func (.yield l) #[] #[]),(1,.pointer (some ⟨cap,0,none⟩)),(3,.int .i64 ((j:Int)-1))]) (fun j h'=>J j h'/\j<=n) (fun j=>j) (n) rfl ⟨rfl,rfl,rfl,trivial⟩ ⟨h0,Nat.le_refl _⟩ ?_;rintro j h1 ⟨hJ,hj⟩ ih;refine aq rfl ?_;refine aY func148 2 [0,1,3,8] rfl ?_;refine aG rfl rfl (fun hge=>?_) (fun hge=>?_)
 · obtain⟨i,rfl⟩:∃i,j=i+1:=⟨j-1,by omega⟩
   obtain⟨b,o,k,s,w,ha,hrow,hyy⟩:=hy i h1 hJ (by omega);have hji:((i+1:Nat):Int)-1=((i:Nat):Int):=by omega
   rw[hji];refine aA rfl ?_;refine aq rfl ?_;refine G.block rfl rfl ?_;refine aq rfl ?_;refine G.I5 func148 rfl ?_;refine gJ.aV rfl rfl rfl rfl rfl (bT rfl) ?_;refine gJ.aV rfl rfl rfl rfl rfl (bT rfl) ?_;refine gJ.aV rfl rfl rfl rfl rfl (af H.uK rfl (hread _ _ hJ)) ?_;refine gJ.aV rfl rfl rfl rfl rfl (bT rfl) ?_;refine gJ.aV rfl rfl rfl rfl rfl (ak.aF underlying141 H.cg rfl rfl i rfl ha (by omega)) ?_;refine gJ.aV rfl rfl rfl rfl rfl (ak.au H.eR H.cg rfl hrow (by first|rfl|(simp;done)|(simp;omega))) ?_;refine wN (vs:=[_,_]) rfl rfl rfl rfl rfl rfl rfl (hyy) ?_;rintro _ h2 ⟨rfl,hJ2⟩;refine gJ.aV rfl rfl rfl rfl rfl (ak.H6 rfl) ?_;refine kH rfl ?_;refine xu [0,1,3,8,18] rfl ?_;refine aO rfl rfl (fun hc=>absurd hc (by decide)) (fun _=>?_);refine aA rfl ?_;refine G.aT ?_;refine G.bU func148 rfl ?_;refine cy 1 rfl rfl (ak.ey rfl rfl ⟨by omega,by omega⟩) ?_;refine aR 1 [0,1,3,8,18] rfl ?_;exact ih i _ _ ⟨rfl,rfl,rfl,trivial⟩ ⟨hJ2,by omega⟩ (by omega)
 · obtain rfl:j=0:=by omega
   refine bG rfl rfl ?_;refine G.DK func148 rfl ?_;exact⟨_,rfl,hJ⟩
theorem uH (v:Value) (hv:v.oneCell'=true):ah Tryz.prog 135 #[v] h (bX fun r h'=>r= .func (.func 148) #[] #[.pointer (some ⟨h.size,0,none⟩)]/\h'=h.push (.cells #[v] 141)):=by
 have hcells:v.cells= #[v]:=by cases v<;>simp[Value.oneCell'] at hv<;>rfl
 refine ah.of func135 rfl rfl ?_;refine xr func135 rfl ?_;refine xo rfl (av.box rfl) ?_;rintro _ _ ⟨rfl,rfl⟩;refine aR 1 [0,1,2] rfl ?_;refine xr func135 rfl ?_;refine xp rfl (ak.makeFunc (vs:=[_]) rfl) ?_;refine aR 1 [0,1,2] rfl ?_;refine aK func135 rfl rfl ?_;exact⟨_,rfl,rfl,by rw[hcells]⟩
structure Nx (O:Nat->Prop) (nb:Nat) (h:ay) (v:Value) (h':ay) (v':Value):Prop where
 ext:Ext (fun b=>eK nb v b\/O b) h h'
 own:∀b,v'.ownBlock=some b->v.ownBlock=some b\/h.size<=b
theorem Nx.refl {O:Nat->Prop}{nb:Nat}{h:ay}{v:Value}:Nx O nb h v h v:=⟨Ext.refl _ _,fun _ k=>.inl k⟩
theorem Nx.IP (e:aD h h'):Nx O nb h v h' v:=⟨e.mono fun _ _ k=>k.elim,fun _ k=>.inl k⟩
theorem Nx.mono {O O':Nat->Prop}{nb:Nat}{h h':ay}{v v':Value}(k:Nx O nb h v h' v') (hO:∀b,b<h.size->O b->O' b):Nx O' nb h v h' v':=⟨k.ext.mono fun b hb k=>k.imp id (hO b hb),k.own⟩
theorem Nx.trans {O':Nat->Prop}{h1 h2:ay}{v1 v2:Value}(k:Nx O nb h v h1 v1) (k':Nx O' nb h1 v1 h2 v2) (hO:∀b,b<h.size->O' b->O b):Nx O nb h v h2 v2:=by
 refine⟨⟨Nat.le_trans k.ext.size k'.ext.size,fun b hb hn=>?_⟩,fun b hb=>?_⟩
 · rw[k'.ext.block b (Nat.lt_of_lt_of_le hb k.ext.size) ?_,k.ext.block b hb hn];rintro((k1|k1)|k1)
   · exact hn (.inl (.inl k1))
   · rcases k.own b k1.symm with k2|k2
     · exact hn (.inl (.inr k2.symm))
     · omega
   · exact hn (.inr (hO b hb k1))
 · have:=k.ext.size
   rcases k'.own b hb with k2|k2
   · exact k.own b k2
   · exact .inr (by omega)
theorem Nx.mv {v':Value}(k:Nx O nb h v h' v'):Mv (fun b=>eK nb v b\/O b) (fun b=>eK nb v' b\/O b) h h' :=
 ⟨k.ext.size,fun b hb hn=>⟨k.ext.block b hb hn,by
  rintro((k1|k1)|k1)
  · exact hn (.inl (.inl k1))
  · rcases k.own b k1.symm with k2|k2
    · exact hn (.inl (.inr k2.symm))
    · omega
  · exact hn (.inr k1)⟩⟩
theorem Nx.IQ {v':Value}(k:Nx (fun _=>False) nb h v h' v'):Mv (eK nb v) (eK nb v') h h' :=
 ⟨k.ext.size,fun b hb hn=>⟨k.ext.block b hb (fun k=>k.elim hn id),fun k1=>by
  rcases k1 with k1|k1
  · exact hn (.inl k1)
  · rcases k.own b k1.symm with k2|k2
    · exact hn (.inr k2.symm)
    · omega⟩⟩
def G1 (O:Nat->Prop) (nb:Nat) (h:ay) (v:Value) (st:Nat) (out:List bR×Nat) (r:Value) (h':ay):Prop:=∃v',r= .int .i64 (out.2:Nat)/\cu h' O nb v' out.1 st/\Nx (fun _=>False) nb h v h' v'
def F4 (n:Nat):Prop:=∀{x:Nd}{h:ay}{O:Nat->Prop}{nb:Nat}{v w:Value}{ss:List bR}{st to:Nat},nE x<=n->cu h O nb v ss st->(∀b,O b->b<h.size)->b7 h (eK nb v) (dV x.kind x.set w) x->sC x=true->ss.length+nE x<=1000000 ->
 ah Tryz.prog 114 #[.pointer (some ⟨nb,0,none⟩),.agg (dV x.kind x.set w).toArray,.int .i64 (to:Nat)] h (bX (G1 O nb h v st (lay x ss to)))
theorem yo (hn:cu h O nb v ss st) (hO:∀b,O b->b<h.size) (hx:FX h (fun b=>eK nb v b\/O b) (CX x.kind x.set w x.rule) x) (hl:ss.length<=1000000) :
 ah Tryz.prog 115 #[.pointer (some ⟨nb,0,none⟩),.agg (CX x.kind x.set w x.rule).toArray] h (bX (G1 O nb h v st (ss++[x],ss.length))) :=
 (D5 hn hO hx hl).mono fun e h' r=>by
  obtain⟨u,he,v',hu,hn',hx',ho⟩:=r;exact⟨u,he,v',hu,hn',hx'.mono fun _ _ k=>.inl k,ho⟩
theorem HF (i:Nat):eO 0 i= .int .u64 0:=by simp[eO,AG]
theorem mS {to:List Nat}(hn:cu h O nb v ss st) (hO:∀b,O b->b<h.size) (hx:ck gI h (fun b=>eK nb v b\/O b) w to) (hl:ss.length<=1000000) :
 ah Tryz.prog 115 #[.pointer (some ⟨nb,0,none⟩),.agg #[.int .i64 0,.int .u64 0,.int .u64 0,.int .u64 0,.int .u64 0,w,.int .i64 0]] h (bX (G1 O nb h v st (ss++[⟨0,0,to,0⟩],ss.length))):=by
 have h1:=yo (x:=⟨0,0,to,0⟩) hn hO ⟨w,rfl,hx⟩ hl;simp only[CX,HF] at h1;exact h1
theorem Lo (t:TypeId) (a:Nat) (ho:¬O h.size):ck gI (h.push (.cells #[.int .i64 (a:Nat)] t)) O (.slice (some ⟨h.size,0,none⟩) 1 1) [a]:=ck.rf (e:=gI) (cs:=[cW a]) rfl ho
theorem Kw (t:TypeId) (a b:Nat) (ho:¬O h.size):ck gI (h.push (.cells #[.int .i64 (a:Nat),.int .i64 (b:Nat)] t)) O (.slice (some ⟨h.size,0,none⟩) 2 2) [a,b] :=
 ⟨_,2,2,rfl,rfl,Nat.le_refl _,by simp[maxLen],fun i x hx=>by
  refine⟨h.size,0,[cW x],rfl,ho,?_,rfl⟩;have hr:=pF h [.int .i64 (a:Nat),.int .i64 (b:Nat)] t;intro j u hj;have h0:j=0:=by have:=(List.getElem?_eq_some_iff.1 hj).1;simp at this;omega
  subst h0;simp only[List.getElem?_cons_zero,Option.some.injEq] at hj;subst hj
  match i with
  | 0=>simp at hx;subst hx;exact hr 0 _ rfl
  | 1=>simp at hx;subst hx;exact hr 1 _ rfl
  |i+2=>simp at hx⟩
theorem rA:∀(l:List Nd) (x:Nd) (ss:List bR) (to:Nat),bB (l++[x]) ss to=((lay x (bB l ss to).1 to).1,(bB l ss to).2++[(lay x (bB l ss to).1 to).2])
 | [],x,ss,to=>by simp[bB]
 |y::l,x,ss,to=>by
  rw[List.cons_append,bB,rA l x,bB];simp
theorem rz {l:List Nd}{x:Nd}(hx:l[i]? =some x) (ss:List bR) (to:Nat):bB (l.take (i+1)) ss to=((lay x (bB (l.take i) ss to).1 to).1,(bB (l.take i) ss to).2++[(lay x (bB (l.take i) ss to).1 to).2]):=by
 rw[List.take_add_one,hx,Option.toList_some,rA]
def G7 (nb b5 cap d:Nat) (r0:Loop) (hL:ay) (v sl:Value) (O:Nat->Prop) (kids:List Nd) (ss:List bR) (st to j:Nat) (g:ay):Prop :=
 ∃v',ei g (d+1) r0/\g[d]? =some (.deferred (some []))/\br g cap 141 [sl]/\cu g (fun b=>O b\/(b5<=b/\b<hL.size)) nb v' (bP (kids.drop j) ss to).1 st /\
  br g b5 3 [.int .i64 ((bP (kids.drop j) ss to).2:Nat)]/\Nx (fun b=>b5<=b/\b<hL.size) nb hL v g v'
theorem kk {k j:Nat}(h:¬((k:Nat):Int)=(j:Nat)):¬k=j:=fun e=>h (by rw[e])
theorem E6 (ih:F4 n):F4 (n+1):=by
 intro x h O nb v w ss st to hsz hn hO hx hw hl;obtain⟨k,s,kids⟩:=x;simp only[nE] at hsz hl;have hown:=hn.own;have hnb:=hn.blk.lt;obtain⟨w',hw',hkids⟩:=hx.open;have hww:w=w':=by simpa [dV] using hw'
 subst hww
 show ah _ _ #[_,.agg (dV k s w).toArray,_] h _
 replace hkids:ck rF h (eK nb v) w kids:=hkids;obtain⟨oa,kn,kc,rfl,hsl⟩:=hkids.open;refine ah.of func114 rfl rfl ?_;refine xr func114 rfl ?_;refine xo rfl (av.cS rfl) ?_;rintro _ h1 ⟨rfl,q3,e1,z1⟩;refine xo rfl (av.cS rfl) ?_;rintro _ h2 ⟨rfl,q4,e2,z2⟩;refine xo rfl (av.cS rfl) ?_;rintro _ h3 ⟨rfl,q5,e3,z3⟩;have q3:br h1 h.size 112 [.pointer (some ⟨nb,0,none⟩)]:=q3;have q4:br h2 h1.size 143 (dV k s (.slice oa kn kc)):=q4;have q5:br h3 h2.size 3 [.int .i64 (to:Nat)]:=q5;have q3:=(q3.ax e2).ax e3;have q4:=q4.ax e3;have e03:aD h h3:=(e1.trans e2).trans e3;have hn3:cu h3 O nb v ss st:=hn.ax e03 (fun _ _ k=>k);have hO3:∀b,O b->b<h3.size:=fun b hb=>by have:=hO b hb;have:=e03.size;omega
 have nx3:Nx (fun _=>False) nb h v h3 v:=Nx.IP e03;have hsl3:ck rF h3 (eK nb v) (.slice oa kn kc) kids:=hkids.mv nx3.IQ
 have hnew3:∀b,h3.size<=b->¬(eK nb v b\/O b):=by
  have hz:=e03.size;rintro b hb ((k1|k1)|k1)
  · omega
  · have:=hown b k1.symm;omega
  · have:=hO b k1;omega
 have hnM:∀b,h.size<=b->¬(eK nb v b\/False):=by
  rintro b hb ((k1|k1)|k1)
  · omega
  · have:=hown b k1.symm;omega
  · exact k1
 have hkn:kids.length=kn:=hsl.len;have hwl:sD kids=true:=by simp only[sC,Bool.and_eq_true] at hw;exact hw.2
 have hklen:=B6 kids;refine aR 1 [0,1,2,3,4,5,6] rfl ?_;refine aq rfl ?_;refine xr func114 rfl ?_;refine xp rfl (aa (off:=0) underlying143 rfl rfl H.aP rfl) ?_;refine xp rfl (af H.bC rfl (q4.cell (i:=0) rfl)) ?_;refine xd [0,1,2,3,4,5,6,15] rfl ?_;refine G.block rfl rfl ?_;refine aY func114 2 [0,1,2,3,4,5,6,15,16] rfl ?_;refine aG rfl rfl (fun h1k=>?_) (fun h1k=>?_)
 · obtain rfl:k=1:=by omega
   have hlay:lay (.mk 1 s kids) ss to=(ss++[⟨1,s,[to],0⟩],ss.length):=by rw[lay];simp
   rw[hlay];refine xr func114 rfl ?_;refine xp rfl (af H.lU rfl (q3.cell (i:=0) rfl)) ?_;refine xp rfl (aa (off:=1) underlying143 rfl rfl H.lM rfl) ?_;refine xp rfl (ak.au H.HO H.lM rfl (q4.part 1 (ds:=[eO s 0,eO s 1,eO s 2,eO s 3]) (by intro j v hv;match j with| 0=>exact hv| 1=>exact hv| 2=>exact hv| 3=>exact hv|j+4=>simp at hv)) (by first|rfl|(simp;done)|(simp;omega))) ?_;refine xp rfl (af H.bC rfl (q5.cell (i:=0) rfl)) ?_;refine xo rfl (av.bD (us:=[_]) underlying44 H.nH rfl rfl (by decide) (by simp[Value.oneCell'])) ?_;rintro _ _ ⟨rfl,rfl⟩;refine xp rfl (aS (H.As _ _ _ _ _ _ _ _) rfl) ?_;refine xo rfl (aj (vs:=[_,_]) func115 rfl H.s5 rfl (ah.aX (yo (O:=O) (x:=⟨1,s,[to],0⟩) (hn3.ax (Ext.push _ _ _) (fun _ _ k=>k)) (fun b hb=>by have:=hO3 b hb;simp;omega) ⟨_,rfl,Lo _ to (hnew3 _ (Nat.le_refl _))⟩ (by omega)))) ?_;rintro _ h5 ⟨v',rfl,hn5,nx5⟩;refine aR 1 [0,1,2,3,4,5,6,15,16] rfl ?_;refine aK func114 rfl rfl ?_;exact⟨_,rfl,v',rfl,hn5,(nx3.trans (Nx.IP (Ext.push _ _ _)) (fun _ _ k=>k)).trans nx5 (fun _ _ k=>k)⟩
 · have h1k':¬k=1:=kk h1k;refine aY func114 2 [0,1,2,3,4,5,6,15,16,25] rfl ?_;refine aG rfl rfl (fun h2k=>?_) (fun h2k=>?_)
   · obtain rfl:k=2:=by omega
     have hlay:lay (.mk 2 s kids) ss to=bP kids ss to:=by rw[lay];simp
     rw[hlay];have hz0:=e03.size;refine aq rfl ?_;refine xr func114 rfl ?_;refine xp rfl (aa (off:=5) underlying143 rfl rfl H.yL rfl) ?_;refine xp rfl (af H.uK rfl (q4.cell (i:=5) rfl)) ?_;refine xo rfl (aj (vs:=[_]) func135 rfl H.Jv rfl (ah.aX (uH (.slice oa kn kc) rfl))) ?_;rintro _ h4 ⟨rfl,hh4⟩;have e4:aD h3 h4:=by rw[hh4];exact Ext.push _ _ _
     have q6:br h4 h3.size 141 [.slice oa kn kc]:=by rw[hh4];exact br.new _ _ _
     have z4:h4.size=h3.size+1:=by rw[hh4];simp
     clear hh4;refine xd [0,1,2,3,4,5,6,15,16,25,29] rfl ?_;refine G.block rfl rfl ?_;refine G.rangeFunc rfl rfl func148 rfl (by decide +kernel) ?_;intro fid tmps hfits;obtain⟨r0,hr0⟩:∃r0,r0=kU fid tmps #[30,31] (Le (Lw.sub (aI f114) [0,1,0,0,1,1,1,0,1,0,1])) (Ld (Lw.sub (aI f114) [0,1,0,0,1,1,1,0,1,0,1])) h4.size:=⟨_,rfl⟩
     obtain⟨hL,hhL⟩:∃hL,hL=(h4.push (.deferred (some []))).push (.loop r0):=⟨_,rfl⟩
     suffices hmain:ah Tryz.prog 148 #[.func (.yield (h4.size+1)) #[] #[],.pointer (some ⟨h3.size,0,none⟩)] hL _ by rw[hhL,hr0] at hmain;exact hmain
     have hst:r0.state= .ready:=by rw[hr0];rfl
     have hpn:r0.pending=none:=by rw[hr0];rfl
     have hps:r0.params= #[30,31]:=by rw[hr0];rfl
     have htm:r0.tmps=tmps:=by rw[hr0];rfl
     have eL:aD h4 hL:=by rw[hhL];exact(Ext.push _ _ _).trans (Ext.push _ _ _)
     have hLz:hL.size=h4.size+2:=by rw[hhL];simp
     have hloop0:ei hL (h4.size+1) r0:=by
      have hz:h4.size+1=(h4.push (.deferred (some []))).size:=by simp
      rw[ei,hhL,hz];exact Array.getElem?_push_size
     have hdef0:hL[h4.size]? =some (.deferred (some [])):=by
      rw[hhL,(Ext.push (fun _=>False) (h4.push (.deferred (some []))) _).block h4.size (by simp) (fun k=>k)];exact Array.getElem?_push_size
     clear hhL;have e0L:aD h hL:=(e03.trans e4).trans eL;have q3L:=(q3.ax e4).ax eL;have q5L:=(q5.ax e4).ax eL;have q6L:=q6.ax eL;have hnL:cu hL (fun b=>O b\/(h2.size<=b/\b<hL.size)) nb v ss st:=hn.ax e0L (fun b hb k=>k.elim id (fun k=>by omega));have hkL:ck rF hL (fun b=>eK nb v b\/(h2.size<=b/\b<hL.size)) (.slice oa kn kc) kids:=hkids.mv ⟨e0L.size,fun b hb hn=>⟨e0L.block b hb (fun k=>k),fun k=>k.elim hn (fun k=>by omega)⟩⟩;have hdropn:kids.drop kn=[]:=List.drop_of_length_le (by omega);have hJ0:G7 nb h2.size h3.size h4.size r0 hL v (.slice oa kn kc) O kids ss st to kn hL:=⟨v,hloop0,hdef0,q6L,by rw[hdropn,bP];exact hnL,by rw[hdropn,bP];exact q5L,Nx.refl⟩
     have hvM:∀{v':Value}{g:ay},Nx (fun b=>h2.size<=b/\b<hL.size) nb hL v g v'->∀b,h.size<=b->b<hL.size->¬eK nb v' b:=by
      rintro v' g nx b hb hb' (k1|k1)
      · omega
      · rcases nx.own b k1.symm with k2|k2
        · have:=hown b k2;omega
        · omega
     refine suff (p:=∀j g,G7 nb h2.size h3.size h4.size r0 hL v (.slice oa kn kc) O kids ss st to (j+1) g->j<kn->∃(b o k s:Nat) (w:Value),oa=some ⟨b,o,none⟩/\Lw.rowAt g b (o+j*6) (dV k s w)/\lG Tryz.prog (h4.size+1) #[.int .i64 (j:Nat),.agg (dV k s w).toArray] g (bX fun r h'=>r= .bool true/\G7 nb h2.size h3.size h4.size r0 hL v (.slice oa kn kc) O kids ss st to j h')) ?_ fun hy=>?_
     · intro j g ⟨v',hlp,hdf,hcap,hng,hb5,nxg⟩ hj;obtain⟨x,hx⟩:∃x,kids[j]? =some x:=⟨_,List.getElem?_eq_getElem (by omega)⟩
       have hkg:=hkL.mv nxg.mv;obtain⟨oa',n',c',hv',_,_,_,hget⟩:=id hkg;cases hv';obtain⟨b,o,cs,ha,hob,hrow,hnd⟩:=hget j x hx;obtain⟨w2,rfl,-⟩:=hnd.open;refine⟨b,o,x.kind,x.set,w2,ha,hrow,?_⟩;have hcatd:=zQ hx ss to;have hszx:=Er hx;have hbl:=jk (kids.drop (j+1)) ss to;have hfit:=Aa (p1:=30) (p2:=31) (v1:=.int .i64 (j:Nat)) (v2:=.agg (dV x.kind x.set w2).toArray) hfits rfl rfl;rw[<-hps,<-htm] at hfit;have hvg:=hvM nxg;have hzg:=nxg.ext.size;have q3g:=q3L.ext nxg.ext (fun k=>k.elim (hvM Nx.refl (v':=v) (g:=hL) _ (Nat.le_refl _) (by omega)) (fun k=>by omega));refine lG.of hlp hst (by rw[hps];rfl) hfit ((congrArg Loop.assign hr0).trans rfl) ((congrArg Loop.body hr0).trans rfl) ?_;refine gJ.Ea rfl rfl rfl rfl rfl (av.aW H.jU) ?_;rintro _ g1 ⟨rfl,k8,e1',zz1⟩;refine gJ.bk rfl rfl rfl rfl (av.an H.cg rfl rfl k8 (by first|rfl|(simp;done)|(simp;omega)) (by first|decide|exact of_decide_eq_true rfl|(simp;done)|(simp;omega)) (b7.one hnd)) ?_;rintro _ g2 ⟨rfl,k8',e2',zz2⟩;refine kH rfl ?_;have e12:aD g g2:=e1'.only e2' (Nat.le_refl _);have k8':br g2 g.size 143 (dV x.kind x.set w2):=k8';refine⟨(e12.block _ hlp.lt (fun k=>k)).trans hlp,?_⟩;obtain⟨g3,hg3⟩:∃g3,g3=Lw.eJ g2 (h4.size+1) (.loop { r0 with state:=.busy }):=⟨_,rfl⟩
       rw[<-hg3];have hlz:=hlp.lt;have hz2:=e12.size;have e23:Ext (fun b=>b=h4.size+1) g2 g3:=by rw[hg3];exact Ext.eJ _ _ _ rfl
       have hlp3:ei g3 (h4.size+1) { r0 with state:=.busy }:=by rw[ei,hg3];exact nk (by omega)
       have hz3:=e23.size;have e13:Ext (fun b=>b=h4.size+1) g g3:=(e12.mono fun _ _ k=>k.elim).trans e23;have l3:¬h.size=h4.size+1:=by omega
       have l5:¬h2.size=h4.size+1:=by omega
       have l6:¬h3.size=h4.size+1:=by omega
       have l8:¬g.size=h4.size+1:=by omega
       have ld:¬h4.size=h4.size+1:=by omega
       have q33:=q3g.ext e13 l3;have b53:=hb5.ext e13 l5;have cap3:=hcap.ext e13 l6;have k83:=k8'.ext e23 l8;have hown':∀b,v'.ownBlock=some b->¬b=h4.size+1:=fun b hb k=>hvg b (by omega) (by omega) (.inr hb.symm)
       have hn3g:cu g3 (fun b=>O b\/(h2.size<=b/\b<hL.size)) nb v' (bP (kids.drop (j+1)) ss to).1 st:=hng.ext e13 (by omega) hown' (fun b _ k=>.inr (by omega)) (fun b _ k=>k);have hnd3:b7 g3 (eK nb v') (dV x.kind x.set w2) x:=hnd.mv ⟨e13.size,fun b hb hn=>⟨e13.block b hb (fun k=>hn (.inr (by omega))),fun k=>hn (.inl k)⟩⟩;refine gJ.aV rfl rfl rfl rfl rfl (af H.lU rfl (q33.cell (i:=0) rfl)) ?_;refine gJ.aV rfl rfl rfl rfl rfl (ak.au H.eR H.cg rfl k83.row (by first|rfl|(simp;done)|(simp;omega))) ?_;refine gJ.aV rfl rfl rfl rfl rfl (af H.bC rfl (b53.cell (i:=0) rfl)) ?_;refine gJ.Ea rfl rfl rfl rfl rfl (aj (vs:=[_,_,_]) func114 rfl H.vY rfl (ah.aX (ih (x:=x) (O:=fun b=>O b\/(h2.size<=b/\b<hL.size)) (to:=(bP (kids.drop (j+1)) ss to).2) (by omega) hn3g (fun b hb=>by rcases hb with k|k;(have:=hO b k;omega);omega) hnd3 (wS hwl hx) (by omega)))) ?_;rintro _ g4 ⟨v4,rfl,hn4,nx4⟩;have hM4:∀b,h.size<=b->b<hL.size->¬(eK nb v' b\/False):=fun b h1 h2 k=>k.elim (hvg b h1 h2) id
       have b54:=b53.ext nx4.ext (hM4 _ (by omega) (by omega));refine gJ.bk rfl rfl rfl rfl (av.aE H.aP rfl rfl b54 (by first|decide|exact of_decide_eq_true rfl|(simp;done)|(simp;omega)) rfl) ?_;rintro _ g5 ⟨rfl,b55,e5',zz5⟩;refine kH rfl ?_;have b55:br g5 h2.size 3 [.int .i64 ((lay x (bP (kids.drop (j+1)) ss to).1 (bP (kids.drop (j+1)) ss to).2).2:Nat)]:=b55;have hz4:=nx4.ext.size;have nx45:Nx (fun b=>h2.size<=b/\b<hL.size) nb g3 v' g5 v4:=⟨⟨by omega,fun b hb hn=>by rw[e5'.block b (by omega) (fun k=>hn (.inr (by omega))),nx4.ext.block b hb (fun k=>hn (k.elim .inl (fun k=>k.elim)))]⟩,nx4.own⟩
       have hlp5:ei g5 (h4.size+1) { r0 with state:=.busy }:=(hlp3.ext nx4.ext (hM4 _ (by omega) (by omega))).ext e5' (fun k=>by omega);have hr2:({ ({ r0 with state:=.busy }:Loop) with state:=.ready,pending:=none }:Loop)=r0:=by cases r0;simp at hst hpn;simp[hst,hpn]
       refine⟨_,hlp5,rfl,?_⟩;rw[hr2];have e56:Ext (fun b=>b=h4.size+1) g5 (Lw.eJ g5 (h4.size+1) (.loop r0)):=Ext.eJ _ _ _ rfl
       have hown4:∀b,v4.ownBlock=some b->¬b=h4.size+1/\¬b=h2.size:=fun b hb=>by
        rcases nx4.own b hb with k|k
        · exact⟨hown' b k,fun k'=>hvg b (by omega) (by omega) (.inr k.symm)⟩
        · omega
       have hdf5:g5[h4.size]? =some (.deferred (some [])):=by
        rw[e5'.block h4.size (by omega) (by omega),nx4.ext.block h4.size (by omega) (hM4 _ (by omega) (by omega)),e13.block h4.size (by omega) (by omega)];exact hdf
       have cap5:=(cap3.ext nx4.ext (hM4 _ (by omega) (by omega))).ext e5' (by omega);refine⟨v4,nk (by omega),by rw[e56.block h4.size (by omega) (by omega)];exact hdf5,cap5.ext e56 l6,?_,?_,?_⟩
       · rw[hcatd];have hn5:cu g5 (fun b=>O b\/(h2.size<=b/\b<hL.size)) nb v4 (lay x (bP (kids.drop (j+1)) ss to).1 (bP (kids.drop (j+1)) ss to).2).1 st:=hn4.ext e5' (by omega) (fun b hb=>(hown4 b hb).2) (fun b _ k=>.inr (by omega)) (fun _ _ k=>k);exact hn5.ext e56 (by omega) (fun b hb=>(hown4 b hb).1) (fun b _ k=>.inr (by omega)) (fun _ _ k=>k)
       · rw[hcatd];exact b55.ext e56 l5
       · exact((nxg.trans ⟨e13.mono (fun b _ k=>.inr (by omega)),fun b k=>.inl k⟩ (fun b _ k=>k)).trans nx45 (fun b _ k=>k)).trans ⟨e56.mono (fun b _ k=>.inr (by omega)),fun b k=>.inl k⟩ (fun b _ k=>k)
     · refine(se (l:=h4.size+1) (cap:=h3.size) (n:=kn) (c:=kc) (J:=G7 nb h2.size h3.size h4.size r0 hL v (.slice oa kn kc) O kids ss st to) (by omega) (fun j g hJ=>by obtain⟨_,_,_,k,_⟩:=hJ;exact k.cell (i:=0) rfl) hy hJ0).mono fun e g hJ=>?_
       obtain⟨u,rfl,v',hlp,hdf,hcap,hng,hb5,nxg⟩:=hJ;rw[List.drop_zero] at hng hb5;refine⟨_,rfl,r0,hlp,by rw[hst];decide,hpn,?_⟩;have hzg:=nxg.ext.size;have hlz:=hlp.lt;have e1:Ext (fun b=>b=h4.size+1) g (Lw.eJ g (h4.size+1) (.loop { r0 with state:=.exhausted })):=Ext.eJ _ _ _ rfl;have b5e:=hb5.ext e1 (by omega);have hdfe:=(e1.block h4.size (by omega) (by omega)).trans hdf;have hvg:=hvM nxg;refine GD.aT ?_;refine oW rfl ?_;refine GD.bU func114 rfl ?_;refine ju.aV rfl rfl rfl rfl (af H.bC rfl (b5e.cell (i:=0) rfl)) ?_;refine ju.aV rfl rfl rfl rfl (ak.assign rfl) ?_;refine kI rfl ?_;refine GD.sub (ρ':=[(0,_),(1,_),(2,_),(3,_),(4,_),(5,_),(6,_),(15,_),(16,_),(25,_),(29,_)]) ⟨rfl,rfl,rfl,rfl,rfl,rfl,rfl,rfl,rfl,rfl,rfl,trivial⟩ ?_;refine GD.Cd func114 rfl hdfe rfl ?_;have e2:Ext (fun b=>b=h4.size) (Lw.eJ g (h4.size+1) (.loop { r0 with state:=.exhausted })) (Lw.eJ (Lw.eJ g (h4.size+1) (.loop { r0 with state:=.exhausted })) h4.size (.deferred none)):=Ext.eJ _ _ _ rfl;have e12:Ext (fun b=>b=h4.size+1\/b=h4.size) g _:=(e1.mono fun _ _ k=>.inl k).trans (e2.mono fun _ _ k=>.inr k);have hownv:∀b,v'.ownBlock=some b->¬(b=h4.size+1\/b=h4.size):=fun b hb k=>hvg b (by omega) (by omega) (.inr hb.symm)
       refine⟨_,rfl,v',rfl,hng.ext e12 (by omega) hownv (fun b _ k=>.inr (by omega)) (fun b _ k=>.inl k),?_⟩;have nxe:Nx (fun b=>h2.size<=b) nb h v _ v':=((Nx.IP e0L).trans nxg (fun b _ k=>k.1)).trans ⟨e12.mono (fun b _ k=>.inr k),fun b k=>.inl k⟩ (fun b hb k=>by omega);exact nxe.mono (fun b hb k=>by omega)
   · have h2k':¬k=2:=kk h2k;refine aY func114 2 [0,1,2,3,4,5,6,15,16,25,37] rfl ?_;refine aG rfl rfl (fun h3k=>?_) (fun h3k=>?_)
     · obtain rfl:k=3:=by omega
       have hlay:lay (.mk 3 s kids) ss to=((bB kids ss to).1++[⟨0,0,(bB kids ss to).2,0⟩],(bB kids ss to).1.length):=by rw[lay];simp
       rw[hlay];refine aY func114 1 [0,1,2,3,4,5,6,9,15,16,25,37] rfl ?_;refine aq rfl ?_;refine xr func114 rfl ?_;refine xp rfl (aa (off:=5) underlying143 rfl rfl H.yL rfl) ?_;refine xp rfl (af H.uK rfl (q4.cell (i:=5) rfl)) ?_;refine xp rfl (ak.aJ underlying141 rfl) ?_;refine aR 1 [0,1,2,3,4,5,6,9,15,16,25,37,40,41,42] rfl ?_;refine G.block rfl rfl ?_;refine bQ (σ:=Nat×Value) (fun p=>[(3,.pointer (some ⟨h.size,0,none⟩)),(5,.pointer (some ⟨h2.size,0,none⟩)),(9,p.2),(40,.slice oa kn kc),(41,.int .i64 (kn:Nat)),(42,.int .i64 (p.1:Nat))]) (fun p h'=>p.1<=kn/\∃v',cu h' (fun b=>O b\/dw p.2.ownBlock b) nb v' (bB (kids.take p.1) ss to).1 st/\gO gI (fun _=>True) h' h3.size 3 p.2 (bB (kids.take p.1) ss to).2/\Nx (fun _=>False) nb h3 v h' v'/\(∀b,p.2.ownBlock=some b->v'.ownBlock≠some b)) (fun p=>kn-p.1) ((0,.slice none 0 0)) rfl ⟨rfl,rfl,rfl,rfl,rfl,rfl,trivial⟩ ⟨Nat.zero_le _,v,by simpa [bB] using hn3.ax (Ext.refl _ _) (fun b _ k=>k.elim id (fun k=>by cases k)),by simpa [bB] using gO.nil gI (fun _=>True) h3 h3.size 3,Nx.refl,fun b hb=>by cases hb⟩ ?_;rintro⟨i,t9⟩ gh ⟨hi,v',hnH,htH,nxH,hdist⟩ ih2
       try dsimp only
       dsimp only at hi hnH htH nxH hdist;have hzH:=nxH.ext.size;have hz0:=e03.size;have q3H:=q3.ext nxH.ext (hnM _ (Nat.le_refl _));have q5H:=q5.ext nxH.ext (hnM _ (by omega));have hslH:ck rF gh (eK nb v') (.slice oa kn kc) kids:=hsl3.mv nxH.IQ;have ht9:∀b,t9.ownBlock=some b->h3.size<=b/\b<gh.size:=fun b hb=>by obtain⟨_,_,k,_⟩:=id htH;exact k.lt hb
       have hlenT:(bB (kids.take i) ss to).2.length=i:=by rw[mB,List.length_take];omega
       refine aY func114 1 [3,5,9,40,41,42,43] rfl ?_;refine aq rfl ?_;refine aG rfl rfl (fun hlt=>?_) (fun hlt=>?_)
       · have hik:i<kids.length:=by omega
         obtain⟨x,hx⟩:∃x,kids[i]? =some x:=⟨_,List.getElem?_eq_getElem hik⟩
         obtain⟨oa',n',c',hv',_,_,_,hget⟩:=id hslH;cases hv';obtain⟨b,o,cs,ha,hob,hrow,hnd⟩:=hget i x hx;obtain⟨w2,rfl,-⟩:=hnd.open;have hszx:=Ep hx;have hbl:=fo (kids.take i) ss to;refine aA rfl ?_;refine aq rfl ?_;refine G.block rfl rfl ?_;refine xr func114 rfl ?_;refine xp rfl (ak.aF underlying141 H.cg rfl rfl i rfl ha (by omega)) ?_;refine xp rfl (ak.au H.eR H.cg rfl hrow (by first|rfl|(simp;done)|(simp;omega))) ?_;refine xo rfl (av.aW H.jU) ?_;rintro _ h5 ⟨rfl,q11,e5,z5⟩;refine RW.bk rfl rfl rfl (av.an H.cg rfl rfl q11 (by first|rfl|(simp;done)|(simp;omega)) (by first|decide|exact of_decide_eq_true rfl|(simp;done)|(simp;omega)) (b7.one hnd)) ?_;rintro _ h6 ⟨rfl,q11',e6,z6⟩;have e56:aD gh h6:=e5.only e6 (Nat.le_refl _);have q11':br h6 gh.size 143 (dV x.kind x.set w2):=q11';have hn6:cu h6 (fun b=>O b\/dw t9.ownBlock b) nb v' (bB (kids.take i) ss to).1 st:=hnH.ax e56 (fun _ _ k=>k);have nx6:Nx (fun _=>False) nb gh v' h6 v':=Nx.IP e56;have hz6:=e56.size;have hnd6:=hnd.mv nx6.IQ;refine xd [3,5,9,11,40,41,42,43] rfl ?_;refine G.bU func114 rfl ?_;refine cy 1 rfl rfl (af H.lU rfl ((q3H.ax e56).cell (i:=0) rfl)) ?_;refine xp rfl (ak.au H.eR H.cg rfl q11'.row (by first|rfl|(simp;done)|(simp;omega))) ?_;refine xp rfl (af H.bC rfl ((q5H.ax e56).cell (i:=0) rfl)) ?_;refine xo rfl (aj (vs:=[_,_,_]) func114 rfl H.vY rfl (ah.aX (ih (x:=x) (O:=fun b=>O b\/dw t9.ownBlock b) (to:=to) (by omega) hn6 (fun b hb=>by rcases hb with k|k;(have:=hO3 b k;omega);(have:=ht9 b k.symm;omega)) hnd6 (wS hwl hx) (by omega)))) ?_;rintro _ h7 ⟨v7,rfl,hn7,nx7⟩
         have ht7:gO gI (fun _=>True) h7 h3.size 3 t9 (bB (kids.take i) ss to).2:=(htH.ax e56).Eb nx7.ext (fun b hb=>by
          rintro((k1|k1)|k1)
          · have:=ht9 b hb;omega
          · exact hdist b hb k1.symm
          · exact k1) (fun _ _ _=>trivial) (fun _ _ _=>trivial)
         obtain⟨css,hc1,hc2,hc3⟩:=id ht7;have hz7:=nx7.ext.size;refine xo rfl (av.bD (us:=[_]) underlying44 H.nH rfl rfl (by decide) (by simp[Value.oneCell'])) ?_;rintro _ _ ⟨rfl,rfl⟩;refine xo rfl (av.cH underlying44 H.nH rfl rfl (hc2) rfl rfl (by first|decide|simp[Value.oneCell']) (by omega) (by decide) (by omega)) ?_;rintro t9' h8 ⟨ho8,hx8,-,hv8⟩;refine aR 1 [3,5,9,11,40,41,42,43] rfl ?_;refine G.aT ?_;refine G.bU func114 rfl ?_;refine xp rfl (ak.bK rfl rfl ⟨by omega,by omega⟩) ?_;refine aR 1 [3,5,9,11,40,41,42,43] rfl ?_;have ht8:gO gI (fun _=>True) h8 h3.size 3 t9' ((bB (kids.take i) ss to).2++[(lay x (bB (kids.take i) ss to).1 to).2]):=gO.oh hc1 hc3 ho8 hx8 hv8 rfl
         have hn8:cu h8 (fun b=>O b\/dw t9'.ownBlock b) nb v7 (lay x (bB (kids.take i) ss to).1 to).1 st:=hn7.ext hx8 (fun k=>by have:=ht9 nb k.symm;omega) (fun b hb k=>by
          rcases nx7.own b hb with k'|k'
          · exact hdist b k.symm k'
          · have:=ht9 b k.symm;omega) (fun b _ k=>.inr k) (fun b hb k=>k.imp id (fun k=>by
            rcases hv8 b k.symm with k'|k'
            · exact k'.symm
            · omega))
         have hd8:∀b,t9'.ownBlock=some b->v7.ownBlock≠some b:=fun b hb k=>by
          rcases hv8 b hb with k'|k'
          · rcases nx7.own b k with k2|k2
            · exact hdist b k' k2
            · have:=ht9 b k';omega
          · have:=(hn7.own b k).2;omega
         exact ih2 (i+1,t9') _ _ ⟨rfl,rfl,rfl,rfl,rfl,rfl,trivial⟩ ⟨by show i+1<=kn;omega,v7,by rw[rz hx];exact hn8,by rw[rz hx];exact ht8,⟨⟨by have:=hx8.size;omega,fun b hb hn=>by rw[hx8.block b (by omega) (fun k=>by have:=ht9 b k.symm;omega)];exact((nxH.trans nx6 (fun _ _ k=>k)).trans nx7 (fun _ _ k=>k)).ext.block b hb hn⟩,((nxH.trans nx6 (fun _ _ k=>k)).trans nx7 (fun _ _ k=>k)).own⟩,hd8⟩ (by show kn-(i+1)<kn-i;omega)
       · obtain rfl:i=kn:=by omega
         have hall:kids.take i=kids:=List.take_of_length_le (by omega);rw[hall] at hnH htH hlenT;have hbl:=fo kids ss to
         have hrd:ck gI gh (fun b=>eK nb v' b\/O b) t9 (bB kids ss to).2:=htH.EF (fun b hb=>by
          rintro((k1|k1)|k1)
          · have:=ht9 b hb;omega
          · exact hdist b hb k1.symm
          · have:=ht9 b hb;have:=hO3 b k1;omega) (fun _ _ _=>trivial)
         obtain⟨oa9,n9,c9,rfl,_⟩:=id hrd;refine bG rfl rfl ?_;refine xr func114 rfl ?_;refine xp rfl (af H.lU rfl (q3H.cell (i:=0) rfl)) ?_;refine cy 1 rfl rfl (aS (H.yl _ _ _) rfl) ?_;refine xo rfl (aj (vs:=[_,_]) func115 rfl H.s5 rfl (ah.aX (mS (O:=O) (hnH.ax (Ext.refl _ _) (fun b _ k=>.inl k)) (fun b hb=>by have:=hO3 b hb;omega) hrd (by omega)))) ?_;rintro _ h5 ⟨v5,rfl,hn5,nx5⟩;refine aR 1 [3,5,6,9,40,41,42,43] rfl ?_;refine aK func114 rfl rfl ?_;exact⟨_,rfl,v5,rfl,hn5,(nx3.trans nxH (fun _ _ k=>k)).trans nx5 (fun _ _ k=>k)⟩
     · have h3k':¬k=3:=kk h3k;refine aY func114 2 [0,1,2,3,4,5,6,15,16,25,37,58] rfl ?_;refine aG rfl rfl (fun h6k=>?_) (fun h6k=>?_)
       · obtain rfl:k=6:=by omega
         have hone:kids.length=1:=by simp[sC] at hw;exact hw.1
         obtain⟨x,rfl⟩:∃x,kids=[x]:=by match kids,hone with| [x],_=>exact⟨x,rfl⟩
         have hkn1:kn=1:=by simpa using hkn.symm
         have hszx:nE x<=gw [x]:=by simp[gw]
         have hwx:sC x=true:=by simpa [sD] using hwl
         have hlay:lay (.mk 6 s [x]) ss to=((lay x ss to).1++[⟨0,0,[(lay x ss to).2,to],0⟩],(lay x ss to).1.length):=by rw[lay];simp[cC]
         rw[hlay];have hz0:=e03.size;obtain⟨oa',n',c',hv',_,_,_,hget⟩:=id hsl3;cases hv';obtain⟨b,o,cs,ha,hob,hrow,hnd⟩:=hget 0 x rfl;obtain⟨w2,rfl,-⟩:=hnd.open
         have hnM3:∀b,h.size<=b->b<h3.size->¬(eK nb v b\/h3.size<=b):=by
          rintro b hb hb' ((k1|k1)|k1)
          · omega
          · have:=hown b k1.symm;omega
          · omega
         have hbM:¬(eK nb v b\/h3.size<=b):=by
          rintro(k1|k1)
          · exact hob k1
          · have:=iC hrow (by simp[dV]);omega
         have m3:=hnM3 h.size (Nat.le_refl _) (by omega);have m4:=hnM3 h1.size (by omega) (by omega);have m5:=hnM3 h2.size (by omega) (by omega);have hlenx:=fO x ss to;refine aq rfl ?_;refine bV (fun b=>eK nb v b\/Array.size h3<=b) (fun i=>Nat.blt i 13) (sz:=13) (listed:= #[false,false,false,false,false,false,false,false,false,false,false,false,false]) func114 H.mixed rfl rfl rfl ?_;refine bg 0 1 (by kernel_rfl) rfl (fun h' e=>af H.lU rfl (e.cell m3 (q3.cell (i:=0) rfl))) ?_;refine bg 1 3 (by kernel_rfl) rfl (fun h' e=>af H.lU rfl (e.cell m3 (q3.cell (i:=0) rfl))) ?_;refine bg 2 7 (by kernel_rfl) rfl (fun h' e=>aa (off:=5) underlying143 rfl rfl H.yL rfl) ?_;refine bg 3 15 (by kernel_rfl) rfl (fun h' e=>af H.uK rfl (e.cell m4 (q4.cell (i:=5) rfl))) ?_;refine bg 4 31 (by kernel_rfl) rfl (fun h' e=>ak.aF underlying141 H.cg rfl rfl 0 rfl ha (by omega)) ?_;refine bg 5 63 (by kernel_rfl) rfl (fun h' e=>ak.au H.eR H.cg rfl (e.rowAt hbM hrow) (by first|rfl|(simp;done)|(simp;omega))) ?_;refine bg 6 127 (by kernel_rfl) rfl (fun h' e=>af H.bC rfl (e.cell m5 (q5.cell (i:=0) rfl))) ?_;refine bg 8 383 (by kernel_rfl) rfl (fun h' e=>af H.bC rfl (e.cell m5 (q5.cell (i:=0) rfl))) ?_;refine dJ 7 511 (by kernel_rfl) rfl (aj (vs:=[_,_,_]) func114 rfl H.vY rfl (ah.aX (ih (x:=x) (O:=O) (to:=to) (by omega) hn3 hO3 hnd hwx (by omega)))) ?_;rintro _ h5 ⟨v5,rfl,hn5,nx5⟩;refine⟨fun _=>nx5.ext.mono (fun b _ k=>k.elim .inl (fun k=>k.elim)),?_⟩;have hz5:=nx5.ext.size;have hown5:=hn5.own
         have hnew5:∀t,ck gI (h5.push (.cells #[.int .i64 ((lay x ss to).2:Nat),.int .i64 (to:Nat)] t)) (fun b=>eK nb v5 b\/O b) (.slice (some ⟨h5.size,0,none⟩) 2 2) [(lay x ss to).2,to]:=fun t=>Kw t _ _ (by
          rintro((k1|k1)|k1)
          · omega
          · have:=hown5 _ k1.symm;omega
          · have:=hO3 _ k1;omega)
         refine dJ 9 1023 (by kernel_rfl) rfl (av.bD (us:=[_,_]) underlying44 H.nH rfl rfl (by decide) (by simp[Value.oneCell'])) ?_;rintro _ _ ⟨rfl,rfl⟩;refine⟨fun _=>by first|exact Ext.push _ _ _|assumption,?_⟩;refine bg 10 2047 (by kernel_rfl) rfl (fun h' e=>aS (H.yl _ _ _) rfl) ?_;refine dJ 11 4095 (by kernel_rfl) rfl (aj (vs:=[_,_]) func115 rfl H.s5 rfl (ah.aX (mS (O:=O) (hn5.ax (Ext.push _ _ _) (fun _ _ k=>k)) (fun b hb=>by have:=hO3 b hb;simp;omega) (hnew5 _) (by omega)))) ?_;rintro _ h6 ⟨v6,rfl,hn6,nx6⟩;refine⟨fun _=>nx6.ext.mono (fun b _ k=>by rcases k with (k1|k1)|k1;(exact .inl (.inl k1));(rcases nx5.own b k1.symm with k2|k2;(exact .inl (.inr k2.symm));exact .inr k2);exact k1.elim),?_⟩;refine bE 12 8191 (by kernel_rfl) rfl ?_;refine aQ (by kernel_rfl) ?_;refine xu [0,1,2,3,4,5,6,15,16,25,37,58] rfl ?_;refine aK func114 rfl rfl ?_;exact⟨_,rfl,v6,rfl,hn6,((nx3.trans nx5 (fun _ _ k=>k)).trans (Nx.IP (Ext.push _ _ _)) (fun _ _ k=>k)).trans nx6 (fun _ _ k=>k)⟩
       · have h6k':¬k=6:=kk h6k;refine aq rfl ?_;refine aY func114 2 [0,1,2,3,4,5,6,15,16,25,37,58,72] rfl ?_;refine aG rfl rfl (fun h4k=>?_) (fun h4k=>?_)
         · obtain rfl:k=4:=by omega
           have hone:kids.length=1:=by simp[sC] at hw;exact hw.1
           obtain⟨x,rfl⟩:∃x,kids=[x]:=by match kids,hone with| [x],_=>exact⟨x,rfl⟩
           have hkn1:kn=1:=by simpa using hkn.symm
           have hszx:nE x<=gw [x]:=by simp[gw]
           have hwx:sC x=true:=by simpa [sD] using hwl
           have hlay:lay (.mk 4 s [x]) ss to=((lay x (ss++[⟨0,0,[],0⟩]) ss.length).1.set ss.length ⟨0,0,[(lay x (ss++[⟨0,0,[],0⟩]) ss.length).2,to],0⟩,ss.length):=by rw[lay];simp[cC]
           rw[hlay];refine aA rfl ?_;refine aO rfl rfl (fun _=>?_) (fun hc=>absurd hc (by simp));refine xr func114 rfl ?_;refine xp rfl (af H.lU rfl (q3.cell (i:=0) rfl)) ?_;refine xp rfl (aS (H.FL ) rfl) ?_;refine xo rfl (aj (vs:=[_,_]) func115 rfl H.s5 rfl (ah.aX (mS (O:=O) (to:=[]) hn3 hO3 (ck.nil _ _ _) (by omega)))) ?_;rintro _ h5 ⟨v5,rfl,hn5,nx5⟩;have hz5:=nx5.ext.size;have hz0:=e03.size;have q3':=q3.ext nx5.ext (hnM _ (Nat.le_refl _));have q4':=q4.ext nx5.ext (hnM _ (by omega));have q5':=q5.ext nx5.ext (hnM _ (by omega));have hsl5:ck rF h5 (eK nb v5) (.slice oa kn kc) [x]:=hsl3.mv nx5.IQ;obtain⟨oa',n',c',hv',_,_,_,hget⟩:=id hsl5;cases hv';obtain⟨b,o,cs,ha,hob,hrow,hnd⟩:=hget 0 x rfl;obtain⟨w2,rfl,-⟩:=hnd.open;have hown5:=hn5.own
           have hnM5:∀b,h.size<=b->b<h3.size->¬(eK nb v5 b\/h5.size<=b):=by
            rintro b hb hb' ((k1|k1)|k1)
            · omega
            · rcases nx5.own b k1.symm with k2|k2
              · have:=hown b k2;omega
              · omega
            · omega
           have hbM:¬(eK nb v5 b\/h5.size<=b):=by
            rintro(k1|k1)
            · exact hob k1
            · have:=iC hrow (by simp[dV]);omega
           have m3:=hnM5 h.size (Nat.le_refl _) (by omega);have m4:=hnM5 h1.size (by omega) (by omega);refine aR 1 [0,1,2,3,4,5,6,12,15,16,25,37,58,72] rfl ?_;refine aq rfl ?_;refine bV (fun b=>eK nb v5 b\/Array.size h5<=b) (fun i=>Nat.blt i 8) (sz:=8) (listed:= #[false,false,false,false,false,false,false,false]) func114 H.mixed rfl rfl rfl ?_;refine bg 0 1 (by kernel_rfl) rfl (fun h' e=>af H.lU rfl (e.cell m3 (q3'.cell (i:=0) rfl))) ?_;refine bg 1 3 (by kernel_rfl) rfl (fun h' e=>aa (off:=5) underlying143 rfl rfl H.yL rfl) ?_;refine bg 2 7 (by kernel_rfl) rfl (fun h' e=>af H.uK rfl (e.cell m4 (q4'.cell (i:=5) rfl))) ?_;refine bg 3 15 (by kernel_rfl) rfl (fun h' e=>ak.aF underlying141 H.cg rfl rfl 0 rfl ha (by omega)) ?_;refine bg 4 31 (by kernel_rfl) rfl (fun h' e=>ak.au H.eR H.cg rfl (e.rowAt hbM hrow) (by first|rfl|(simp;done)|(simp;omega))) ?_;refine bE 5 63 (by kernel_rfl) rfl ?_;refine dJ 6 127 (by kernel_rfl) rfl (aj (vs:=[_,_,_]) func114 rfl H.vY rfl (ah.aX (ih (x:=x) (O:=O) (to:=ss.length) (by omega) hn5 (fun b hb=>by have:=hO3 b hb;omega) hnd hwx (by simp;omega)))) ?_;rintro _ h6 ⟨v6,rfl,hn6,nx6⟩;refine⟨fun _=>nx6.ext.mono (fun b _ k=>k.elim .inl (fun k=>k.elim)),?_⟩;have hz6:=nx6.ext.size;have nx36:=nx5.trans nx6 (fun _ _ k=>k);have q3':=q3.ext nx36.ext (hnM _ (Nat.le_refl _));have q4':=q4.ext nx36.ext (hnM _ (by omega));have q5':=q5.ext nx36.ext (hnM _ (by omega));have hown6:=hn6.own;have hlen6:=fO x (ss++[⟨0,0,[],0⟩]) ss.length;rw[List.length_append,List.length_singleton] at hlen6;have hpre:(lay x (ss++[⟨0,0,[],0⟩]) ss.length).1[ss.length]? =some ⟨0,0,[],0⟩:=by rw[kY x _ _ _ (by simp)];simp
           have hn6c:=hn6.blk.cell (i:=0) rfl
           have hnM6:∀b,h.size<=b->b<h3.size->¬(eK nb v6 b\/h6.size<=b):=by
            rintro b hb hb' ((k1|k1)|k1)
            · omega
            · rcases nx36.own b k1.symm with k2|k2
              · have:=hown b k2;omega
              · omega
            · omega
           have hnew6:∀t,ck gI (h6.push (.cells #[.int .i64 ((lay x (ss++[⟨0,0,[],0⟩]) ss.length).2:Nat),.int .i64 (to:Nat)] t)) (fun b=>dw v6.ownBlock b\/b=nb\/O b) (.slice (some ⟨h6.size,0,none⟩) 2 2) [(lay x (ss++[⟨0,0,[],0⟩]) ss.length).2,to]:=fun t=>Kw t _ _ (by
            rintro(k1|k1|k1)
            · have:=hown6 _ k1.symm;omega
            · omega
            · have:=hO3 _ k1;omega)
           generalize hout:lay x (ss++[⟨0,0,[],0⟩]) ss.length=out at *;have hn7:cu (h6.push (.cells #[.int .i64 (out.2:Nat),.int .i64 (to:Nat)] 3)) O nb v6 out.1 st:=hn6.ax (Ext.push _ _ _) (fun _ _ k=>k);obtain⟨g,c6,cs6,hv6,hg1,hg2,hg3,hg4,hg5,hg6⟩:=hn7.row.put hpre;obtain⟨w6,rfl,_⟩:=hg5;subst hv6;have hput:=hg6 5 (.slice (some ⟨h6.size,0,none⟩) 2 2) ⟨0,0,[out.2,to],0⟩ (by decide) ⟨_,rfl,hnew6 _⟩;have hgb:h6.size=g\/g<h6.size:=by have:=hown6 g rfl;omega
           have hg6':g<h6.size:=(hown6 g rfl).2;have hcell7:cellAt (h6.push (.cells #[.int .i64 (out.2:Nat),.int .i64 (to:Nat)] 3)) ⟨g,0+ss.length*7+5,none⟩=some w6:=hg3 5 _ rfl;have m6:=hnM6 h1.size (by omega) (by omega);have j4:¬h1.size=g:=fun k=>m6 (.inl (.inr (by rw[k];rfl)))
           have j3:¬h6.size<=h.size:=by omega
           have j0:¬h6.size<=nb:=by omega
           have j5:¬h6.size<=h2.size:=by omega
           refine bE 7 255 (by kernel_rfl) rfl ?_;refine aQ (by kernel_rfl) ?_;refine xu [0,1,2,3,4,5,6,12,13,15,16,25,37,58,72] rfl ?_;refine aq rfl ?_;refine bV (fun b=>Array.size h6<=b) (fun i=>Nat.blt i 10) (sz:=11) (listed:= #[false,false,false,false,false,false,false,false,false,false,false]) func114 H.mixed rfl rfl rfl ?_;refine bg 0 1 (by kernel_rfl) rfl (fun h' e=>af H.lU rfl (e.cell j3 (q3'.cell (i:=0) rfl))) ?_;refine bE 1 3 (by kernel_rfl) rfl ?_;refine bg 2 7 (by kernel_rfl) rfl (fun h' e=>aa (off:=0) underlying139 rfl rfl H.gx rfl) ?_;refine bg 3 15 (by kernel_rfl) rfl (fun h' e=>af H.iG rfl (e.cell j0 hn6c)) ?_;refine bE 4 31 (by kernel_rfl) rfl ?_;refine bE 5 63 (by kernel_rfl) rfl ?_;refine bg 6 127 (by kernel_rfl) rfl (fun h' e=>af H.bC rfl (e.cell j5 (q5'.cell (i:=0) rfl))) ?_;refine dJ 7 255 (by kernel_rfl) rfl (av.bD (us:=[_,_]) underlying44 H.nH rfl rfl (by decide) (by simp[Value.oneCell'])) ?_;rintro _ _ ⟨rfl,rfl⟩;refine⟨fun _=>by first|exact Ext.push _ _ _|assumption,?_⟩;refine dJ 8 511 (by kernel_rfl) rfl (ak.aX (ak.aF underlying137 H.lK rfl rfl ss.length rfl rfl (by omega))) ?_;rintro _ hq_ ⟨rfl,hqe_⟩;replace hqe_:=hqe_.symm;subst hqe_;refine⟨fun _=>Ext.refl _ _,?_⟩;refine bg 9 1023 (by kernel_rfl) rfl (fun h' e=>aa (off:=5) underlying149 rfl rfl H.fT rfl) ?_;refine ie 10 2047 (by kernel_rfl) rfl (cn H.fT rfl rfl rfl hcell7 (hg4 _)) ?_;rintro _ _ ⟨rfl,rfl⟩;refine⟨fun hk=>(nomatch hk),?_⟩;refine aQ (by kernel_rfl) ?_;refine xu [0,1,2,3,4,5,6,12,13,15,16,25,37,58,72] rfl ?_;refine aq rfl ?_;refine xr func114 rfl ?_;refine xp rfl (aa (off:=0) underlying143 rfl rfl H.aP rfl) ?_;have hz7:∀u,(dS (h6.push (.cells #[.int .i64 (out.2:Nat),.int .i64 (to:Nat)] 3)) ⟨g,0+ss.length*7+5,none⟩ u).size=h6.size+1:=fun u=>by rw[iY];simp
           have ex7:∀u,Ext (fun b=>b=g) h6 (dS (h6.push (.cells #[.int .i64 (out.2:Nat),.int .i64 (to:Nat)] 3)) ⟨g,0+ss.length*7+5,none⟩ u):=fun u=>⟨by rw[hz7];omega,fun b hb hn=>by rw[(Ext.dS (M:=fun b=>b=g) _ _ u rfl).block b (by simp;omega) hn,(Ext.push (fun _=>False) h6 _).block b hb (fun k=>k)]⟩
           refine xp rfl (af H.bC rfl ((q4'.ext (ex7 _) j4).cell (i:=0) rfl)) ?_;refine aR 1 [0,1,2,3,4,5,6,12,13,15,16,25,37,58,72,97] rfl ?_;refine aO rfl rfl (fun hc=>absurd hc (by decide)) (fun _=>?_);refine aA rfl ?_;refine aY func114 2 [0,1,2,3,4,5,6,12,13,15,16,25,37,58,72,97] rfl ?_;refine aK func114 rfl rfl ?_;exact⟨_,rfl,_,rfl,⟨hn6.blk.ext (ex7 _) (by have:=hown6 g rfl;omega),hput⟩,((nx3.trans nx36 (fun _ _ k=>k)).trans ⟨(ex7 _).mono (fun b _ k=>.inl (.inr (by rw[k];rfl))),fun b k=>.inl k⟩ (fun _ _ k=>k))⟩
         · have h4k':¬k=4:=kk h4k;refine G.bU func114 rfl ?_;refine aR 2 [0,1,2,3,4,5,6,15,16,25,37,58,72] rfl ?_;refine aG rfl rfl (fun h5k=>?_) (fun h5k=>?_)
           · obtain rfl:k=5:=by omega
             have hone:kids.length=1:=by simp[sC] at hw;exact hw.1
             obtain⟨x,rfl⟩:∃x,kids=[x]:=by match kids,hone with| [x],_=>exact⟨x,rfl⟩
             have hkn1:kn=1:=by simpa using hkn.symm
             have hszx:nE x<=gw [x]:=by simp[gw]
             have hwx:sC x=true:=by simpa [sD] using hwl
             have hlay:lay (.mk 5 s [x]) ss to=((lay x (ss++[⟨0,0,[],0⟩]) ss.length).1.set ss.length ⟨0,0,[(lay x (ss++[⟨0,0,[],0⟩]) ss.length).2,to],0⟩,(lay x (ss++[⟨0,0,[],0⟩]) ss.length).2):=by rw[lay];simp[cC]
             rw[hlay];refine xr func114 rfl ?_;refine xp rfl (af H.lU rfl (q3.cell (i:=0) rfl)) ?_;refine xp rfl (aS (H.FL ) rfl) ?_;refine xo rfl (aj (vs:=[_,_]) func115 rfl H.s5 rfl (ah.aX (mS (O:=O) (to:=[]) hn3 hO3 (ck.nil _ _ _) (by omega)))) ?_;rintro _ h5 ⟨v5,rfl,hn5,nx5⟩;have hz5:=nx5.ext.size;have hz0:=e03.size;have q3':=q3.ext nx5.ext (hnM _ (Nat.le_refl _));have q4':=q4.ext nx5.ext (hnM _ (by omega));have q5':=q5.ext nx5.ext (hnM _ (by omega));have hsl5:ck rF h5 (eK nb v5) (.slice oa kn kc) [x]:=hsl3.mv nx5.IQ;obtain⟨oa',n',c',hv',_,_,_,hget⟩:=id hsl5;cases hv';obtain⟨b,o,cs,ha,hob,hrow,hnd⟩:=hget 0 x rfl;obtain⟨w2,rfl,-⟩:=hnd.open;have hown5:=hn5.own
             have hnM5:∀b,h.size<=b->b<h3.size->¬(eK nb v5 b\/h5.size<=b):=by
              rintro b hb hb' ((k1|k1)|k1)
              · omega
              · rcases nx5.own b k1.symm with k2|k2
                · have:=hown b k2;omega
                · omega
              · omega
             have hbM:¬(eK nb v5 b\/h5.size<=b):=by
              rintro(k1|k1)
              · exact hob k1
              · have:=iC hrow (by simp[dV]);omega
             have m3:=hnM5 h.size (Nat.le_refl _) (by omega);have m4:=hnM5 h1.size (by omega) (by omega);refine aR 1 [0,1,2,3,4,5,6,12,15,16,25,37,58,72] rfl ?_;refine aq rfl ?_;refine bV (fun b=>eK nb v5 b\/Array.size h5<=b) (fun i=>Nat.blt i 8) (sz:=8) (listed:= #[false,false,false,false,false,false,false,false]) func114 H.mixed rfl rfl rfl ?_;refine bg 0 1 (by kernel_rfl) rfl (fun h' e=>af H.lU rfl (e.cell m3 (q3'.cell (i:=0) rfl))) ?_;refine bg 1 3 (by kernel_rfl) rfl (fun h' e=>aa (off:=5) underlying143 rfl rfl H.yL rfl) ?_;refine bg 2 7 (by kernel_rfl) rfl (fun h' e=>af H.uK rfl (e.cell m4 (q4'.cell (i:=5) rfl))) ?_;refine bg 3 15 (by kernel_rfl) rfl (fun h' e=>ak.aF underlying141 H.cg rfl rfl 0 rfl ha (by omega)) ?_;refine bg 4 31 (by kernel_rfl) rfl (fun h' e=>ak.au H.eR H.cg rfl (e.rowAt hbM hrow) (by first|rfl|(simp;done)|(simp;omega))) ?_;refine bE 5 63 (by kernel_rfl) rfl ?_;refine dJ 6 127 (by kernel_rfl) rfl (aj (vs:=[_,_,_]) func114 rfl H.vY rfl (ah.aX (ih (x:=x) (O:=O) (to:=ss.length) (by omega) hn5 (fun b hb=>by have:=hO3 b hb;omega) hnd hwx (by simp;omega)))) ?_;rintro _ h6 ⟨v6,rfl,hn6,nx6⟩;refine⟨fun _=>nx6.ext.mono (fun b _ k=>k.elim .inl (fun k=>k.elim)),?_⟩;have hz6:=nx6.ext.size;have nx36:=nx5.trans nx6 (fun _ _ k=>k);have q3':=q3.ext nx36.ext (hnM _ (Nat.le_refl _));have q4':=q4.ext nx36.ext (hnM _ (by omega));have q5':=q5.ext nx36.ext (hnM _ (by omega));have hown6:=hn6.own;have hlen6:=fO x (ss++[⟨0,0,[],0⟩]) ss.length;rw[List.length_append,List.length_singleton] at hlen6;have hpre:(lay x (ss++[⟨0,0,[],0⟩]) ss.length).1[ss.length]? =some ⟨0,0,[],0⟩:=by rw[kY x _ _ _ (by simp)];simp
             have hn6c:=hn6.blk.cell (i:=0) rfl
             have hnM6:∀b,h.size<=b->b<h3.size->¬(eK nb v6 b\/h6.size<=b):=by
              rintro b hb hb' ((k1|k1)|k1)
              · omega
              · rcases nx36.own b k1.symm with k2|k2
                · have:=hown b k2;omega
                · omega
              · omega
             have hnew6:∀t,ck gI (h6.push (.cells #[.int .i64 ((lay x (ss++[⟨0,0,[],0⟩]) ss.length).2:Nat),.int .i64 (to:Nat)] t)) (fun b=>dw v6.ownBlock b\/b=nb\/O b) (.slice (some ⟨h6.size,0,none⟩) 2 2) [(lay x (ss++[⟨0,0,[],0⟩]) ss.length).2,to]:=fun t=>Kw t _ _ (by
              rintro(k1|k1|k1)
              · have:=hown6 _ k1.symm;omega
              · omega
              · have:=hO3 _ k1;omega)
             generalize hout:lay x (ss++[⟨0,0,[],0⟩]) ss.length=out at *;have hn7:cu (h6.push (.cells #[.int .i64 (out.2:Nat),.int .i64 (to:Nat)] 3)) O nb v6 out.1 st:=hn6.ax (Ext.push _ _ _) (fun _ _ k=>k);obtain⟨g,c6,cs6,hv6,hg1,hg2,hg3,hg4,hg5,hg6⟩:=hn7.row.put hpre;obtain⟨w6,rfl,_⟩:=hg5;subst hv6;have hput:=hg6 5 (.slice (some ⟨h6.size,0,none⟩) 2 2) ⟨0,0,[out.2,to],0⟩ (by decide) ⟨_,rfl,hnew6 _⟩;have hgb:h6.size=g\/g<h6.size:=by have:=hown6 g rfl;omega
             have hg6':g<h6.size:=(hown6 g rfl).2;have hcell7:cellAt (h6.push (.cells #[.int .i64 (out.2:Nat),.int .i64 (to:Nat)] 3)) ⟨g,0+ss.length*7+5,none⟩=some w6:=hg3 5 _ rfl;have m6:=hnM6 h1.size (by omega) (by omega);have j4:¬h1.size=g:=fun k=>m6 (.inl (.inr (by rw[k];rfl)))
             have j3:¬h6.size<=h.size:=by omega
             have j0:¬h6.size<=nb:=by omega
             have j5:¬h6.size<=h2.size:=by omega
             refine bE 7 255 (by kernel_rfl) rfl ?_;refine aQ (by kernel_rfl) ?_;refine xu [0,1,2,3,4,5,6,12,13,15,16,25,37,58,72] rfl ?_;refine aq rfl ?_;refine bV (fun b=>Array.size h6<=b) (fun i=>Nat.blt i 10) (sz:=11) (listed:= #[false,false,false,false,false,false,false,false,false,false,false]) func114 H.mixed rfl rfl rfl ?_;refine bg 0 1 (by kernel_rfl) rfl (fun h' e=>af H.lU rfl (e.cell j3 (q3'.cell (i:=0) rfl))) ?_;refine bE 1 3 (by kernel_rfl) rfl ?_;refine bg 2 7 (by kernel_rfl) rfl (fun h' e=>aa (off:=0) underlying139 rfl rfl H.gx rfl) ?_;refine bg 3 15 (by kernel_rfl) rfl (fun h' e=>af H.iG rfl (e.cell j0 hn6c)) ?_;refine bE 4 31 (by kernel_rfl) rfl ?_;refine bE 5 63 (by kernel_rfl) rfl ?_;refine bg 6 127 (by kernel_rfl) rfl (fun h' e=>af H.bC rfl (e.cell j5 (q5'.cell (i:=0) rfl))) ?_;refine dJ 7 255 (by kernel_rfl) rfl (av.bD (us:=[_,_]) underlying44 H.nH rfl rfl (by decide) (by simp[Value.oneCell'])) ?_;rintro _ _ ⟨rfl,rfl⟩;refine⟨fun _=>by first|exact Ext.push _ _ _|assumption,?_⟩;refine dJ 8 511 (by kernel_rfl) rfl (ak.aX (ak.aF underlying137 H.lK rfl rfl ss.length rfl rfl (by omega))) ?_;rintro _ hq_ ⟨rfl,hqe_⟩;replace hqe_:=hqe_.symm;subst hqe_;refine⟨fun _=>Ext.refl _ _,?_⟩;refine bg 9 1023 (by kernel_rfl) rfl (fun h' e=>aa (off:=5) underlying149 rfl rfl H.fT rfl) ?_;refine ie 10 2047 (by kernel_rfl) rfl (cn H.fT rfl rfl rfl hcell7 (hg4 _)) ?_;rintro _ _ ⟨rfl,rfl⟩;refine⟨fun hk=>(nomatch hk),?_⟩;refine aQ (by kernel_rfl) ?_;refine xu [0,1,2,3,4,5,6,12,13,15,16,25,37,58,72] rfl ?_;refine aq rfl ?_;refine xr func114 rfl ?_;refine xp rfl (aa (off:=0) underlying143 rfl rfl H.aP rfl) ?_;have hz7:∀u,(dS (h6.push (.cells #[.int .i64 (out.2:Nat),.int .i64 (to:Nat)] 3)) ⟨g,0+ss.length*7+5,none⟩ u).size=h6.size+1:=fun u=>by rw[iY];simp
             have ex7:∀u,Ext (fun b=>b=g) h6 (dS (h6.push (.cells #[.int .i64 (out.2:Nat),.int .i64 (to:Nat)] 3)) ⟨g,0+ss.length*7+5,none⟩ u):=fun u=>⟨by rw[hz7];omega,fun b hb hn=>by rw[(Ext.dS (M:=fun b=>b=g) _ _ u rfl).block b (by simp;omega) hn,(Ext.push (fun _=>False) h6 _).block b hb (fun k=>k)]⟩
             refine xp rfl (af H.bC rfl ((q4'.ext (ex7 _) j4).cell (i:=0) rfl)) ?_;refine aR 1 [0,1,2,3,4,5,6,12,13,15,16,25,37,58,72,97] rfl ?_;refine aO rfl rfl (fun _=>?_) (fun hc=>absurd hc (by decide));refine aY func114 2 [0,1,2,3,4,5,6,12,13,15,16,25,37,58,72,97] rfl ?_;refine aK func114 rfl rfl ?_;exact⟨_,rfl,_,rfl,⟨hn6.blk.ext (ex7 _) (by have:=hown6 g rfl;omega),hput⟩,((nx3.trans nx36 (fun _ _ k=>k)).trans ⟨(ex7 _).mono (fun b _ k=>.inl (.inr (by rw[k];rfl))),fun b k=>.inl k⟩ (fun _ _ k=>k))⟩
           · have h5k':¬k=5:=kk h5k;have hlay:lay (.mk k s kids) ss to=(ss,to):=by rw[lay];simp[h1k',h2k',h3k',h4k',h5k',h6k']
             rw[hlay];refine aA rfl ?_;refine G.aT ?_;refine xr func114 rfl ?_;refine xp rfl (af H.bC rfl (q5.cell (i:=0) rfl)) ?_;refine aR 1 [0,1,2,3,4,5,6,15,16,25,37,58,72] rfl ?_;refine aK func114 rfl rfl ?_;exact⟨_,rfl,v,rfl,hn3,nx3⟩
theorem E5:∀n,F4 n
 | 0=>by
  intro hs;have:=B5 ‹Nd›;omega
 |n+1=>E6 (E5 n)
def yy:iN By:=.flat (fun s=>.string (bs s)) fun _=>rfl
def wP (h h':ay) (rules:List By) (r:Value):Prop :=
 match eX rules with
 |.inl e=>r= .tuple #[.pointer none,.int .i64 e]
 |.inr (ss,st)=>∃nb v,r= .tuple #[.pointer (some ⟨nb,0,none⟩),.int .i64 0]/\h.size<=nb/\cu h' (fun b=>b<h.size) nb v ss st
theorem FT (i:Nat) (hn:cu h O nb v ss st) (hO:∀b,O b->b<h.size) (hl:ss.length<=1000000) :
 ah Tryz.prog 115 #[.pointer (some ⟨nb,0,none⟩),.agg #[.int .i64 2,.int .u64 0,.int .u64 0,.int .u64 0,.int .u64 0,.slice none 0 0,.int .i64 (i:Nat)]] h (bX (G1 O nb h v st (ss++[⟨2,0,[],i⟩],ss.length))):=by
 have h1:=yo (x:=⟨2,0,[],i⟩) hn hO ⟨.slice none 0 0,rfl,ck.nil _ _ _⟩ hl;simp only[CX,HF] at h1;exact h1
theorem Bf {lim:Nat}(hg:Sg h lim) (hlim:lim<=h.size){rv:Value}(hr:ck yy h (fun _=>False) rv rules) (hrl:∀s∈rules,s.length<=1000000) :
 ah Tryz.prog 101 #[rv] h (bX fun r h'=>wP h h' rules r/\aD h h'):=by
 obtain⟨oa,kn,kc,rfl,hsl⟩:=id hr.open;have hkn:=hsl.len;have hkc:=hsl.le;have hcap:=hsl.cap;generalize htgt:ku 0 rules [] []=tgt;refine ah.of func101 rfl rfl ?_;refine aY func101 2 [0,2,3] rfl ?_;refine aq rfl ?_;refine aq rfl ?_;refine G.bu [(18,.bool (decide (kn=0\/64<kn)))] [(0,_),(2,_),(3,_)] ⟨rfl,rfl,rfl,trivial⟩ func101 rfl ?_ ?_
 · refine cy 1 rfl rfl (ak.aJ underlying24 rfl) ?_;refine aU 2 rfl ?_;refine aH (d:=14) rfl (fun hg=>?_) (fun hg=>?_)
   · refine aU 4 rfl ?_;refine aB rfl ?_;exact⟨rfl,az rfl (by have:=of_decide_eq_true hg;simp;omega),rfl,rfl,rfl,trivial⟩
   · refine cy 1 rfl rfl (ak.aJ underlying24 rfl) ?_;refine aU 2 rfl ?_;refine aB rfl ?_;exact⟨rfl,az rfl (by have:=of_decide_eq_false hg;simp only[decide_eq_decide];omega),rfl,rfl,rfl,trivial⟩
 · refine aG rfl rfl (fun hbig=>?_) (fun hbig=>?_)
   · refine aY func101 2 [0,2,3,18] rfl ?_;refine aK func101 rfl rfl ?_;refine⟨_,rfl,?_,Ext.refl _ _⟩;have:eX rules= .inl 2:=by unfold eX;rw[if_pos (show rules.length=0\/64<rules.length by omega)]
     rw[wP,this];rfl
   · have hmk:eX rules=match ku 0 rules [] [] with|.inl e=>.inl e|.inr (ss,t)=>if 2000<uZ rules then .inl 70 else .inr (ss++[⟨0,0,t,0⟩],ss.length):=by unfold eX;rw[if_neg (show ¬(rules.length=0\/64<rules.length) by omega)];rfl
     rw[htgt] at hmk;refine aA rfl ?_;refine xr func101 rfl ?_;refine xp rfl (aS (H.IB ) rfl) ?_;refine xo rfl (av.cS rfl) ?_;rintro _ h1 ⟨rfl,q4,e1,z1⟩;have q4:br h1 h.size 139 [.slice none 0 0,.int .i64 (0:Nat)]:=q4;have hn1:cu h1 (fun b=>b<h.size) h.size (.slice none 0 0) [] 0:=⟨q4,gO.nil _ _ _ _ _⟩
     refine aR 1 [0,2,3,4,18] rfl ?_;refine aY func101 1 [0,2,3,4,5,18] rfl ?_;refine aY func101 1 [0,2,3,4,5,6,18] rfl ?_;refine aq rfl ?_;refine bA func101 1 rfl ?_;refine xp rfl (ak.aJ underlying24 rfl) ?_;refine aR 1 [0,2,3,4,5,6,18,21,22,23] rfl ?_;refine G.block rfl rfl ?_;refine bQ (σ:=Nat×Value) (fun p=>[(4,.pointer (some ⟨h.size,0,none⟩)),(5,p.2),(6,.int .i64 (uZ (rules.take p.1):Nat)),(21,.slice oa kn kc),(22,.int .i64 (kn:Nat)),(23,.int .i64 (p.1:Nat))]) (fun p h'=>p.1<=kn/\∃v ss t,cu h' (fun b=>b<h.size\/dw p.2.ownBlock b) h.size v ss 0/\gO gI (fun _=>True) h' h1.size 3 p.2 t/\Nx (fun _=>False) h.size h1 (.slice none 0 0) h' v/\(∀b,p.2.ownBlock=some b->v.ownBlock≠some b)/\(ss.length<=402*p.1/\uZ (rules.take p.1)<=200*p.1/\t.length=p.1)/\ku p.1 (rules.drop p.1) ss t=tgt) (fun p=>kn-p.1) ((0,.slice none 0 0)) rfl ⟨rfl,rfl,rfl,rfl,rfl,rfl,trivial⟩ ⟨Nat.zero_le _,_,[],[],hn1.ax (Ext.refl _ _) (fun b _ k=>k.elim id (fun k=>by cases k)),gO.nil _ _ _ _ _,Nx.refl,fun b hb=>(by cases hb),⟨Nat.zero_le _,by simp[uZ],rfl⟩,htgt⟩ ?_;rintro⟨i,tv⟩ g0 ⟨hi,v,ss,t,hng,htg,nxg,hdist,⟨hss,htot,htl⟩,hcon⟩ ih
     try dsimp only
     dsimp only at hi hng htg nxg hdist hss htot htl hcon;have hz0:=nxg.ext.size;have htv:∀b,tv.ownBlock=some b->h1.size<=b/\b<g0.size:=fun b hb=>by obtain⟨_,_,k,_⟩:=id htg;exact k.lt hb
     have e0g:aD h g0:=⟨by omega,fun b hb _=>(nxg.ext.block b (by omega) (by
      rintro((k|k)|k)
      · omega
      · cases k
      · exact k)).trans (e1.block b hb (fun k=>k))⟩
     have hown:=hng.own;have hnlt:=hng.blk.lt;refine aY func101 1 [4,5,6,21,22,23,24] rfl ?_;refine aq rfl ?_;refine aG rfl rfl (fun hlt=>?_) (fun hlt=>?_)
     · obtain⟨s,hs⟩:∃s,rules[i]? =some s:=⟨_,List.getElem?_eq_getElem (by omega)⟩
       have hdr:rules.drop i=s::rules.drop (i+1):=by
        obtain⟨hi',rfl⟩:=List.getElem?_eq_some_iff.1 hs;exact List.drop_eq_getElem_cons hi'
       rw[hdr,ku] at hcon;obtain⟨oa',n',c',hv',_,_,_,hget⟩:=id (hr.ax e0g);cases hv';obtain⟨b,o,cs,ha,hob,hrow,rfl⟩:=hget i s hs;refine aA rfl ?_;refine aq rfl ?_;refine G.block rfl rfl ?_;refine bA func101 1 rfl ?_;refine xp rfl (ak.aF underlying24 H.b9 rfl rfl i rfl ha (by omega)) ?_;refine xp rfl (af H.cQ rfl (hrow 0 _ rfl)) ?_;refine aR 2 [4,5,6,7,8,21,22,23,24] rfl ?_;refine bA func101 1 rfl ?_;refine xo rfl (aj (vs:=[_]) func113 rfl H.JH rfl (ah.aX (zi (hg.ext e0g (fun _ k=>k.elim)) (by omega) s (hrl s (List.mem_of_getElem? hs))))) ?_;rintro _ g1 ⟨⟨w,rfl,hnd⟩,e01⟩;refine aU 3 rfl ?_;refine xo rfl (av.aW H.jU) ?_;rintro _ g2 ⟨rfl,k9,e12,z12⟩;refine RW.bk rfl rfl rfl (av.an H.cg rfl rfl k9 (by first|rfl|(simp;done)|(simp;omega)) (by first|decide|exact of_decide_eq_true rfl|(simp;done)|(simp;omega)) (b7.one hnd)) ?_;rintro _ g3 ⟨rfl,k9',e23,z23⟩;refine aR 1 [4,5,6,7,8,9,10,21,22,23,24] rfl ?_;refine aq rfl ?_;refine aY func101 2 [4,5,6,7,8,9,10,21,22,23,24,34] rfl ?_;have k9':br g3 g1.size 143 (dV (bZ s).1.kind (bZ s).1.set w):=k9';refine aG rfl rfl (fun herr=>?_) (fun herr=>?_)
       · rw[if_pos (by exact herr)] at hcon;refine aY func101 3 [2,3,4,5,6,7,8,9,10,21,22,23,24,34] rfl ?_;refine aK func101 rfl rfl ?_;have e3:aD h g3:=(e0g.trans e01).trans (e12.only e23 (Nat.le_refl _));refine⟨_,rfl,?_,e3⟩;rw[<-hcon] at hmk;rw[wP,hmk];rfl
       · have h0:(bZ s).2=0:=by simpa using herr
         rw[if_neg (by simpa using h0)] at hcon;have hsmall:=pH h0;have hbs:=bf s;have ecc:aD g1 g3:=e12.only e23 (Nat.le_refl _);have e03:aD g0 g3:=e01.trans ecc;have hz1:=e01.size;have hz3:=ecc.size;have hz13:g1.size<g3.size:=by omega
         refine aA rfl ?_;refine aq rfl ?_;refine G.bu [(6,.int .i64 (uZ (rules.take (i+1)):Nat))] [(4,_),(5,_),(7,_),(8,_),(9,_),(10,_),(21,_),(22,_),(23,_),(24,_),(34,_)] ⟨rfl,rfl,rfl,rfl,rfl,rfl,rfl,rfl,rfl,rfl,rfl,trivial⟩ func101 rfl ?_ ?_
         · refine cy 2 rfl rfl (ak.aZ underlying9 rfl) ?_;refine xp rfl (ak.bK rfl rfl ⟨by omega,by omega⟩) ?_;refine aU 1 rfl ?_;refine aB rfl ?_;exact⟨rfl,(by show some (Value.int _ _)=some (Value.int _ _);rw[vF hs];congr 2),rfl,rfl,rfl,rfl,rfl,rfl,rfl,rfl,rfl,rfl,rfl,trivial⟩
         · have hn3:cu g3 (fun b=>b<h.size\/dw tv.ownBlock b) h.size v ss 0:=hng.ax e03 (fun _ _ k=>k);have hO3:∀b,(b<h.size\/dw tv.ownBlock b)->b<g3.size:=fun b hb=>by rcases hb with k|k;omega;(have:=htv b k.symm;omega)
           have hnd3:b7 g3 (eK h.size v) (dV (bZ s).1.kind (bZ s).1.set w) (bZ s).1:=hnd.mv ⟨ecc.size,fun b hb hn=>⟨ecc.block b hb (fun k=>k),by
            rintro(k|k)
            · exact hn (by show b<g0.size;omega)
            · exact hn (by show b<g0.size;exact(hown b k.symm).2)⟩⟩
           have hK1:¬(eK h.size v g1.size\/False):=by
            rintro((k|k)|k)
            · omega
            · have:=hown _ k.symm;omega
            · exact k
           refine bV (fun b=>¬b=Array.size g1) (fun i=>Nat.blt i 11) (sz:=11) (listed:= #[false,false,false,false,false,false,false,false,false,false,false]) func101 H.mixed rfl rfl rfl ?_;refine bE 0 1 (by kernel_rfl) rfl ?_;refine bE 1 3 (by kernel_rfl) rfl ?_;refine bg 2 7 (by kernel_rfl) rfl (fun h' e=>ak.au H.eR H.cg rfl (e.rowAt (fun k=>k rfl) k9'.row) (by first|rfl|(simp;done)|(simp;omega))) ?_;refine bE 3 15 (by kernel_rfl) rfl ?_;refine bE 4 31 (by kernel_rfl) rfl ?_;refine bg 5 63 (by kernel_rfl) rfl (fun h' e=>aS (H.DW _ _) rfl) ?_;refine dJ 6 127 (by kernel_rfl) rfl (aj (vs:=[_,_]) func115 rfl H.s5 rfl (ah.aX (FT i hn3 hO3 (by omega)))) ?_;rintro _ g4 ⟨v4,rfl,hn4,nx4⟩;refine⟨fun _=>nx4.ext.mono (fun b _ k e=>hK1 (e▸k)),?_⟩;have hz4:=nx4.ext.size
           have hK2:¬(eK h.size v4 g1.size\/False):=by
            rintro((k|k)|k)
            · omega
            · rcases nx4.own _ k.symm with k2|k2
              · exact hK1 (.inl (.inr k2.symm))
              · omega
            · exact k
           refine dJ 7 255 (by kernel_rfl) rfl (aj (vs:=[_,_,_]) func114 rfl H.vY rfl (ah.aX (E5 401 (x:=(bZ s).1) (to:=ss.length) hsmall.1 hn4 (fun b hb=>by have:=hO3 b hb;omega) (hnd3.mv nx4.IQ) hsmall.2.1 (by have:=hsmall.1;simp only[List.length_append,List.length_singleton];omega)))) ?_;rintro _ g5 ⟨v5,rfl,hn5,nx5⟩;refine⟨fun _=>nx5.ext.mono (fun b _ k e=>hK2 (e▸k)),?_⟩;have hz5:=nx5.ext.size;have nx45:Nx (fun _=>False) h.size g3 v g5 v5:=nx4.trans nx5 (fun _ _ k=>k)
           have ht5:gO gI (fun _=>True) g5 h1.size 3 tv t:=(htg.ax e03).Eb nx45.ext (fun b hb=>by
            rintro((k1|k1)|k1)
            · have:=htv b hb;omega
            · exact hdist b hb k1.symm
            · exact k1) (fun _ _ _=>trivial) (fun _ _ _=>trivial)
           obtain⟨css,hc1,hc2,hc3⟩:=id ht5;have hKt:¬dw tv.ownBlock g1.size:=fun k=>by have:=htv _ k.symm;omega
           refine dJ 8 511 (by kernel_rfl) rfl (av.bD (us:=[_]) underlying44 H.nH rfl rfl (by decide) (by simp[Value.oneCell'])) ?_;rintro _ _ ⟨rfl,rfl⟩;refine⟨fun _=>by first|exact Ext.push _ _ _|assumption,?_⟩;refine dJ 9 1023 (by kernel_rfl) rfl (av.cH underlying44 H.nH rfl rfl (hc2) rfl rfl (by first|decide|simp[Value.oneCell']) (by omega) (by decide) (by omega)) ?_;rintro t6 g6 ⟨ho6,hx6,hx6',hv6⟩;refine⟨fun _=>hx6'.mono (fun b _ k e=>hKt (e▸k)),?_⟩;refine bE 10 2047 (by kernel_rfl) rfl ?_;refine aQ (by kernel_rfl) ?_;refine xu [4,5,6,7,8,9,10,21,22,23,24,34] rfl ?_;refine G.aT ?_;refine G.bU func101 rfl ?_;refine xp rfl (ak.bK rfl rfl ⟨by omega,by omega⟩) ?_;refine aR 1 [4,5,6,7,8,9,10,21,22,23,24,34] rfl ?_;have ht6:=gO.oh hc1 hc3 ho6 hx6 hv6 (y:=(lay (bZ s).1 (ss++[(⟨2,0,[],i⟩:bR)]) ss.length).2) rfl
           have hn6:cu g6 (fun b=>b<h.size\/dw t6.ownBlock b) h.size v5 (lay (bZ s).1 (ss++[⟨2,0,[],i⟩]) ss.length).1 0:=hn5.ext hx6 (fun k=>by have:=htv _ k.symm;omega) (fun b hb k=>by
            rcases nx45.own b hb with k'|k'
            · exact hdist b k.symm k'
            · have:=htv b k.symm;omega) (fun b _ k=>.inr k) (fun b hb k=>k.imp id (fun k=>by
              rcases hv6 b k.symm with k'|k'
              · exact k'.symm
              · omega))
           have hd6:∀b,t6.ownBlock=some b->v5.ownBlock≠some b:=fun b hb k=>by
            rcases hv6 b hb with k'|k'
            · rcases nx45.own b k with k2|k2
              · exact hdist b k' k2
              · have:=htv b k';omega
            · have:=(hn5.own b k).2;omega
           have nx05:Nx (fun _=>False) h.size h1 (.slice none 0 0) g5 v5:=(nxg.trans (Nx.IP e03) (fun _ _ k=>k)).trans nx45 (fun _ _ k=>k);have nx06:Nx (fun _=>False) h.size h1 (.slice none 0 0) g6 v5:=⟨⟨by have:=hx6.size;omega,fun b hb hn=>by rw[hx6.block b (by omega) (fun k=>by have:=htv b k.symm;omega)];exact nx05.ext.block b hb hn⟩,nx05.own⟩
           have hlenl:=(fO (bZ s).1 (ss++[⟨2,0,[],i⟩]) ss.length).2;rw[List.length_append,List.length_singleton] at hlenl;have htt:=vF hs;exact ih (i+1,t6) _ _ ⟨rfl,rfl,rfl,rfl,rfl,rfl,trivial⟩ ⟨by show i+1<=kn;omega,v5,_,_,hn6,ht6,nx06,hd6,⟨by have:=hsmall.1;show _<=402*(i+1);omega,by have:=hsmall.2.2;show uZ (rules.take (i+1))<=200*(i+1);omega,by simp[htl]⟩,hcon⟩ (by show kn-(i+1)<kn-i;omega)
     · obtain rfl:i=kn:=by omega
       have hall:rules.take i=rules:=List.take_of_length_le (by omega);have hnil:rules.drop i=[]:=List.drop_of_length_le (by omega);rw[hnil,ku] at hcon;rw[<-hcon] at hmk;rw[hall] at htot;simp only[hall];refine bG rfl rfl ?_;refine aq rfl ?_;refine aY func101 2 [4,5,6,21,22,23,24,52] rfl ?_;refine aG rfl rfl (fun hbig2=>?_) (fun hbig2=>?_)
       · refine aY func101 2 [2,3,4,5,6,21,22,23,24,52] rfl ?_;refine aK func101 rfl rfl ?_;refine⟨_,rfl,?_,e0g⟩;have:eX rules= .inl 70:=by rw[hmk];exact if_pos (by omega)
         rw[wP,this];rfl
       · have hmk2:eX rules= .inr (ss++[⟨0,0,t,0⟩],ss.length):=by rw[hmk];exact if_neg (by omega)
         have hrd:ck gI g0 (fun b=>eK h.size v b\/b<h.size) tv t:=htg.EF (fun b hb=>by
          rintro((k1|k1)|k1)
          · have:=htv b hb;omega
          · exact hdist b hb k1.symm
          · have:=htv b hb;omega) (fun _ _ _=>trivial)
         obtain⟨oa9,n9,c9,rfl,_⟩:=id hrd;refine aA rfl ?_;refine bA func101 3 rfl ?_;refine xp rfl (aS (H.yl _ _ _) rfl) ?_;refine xo rfl (aj (vs:=[_,_]) func115 rfl H.s5 rfl (ah.aX (mS (O:=fun b=>b<h.size) (to:=t) (hng.ax (Ext.refl _ _) (fun b _ k=>.inl k)) (fun b hb=>by omega) hrd (by omega)))) ?_;rintro _ g4 ⟨v4,rfl,hn4,nx4⟩;refine cy 1 rfl rfl (aa (off:=1) underlying139 rfl rfl H.aP rfl) ?_;refine RW.bk rfl rfl rfl (av.aE H.aP rfl rfl hn4.blk (by first|decide|exact of_decide_eq_true rfl|(simp;done)|(simp;omega)) rfl) ?_;rintro _ g5 ⟨rfl,hk5,hx5,hz5⟩;refine xd [4,5,6,21,22,23,24,52] rfl ?_;refine aY func101 3 [2,3,4,5,6,21,22,23,24,52] rfl ?_;refine aK func101 rfl rfl ?_;have hn5:cu g5 (fun b=>b<h.size) h.size v4 (ss++[⟨0,0,t,0⟩]) ss.length:=⟨hk5,hn4.row.Eb hx5 (fun b hb k=>by have:=(hn4.own b hb).1;omega) (fun b _ k=>.inl k) (fun b _ k=>k)⟩
         have e4:aD h g5:=⟨by have:=hx5.size;have:=nx4.ext.size;omega,fun b hb _=>by
          rw[hx5.block b (by have:=nx4.ext.size;omega) (by omega),nx4.ext.block b (by omega) ?_]
          · exact e0g.block b hb (fun k=>k)
          · rintro((k|k)|k)
            · omega
            · rcases nxg.own b k.symm with k2|k2
              · cases k2
              · omega
            · exact k⟩
         refine⟨_,rfl,?_,e4⟩;rw[wP,hmk2];exact⟨h.size,v4,rfl,Nat.le_refl _,hn5⟩
theorem om (hn:cu h O nb v ss st):ah Tryz.prog 137 #[.pointer (some ⟨nb,0,none⟩)] h (bX fun r h'=>r= .bool (decide (ss.length=0))/\h'=h):=by
 obtain⟨css,hc1,hc2,hc3⟩:=id hn.row;obtain⟨oa,c,rfl,_⟩:=hc2.open;refine ah.of func137 rfl rfl ?_;refine aY func137 1 [0,2] rfl ?_;refine aq rfl ?_;refine G.bu [(2,.bool (decide (ss.length=0)))] [(0,_)] ⟨rfl,trivial⟩ func137 rfl ?_ ?_
 · refine cy 1 rfl rfl (ak.qC underlying112 rfl rfl) ?_;refine aU 1 rfl ?_;refine RW.dn (d:=5) (b':=false) rfl (rfl) ?_;refine cy 2 rfl rfl (aa (off:=0) underlying139 rfl rfl H.gx rfl) ?_;refine xp rfl (af H.iG rfl (hn.blk.cell (i:=0) rfl)) ?_;refine xp rfl (ak.aJ underlying137 rfl) ?_;refine aU 3 rfl ?_;refine aB rfl ?_;exact⟨rfl,az rfl (by simp only[decide_eq_decide];omega),rfl,trivial⟩
 · refine aK func137 rfl rfl ?_;exact⟨_,rfl,rfl,rfl⟩
theorem EJ {base:Nat}{t:TypeId}{m:Nat}(k:cL cW h base t v todo) (hm:todo.length=m+1) :
 ∃g c x,v= .slice (some ⟨g,0,none⟩) (m+1) c/\m+1<=c/\g<h.size/\base<=g/\cellAt h ⟨g,0+m*1,none⟩=some (.int .i64 (x:Nat))/\todo=todo.dropLast++[x] /\
  cL cW h base t (.slice (cI (some ⟨g,0,none⟩) 0 1 c) m c) todo.dropLast/\(Value.slice (cI (some ⟨g,0,none⟩) 0 1 c) m c).ownBlock=some g:=by
 have k':aN h base t 1 v todo.length (todo.map cW):=k;obtain⟨oa,c,rfl,ho⟩:=k'.open;have hne:todo≠[]:=by intro e;rw[e] at hm;cases hm
 have hlast:todo=todo.dropLast++[todo.getLast hne]:=(List.dropLast_concat_getLast hne).symm
 have hx:(todo.map cW)[m]? =some (cW (todo.getLast hne)):=by
  rw[List.getElem?_map,List.getLast_eq_getElem,List.getElem?_eq_getElem (by omega)];simp[hm]
 obtain⟨g,rfl,hb,hlt,hc,_⟩:=ho.at hx;have ht:=ho.take (m:=m) (by omega) 1
 have hd:(todo.map cW).take (m*1)=todo.dropLast.map cW:=by
  rw[Nat.mul_one,List.dropLast_eq_take,hm,Nat.add_sub_cancel,List.map_take]
 rw[hd] at ht;refine⟨g,c,todo.getLast hne,by rw[hm],by have:=ho.le;omega,hlt,hb,hc,hlast,?_,?_⟩
 · have hl:todo.dropLast.length=m:=by simp[hm]
   unfold cL;rw[hl];exact ht
 · unfold cI;split<;>simp[Value.ownBlock,Addr.add]
theorem cu.get (k:cu h O nb v ss st) (hx:ss[i]? =some x) :
 ∃g c w,v= .slice (some ⟨g,0,none⟩) ss.length c/\g<h.size/\Lw.rowAt h g (0+i*7) (CX x.kind x.set w x.rule)/\ck gI h (fun b=>dw v.ownBlock b\/b=nb\/O b) w x.to:=by
 obtain⟨g,c,cs,rfl,_,hg,hrow,_,⟨w,rfl,hw⟩,_⟩:=k.row.put hx;exact⟨g,c,w,rfl,hg,hrow,hw⟩
theorem Ay {oa:Option Addr}{c:Nat}{xs:List Nat}(k:ck gI h O (.slice oa n c) xs):xs.length=n/\(n=0\/∃b o,oa=some ⟨b,o,none⟩/\Lw.rowAt h b o (xs.map cW))/\n<=maxLen:=by
 obtain⟨oa',n',c',hv,hl,hc,hm,hg⟩:=k;cases hv;have hs:Sl gI h O oa n c xs:=⟨hl,hc,hm,hg⟩
 exact⟨hl,Sl.row hs,by omega⟩
theorem BF (ht:todo.getLast? =some i) (hs:seen[i]? =some true):iP ss (n+1) todo seen=iP ss n todo.dropLast seen:=by
 rw[iP,ht];simp[hs]
theorem DT (ht:todo.getLast? =some i) (hs:seen[i]? =some false) (hx:ss[i]? =some x):iP ss (n+1) todo seen=iP ss n (if x.kind=0 then todo.dropLast++x.to else todo.dropLast) (seen.set i true):=by
 rw[iP,ht];simp[hs,hx]
theorem DS:iP ss n [] seen=seen:=by cases n<;>simp[iP]
def D9 (ss:List bR) (seen:List Bool) (i:Nat):Bool:=seen[i]? ==some true && (ss[i]?.map (·.kind)) !=some 0
theorem qb {tv:Value}{base:Nat}{tb:Option Nat}(hn:cu h O nb v ss st) (hgood:Good ss) (hss:ss.length<=1000000) (htd:cL cW h base 3 tv todo) (htb:tv.ownBlock=tb)
 (hbase:base<=h.size) (hOt:∀b,tb=some b->O b/\b≠nb/\v.ownBlock≠some b) (hlt:∀j∈todo,j<ss.length) (hpot:todo.length+qW ss (List.replicate ss.length false)<=1000000) :
 ah Tryz.prog 138 #[.pointer (some ⟨nb,0,none⟩),tv] h (bX fun r h'=>cL cW h' h.size 3 r (closed ss todo)/\Ext (dw tb) h h'):=by
 obtain⟨css,hc1,hc2,hc3⟩:=id hn.row;obtain⟨va,vc,rfl,_⟩:=hc2.open
 have htl:tb=none\/∃b,tb=some b/\b<h.size:=by
  cases tb with
  |none=>exact .inl rfl
  |some b=>exact .inr ⟨b,rfl,(aN.lt htd htb).2⟩
 obtain⟨oa,c,rfl,_⟩:=(show aN h base 3 1 tv todo.length (todo.map cW) from htd).open;generalize htgt:iP ss (todo.length+qW ss (List.replicate ss.length false)) todo (List.replicate ss.length false)=tgt;refine ah.of func138 rfl rfl ?_;refine aY func138 1 [0,1,4] rfl ?_;refine aq rfl ?_;refine bA func138 1 rfl ?_;refine xp rfl (ak.aJ underlying44 rfl) ?_;refine aR 1 [0,1,4,12] rfl ?_;refine aG rfl rfl (fun hz=>?_) (fun hz=>?_)
 · refine aY func138 1 [0,1,4,12] rfl ?_;refine aK func138 rfl rfl ?_;have:closed ss todo=[]:=by unfold closed;rw[if_pos (by omega)]
   rw[this];exact⟨_,rfl,cL.nil _ _ _ _,Ext.refl _ _⟩
 · refine aA rfl ?_;refine bA func138 2 rfl ?_;refine xp rfl (aa (off:=0) underlying139 rfl rfl H.gx rfl) ?_;refine xp rfl (af H.iG rfl (hn.blk.cell (i:=0) rfl)) ?_;refine xp rfl (ak.aJ underlying137 rfl) ?_;refine xo rfl (av.pM underlying25 H.JW H.Lb rfl rfl rfl (by omega) (by decide)) ?_;rintro _ h1 ⟨rfl,hk1,e1⟩;refine aR 1 [0,1,4,5,12] rfl ?_;refine aq rfl ?_;refine G.block rfl rfl ?_;refine bQ (σ:=Nat×Value×List Nat×List Bool) (fun q=>[(0,.pointer (some ⟨nb,0,none⟩)),(1,q.2.1),(5,.slice (some ⟨h.size,0,none⟩) ss.length ss.length)]) (fun q h'=>Ext (dw tb) h h'/\cL cW h' base 3 q.2.1 q.2.2.1/\(∀b,q.2.1.ownBlock=some b->tb=some b\/h1.size<=b)/\aN h' h.size 4 1 (.slice (some ⟨h.size,0,none⟩) ss.length ss.length) ss.length (q.2.2.2.map .bool)/\q.2.2.2.length=ss.length/\(∀j∈q.2.2.1,j<ss.length)/\(q.2.2.1.length+qW ss q.2.2.2<=q.1/\q.1<=1000000/\h1.size<=h'.size)/\iP ss q.1 q.2.2.1 q.2.2.2=tgt) (fun q=>q.1) ((todo.length+qW ss (List.replicate ss.length false),.slice oa todo.length c,todo,List.replicate ss.length false)) rfl ⟨rfl,rfl,rfl,trivial⟩ ⟨e1.mono fun _ _ k=>k.elim,aN.Fu htd e1,fun b hb=>.inl (htb.symm.trans hb),by simpa using hk1,by simp,hlt,⟨Nat.le_refl _,hpot,Nat.le_refl _⟩,htgt⟩ ?_;rintro⟨n,dv,td,seen⟩ g ⟨eg,hd,hdo,hs,hsl,hlt',⟨hp,hn1,hgz⟩,hcon⟩ ih
   try dsimp only
   dsimp only at hd hdo hs hsl hlt' hp hn1 hcon;have hz1:h.size<h1.size:=by have:=(aN.lt hk1 rfl).2;exact this
   have hsow:=hs.open;obtain⟨sa,sc,hsv,hsow⟩:=hsow;cases hsv
   rcases Nat.eq_zero_or_pos td.length with hpos|hpos
   · obtain rfl:td=[]:=List.eq_nil_of_length_eq_zero hpos;obtain⟨oad,cd,rfl,_⟩:=(show aN g base 3 1 dv ([]:List Nat).length (([]:List Nat).map cW) from hd).open;rw[DS] at hcon;refine aq rfl ?_;refine bA func138 1 rfl ?_;refine xp rfl (ak.aJ underlying44 rfl) ?_;refine aR 1 [0,1,5,21] rfl ?_;refine aO rfl rfl (fun hc=>absurd hc (by simp)) (fun _=>?_);have hnc:∀{h':ay},Ext (dw tb) h h'->cu h' O nb (.slice va ss.length vc) ss st:=fun e=>hn.ext e (fun k=>(hOt nb k.symm).2.1 rfl) (fun b hb k=>(hOt b k.symm).2.2 hb) (fun b _ k=>(hOt b k.symm).1) (fun _ _ k=>k)
     have hcl:closed ss todo=(List.range ss.length).filter (D9 ss seen):=by
      unfold closed;rw[if_neg (by omega),htgt,<-hcon];rfl
     refine bG rfl rfl ?_;refine aY func138 1 [0,1,5,7,21] rfl ?_;refine aq rfl ?_;refine bA func138 1 rfl ?_;refine xp rfl (ak.aJ underlying25 rfl) ?_;refine aR 1 [0,1,5,7,21,59,60,61] rfl ?_;refine G.block rfl rfl ?_;refine bQ (σ:=Nat×Value) (fun q=>[(0,.pointer (some ⟨nb,0,none⟩)),(7,q.2),(59,.slice (some ⟨h.size,0,none⟩) ss.length ss.length),(60,.int .i64 (ss.length:Nat)),(61,.int .i64 (q.1:Nat))]) (fun q h'=>q.1<=ss.length/\aD g h'/\cL cW h' g.size 3 q.2 ((List.range q.1).filter (D9 ss seen))) (fun q=>ss.length-q.1) ((0,.slice none 0 0)) rfl ⟨rfl,rfl,rfl,rfl,rfl,trivial⟩ ⟨Nat.zero_le _,Ext.refl _ _,cL.nil _ _ _ _⟩ ?_;rintro⟨i,ov⟩ g2 ⟨hi,e2,ho2⟩ ih2
     try dsimp only
     dsimp only at hi ho2;have eg2:Ext (dw tb) h g2:=eg.trans (e2.mono fun _ _ k=>k.elim);have hn2:=hnc eg2;have hz2:=e2.size;refine aY func138 1 [0,7,59,60,61,62] rfl ?_;refine aq rfl ?_;refine aG rfl rfl (fun hlti=>?_) (fun hlti=>?_)
     · have hil:i<ss.length:=by omega
       obtain⟨bx,hbx⟩:∃bx,seen[i]? =some bx:=⟨_,List.getElem?_eq_getElem (by omega)⟩
       obtain⟨y,hy⟩:∃y,ss[i]? =some y:=⟨_,List.getElem?_eq_getElem hil⟩
       obtain⟨sa2,sc2,hsv2,hsow2⟩:=(aN.Fu hs e2).open;cases hsv2;obtain⟨g',hg',_,hsg,hscell,hsnf⟩:=hsow2.at (i:=i) (x:=.bool bx) (by rw[List.getElem?_map,hbx];rfl);cases hg';obtain⟨gs,cs,ws,hvs,hgs,hrow,hws⟩:=hn2.get hy;cases hvs;have hlen2:((List.range i).filter (D9 ss seen)).length<=i:=by have:=List.length_filter_le (D9 ss seen) (List.range i);simpa using this
       have hnext:(List.range (i+1)).filter (D9 ss seen)=(List.range i).filter (D9 ss seen)++(if D9 ss seen i then [i] else []):=by
        rw[List.range_succ,List.filter_append];cases hpr:D9 ss seen i<;>simp[hpr]
       refine aA rfl ?_;refine aq rfl ?_;refine G.block rfl rfl ?_;refine bA func138 1 rfl ?_;refine xp rfl (ak.aF underlying25 H.vG rfl rfl i rfl rfl (by omega)) ?_;refine xp rfl (af H.F9 rfl hscell) ?_;refine aR 2 [0,7,8,9,59,60,61,62] rfl ?_;refine aq rfl ?_;refine G.bu [(77,.bool (D9 ss seen i))] [(0,_),(7,_),(8,_),(9,_),(59,_),(60,_),(61,_),(62,_)] ⟨rfl,rfl,rfl,rfl,rfl,rfl,rfl,rfl,trivial⟩ func138 rfl ?_ ?_
       · refine aU 2 rfl ?_;refine aH (d:=67) rfl (fun hg=>?_) (fun hg=>?_)
         · refine cy 2 rfl rfl (aa (off:=0) underlying139 rfl rfl H.gx rfl) ?_;refine xp rfl (af H.iG rfl (hn2.blk.cell (i:=0) rfl)) ?_;refine cy 1 rfl rfl (ak.aF underlying137 H.lK rfl rfl i rfl rfl hil) ?_;refine xp rfl (aa (off:=0) underlying149 rfl rfl H.aP rfl) ?_;refine xp rfl (af H.bC rfl (hrow 0 _ rfl)) ?_;refine aU 2 rfl ?_;refine aB rfl ?_;exact⟨rfl,az rfl (by subst hg;simp[D9,hbx,hy];by_cases hk0:y.kind=0<;>simp[hk0]),rfl,rfl,rfl,rfl,rfl,rfl,rfl,rfl,trivial⟩
         · refine aU 10 rfl ?_;refine aB rfl ?_;exact⟨rfl,az rfl (by subst hg;simp[D9,hbx]),rfl,rfl,rfl,rfl,rfl,rfl,rfl,rfl,trivial⟩
       · refine aO rfl rfl (fun hb=>?_) (fun hb=>?_)
         · rw[if_pos hb] at hnext;refine G.bU func138 rfl ?_;refine aU 2 rfl ?_;refine xo rfl (av.bD (us:=[_]) underlying44 H.nH rfl rfl (by decide) (by simp[Value.oneCell'])) ?_;rintro _ _ ⟨rfl,rfl⟩;refine xo rfl (av.cH underlying44 H.nH rfl rfl (ho2) rfl rfl (by first|decide|simp[Value.oneCell']) (by omega) (by decide) (by omega)) ?_;rintro ov3 g3 ⟨ho3,hx3,-,hv3⟩;refine aR 1 [0,7,8,9,59,60,61,62,77] rfl ?_;refine G.aT ?_;refine G.bU func138 rfl ?_;refine xp rfl (ak.bK rfl rfl ⟨by omega,by omega⟩) ?_;refine aR 1 [0,7,8,9,59,60,61,62,77] rfl ?_;have ho3':cL cW g3 g.size 3 ov3 ((List.range (i+1)).filter (D9 ss seen)):=by rw[hnext];exact cL.of (ys:=[i]) ho3 rfl rfl rfl
           have e3:aD g g3:=cL.grown e2 ho2 (Nat.le_refl _) hx3;exact ih2 (i+1,ov3) _ _ ⟨rfl,rfl,rfl,rfl,rfl,trivial⟩ ⟨by show i+1<=_;omega,e3,ho3'⟩ (by show ss.length-(i+1)<ss.length-i;omega)
         · rw[if_neg (by rw[hb];decide)] at hnext;rw[List.append_nil] at hnext;rw[<-hnext] at ho2;refine aA rfl ?_;refine G.aT ?_;refine G.bU func138 rfl ?_;refine xp rfl (ak.bK rfl rfl ⟨by omega,by omega⟩) ?_;refine aR 1 [0,7,8,9,59,60,61,62,77] rfl ?_;exact ih2 (i+1,ov) _ _ ⟨rfl,rfl,rfl,rfl,rfl,trivial⟩ ⟨by show i+1<=_;omega,e2,ho2⟩ (by show ss.length-(i+1)<ss.length-i;omega)
     · obtain rfl:i=ss.length:=by omega
       refine bG rfl rfl ?_;refine aY func138 2 [0,4,7,59,60,61,62] rfl ?_;refine aK func138 rfl rfl ?_;rw[hcl];exact⟨_,rfl,aN.lower ho2 (by omega),eg2⟩
   · obtain⟨m,hm⟩:∃m,td.length=m+1:=⟨td.length-1,by omega⟩
     obtain⟨gd,cd,x,rfl,hcd,hgd,hbd,hcell,hlast,hcut,hcb⟩:=EJ hd hm;have hgl:td.getLast? =some x:=by rw[hlast];simp
     have hxl:x<ss.length:=hlt' x (by rw[hlast];simp);have hltd:∀j∈td.dropLast,j<ss.length:=fun j hj=>hlt' j (List.dropLast_subset _ hj)
     have hdl:td.dropLast.length=m:=by simp[hm]
     obtain⟨n,rfl⟩:∃n',n=n'+1:=⟨n-1,by omega⟩
     obtain⟨bx,hbx⟩:∃bx,seen[x]? =some bx:=⟨_,List.getElem?_eq_getElem (by omega)⟩
     obtain⟨y,hy⟩:∃y,ss[x]? =some y:=⟨_,List.getElem?_eq_getElem hxl⟩
     obtain⟨g',hg',_,hsg,hscell,hsnf⟩:=hsow.at (i:=x) (x:=.bool bx) (by rw[List.getElem?_map,hbx];rfl);cases hg';refine aq rfl ?_;refine bA func138 1 rfl ?_;refine xp rfl (ak.aJ underlying44 rfl) ?_;refine aR 1 [0,1,5,21] rfl ?_;refine aO rfl rfl (fun _=>?_) (fun hc=>absurd hc (by simp only[decide_eq_false_iff_not];omega));refine aA rfl ?_;refine G.block rfl rfl ?_;refine bA func138 2 rfl ?_;refine xp rfl (ak.aJ underlying44 rfl) ?_;refine xp rfl (ak.ey rfl rfl ⟨by omega,by omega⟩) ?_;refine xp rfl (ak.aF underlying44 H.aP rfl rfl m (by omega) rfl (by omega)) ?_;refine xp rfl (af H.bC rfl hcell) ?_;refine aR 1 [0,1,5,6,21] rfl ?_;refine bA func138 2 rfl ?_;refine xp rfl (ak.aJ underlying44 rfl) ?_;refine xp rfl (ak.ey rfl rfl ⟨by omega,by omega⟩) ?_;refine xp rfl (ak.dR underlying44 H.aP rfl rfl m (by omega) (by omega)) ?_;refine aR 1 [0,1,5,6,21] rfl ?_;refine aq rfl ?_;refine bA func138 2 rfl ?_;refine xp rfl (ak.aF underlying25 H.vG rfl rfl x rfl rfl (by omega)) ?_;refine xp rfl (af H.F9 rfl hscell) ?_;refine xd [0,1,5,6,21,36] rfl ?_;refine aO rfl rfl (fun hb=>?_) (fun hb=>?_)
     · subst hb;rw[BF hgl hbx] at hcon;refine bG rfl rfl ?_;exact ih (n,_,td.dropLast,seen) _ _ ⟨rfl,rfl,rfl,trivial⟩ ⟨eg,hcut,fun b hb=>hdo b (by rw[<-hb];exact hcb▸rfl),hs,hsl,hltd,⟨by show td.dropLast.length+qW ss seen<=n;omega,by show n<=_;omega,hgz⟩,hcon⟩ (by show n<n+1;omega)
     · subst hb;rw[DT hgl hbx hy] at hcon;have hpt:=xw ss seen x y hy hbx
       have hgne:¬gd=h.size:=fun k=>by
        rcases hdo gd rfl with k2|k2
        · rcases htl with k3|⟨b3,k3,k4⟩
          · rw[k3] at k2;cases k2
          · rw[k3] at k2;cases k2;omega
        · omega
       refine aA rfl ?_;refine bA func138 2 rfl ?_;refine xp rfl (ak.aF underlying25 H.vG rfl rfl x rfl rfl (by omega)) ?_;refine RW.bk rfl rfl rfl (cn H.vG rfl rfl rfl hscell hsnf) ?_;rintro _ g2 ⟨rfl,hg2⟩;have x2:Ext (fun b=>b=h.size) g g2:=by rw[hg2];exact Ext.dS _ _ _ rfl
       have hz2:=x2.size;have eg2:Ext (dw tb) h g2:=⟨by omega,fun b hb hn=>by rw[x2.block b (by omega) (by omega)];exact eg.block b hb hn⟩
       have hs2:aN g2 h.size 4 1 (.slice (some ⟨h.size,0,none⟩) ss.length ss.length) ss.length ((seen.set x true).map .bool):=by
        have k:=(hsow.set (i:=x) rfl hxl (.bool true)).own;rw[<-hg2] at k;rw[List.map_set];exact k
       have hcut2:aN g2 base 3 1 _ td.dropLast.length (td.dropLast.map cW):=aN.ext x2 hcut (fun b hb k=>hgne (by have:=hcb.symm.trans hb;cases this;exact k));have hn2:cu g2 O nb _ ss st:=hn.ext eg2 (fun k=>(hOt nb k.symm).2.1 rfl) (fun b hb k=>(hOt b k.symm).2.2 hb) (fun b _ k=>(hOt b k.symm).1) (fun _ _ k=>k);obtain⟨gs,cs,ws,hvs,hgs,hrow,hws⟩:=hn2.get hy;cases hvs;have hsl2:(seen.set x true).length=ss.length:=by simpa using hsl
       refine xd [0,1,5,6,21,36] rfl ?_;refine bA func138 2 rfl ?_;refine xp rfl (aa (off:=0) underlying139 rfl rfl H.gx rfl) ?_;refine xp rfl (af H.iG rfl (hn2.blk.cell (i:=0) rfl)) ?_;refine cy 1 rfl rfl (ak.aF underlying137 H.lK rfl rfl x rfl rfl hxl) ?_;refine xp rfl (aa (off:=0) underlying149 rfl rfl H.aP rfl) ?_;refine xp rfl (af H.bC rfl (hrow 0 _ rfl)) ?_;refine aR 1 [0,1,5,6,21,36,48] rfl ?_;refine aG rfl rfl (fun hk=>?_) (fun hk=>?_)
       · rw[if_pos (by omega)] at hcon;obtain⟨wa,wn,wc,rfl,_⟩:=id hws;obtain⟨hwl,hwn,hwm⟩:=Ay hws;rw[hdl] at hcut2;refine G.bU func138 rfl ?_;refine cy 3 rfl rfl (aa (off:=0) underlying139 rfl rfl H.gx rfl) ?_;refine xp rfl (af H.iG rfl (hn2.blk.cell (i:=0) rfl)) ?_;refine cy 1 rfl rfl (ak.aF underlying137 H.lK rfl rfl x rfl rfl hxl) ?_;refine xp rfl (aa (off:=5) underlying149 rfl rfl H.fT rfl) ?_;refine xp rfl (af H.lE rfl (hrow 5 _ rfl)) ?_;refine xo rfl (av.append underlying44 H.nH rfl rfl hcut2 (by simp[hwl]) hwn (by intro u hu;simp at hu;obtain⟨j,_,rfl⟩:=hu;rfl) (by simp only[maxLen];omega) (by omega) (by omega)) ?_;rintro dv3 g3 ⟨hd3,ex3,-,ho3⟩;refine aR 1 [0,1,5,6,21,36,48] rfl ?_;refine G.aT ?_;have hz3:=ex3.size;rw[hcb] at ex3 ho3
         have hd3':cL cW g3 base 3 dv3 (td.dropLast++y.to):=by
          unfold cL;rw[List.length_append,hdl,hwl,List.map_append];exact hd3
         have hdo3:∀b,dv3.ownBlock=some b->tb=some b\/h1.size<=b:=fun b hb=>by
          rcases ho3 b hb with k|k
          · exact hdo b k
          · exact .inr (by omega)
         have eg3:Ext (dw tb) h g3:=⟨by omega,fun b hb hn=>by
          rw[ex3.block b (by omega) ?_]
          · exact eg2.block b hb hn
          · intro k;cases k
            rcases hdo gd rfl with k2|k2
            · exact hn k2.symm
            · omega⟩
         have hgood':∀j∈td.dropLast++y.to,j<ss.length:=fun j hj=>by
          rcases List.mem_append.1 hj with k|k
          · exact hltd j k
          · exact hgood y (List.mem_of_getElem? hy) j k
         exact ih (n,dv3,td.dropLast++y.to,seen.set x true) _ _ ⟨rfl,rfl,rfl,trivial⟩ ⟨eg3,hd3',hdo3,aN.ext ex3 hs2 (fun b hb k=>by cases k;cases hb;exact hgne rfl),hsl2,hgood',⟨by show (td.dropLast++y.to).length+qW ss (seen.set x true)<=n;rw[List.length_append];omega,by show n<=_;omega,by show h1.size<=g3.size;omega⟩,hcon⟩ (by show n<n+1;omega)
       · rw[if_neg (by omega)] at hcon;refine aA rfl ?_;refine G.aT ?_;exact ih (n,_,td.dropLast,seen.set x true) _ _ ⟨rfl,rfl,rfl,trivial⟩ ⟨eg2,hcut2,fun b hb=>hdo b (by rw[<-hb];exact hcb▸rfl),hs2,hsl2,hltd,⟨by show td.dropLast.length+qW ss (seen.set x true)<=n;omega,by show n<=_;omega,by show h1.size<=g2.size;omega⟩,hcon⟩ (by show n<n+1;omega)
theorem yP (hn:cu h O nb v ss st) (hgood:Good ss) (hss:ss.length<=1000000) (hst:ss.length=0\/st<ss.length) (hpot:1+qW ss (List.replicate ss.length false)<=1000000) :
 ah Tryz.prog 117 #[.pointer (some ⟨nb,0,none⟩)] h (bX fun r h'=>cL cW h' h.size 3 r (cF ss st)/\aD h h'):=by
 have hown:=hn.own;have hnlt:=hn.blk.lt;refine ah.of func117 rfl rfl ?_;refine aY func117 1 [0,2] rfl ?_;refine aq rfl ?_;refine bA func117 1 rfl ?_;refine xo rfl (aj (vs:=[_]) func137 rfl H.ER rfl (ah.aX (om hn))) ?_;rintro _ h0 ⟨rfl,hh0⟩;refine xd [0,2,4] rfl ?_;subst hh0;refine aG rfl rfl (fun hz=>?_) (fun hz=>?_)
 · refine aY func117 1 [0,2,4] rfl ?_;refine aK func117 rfl rfl ?_;rw[cF,if_pos hz];exact⟨_,rfl,cL.nil _ _ _ _,Ext.refl _ _⟩
 · have hn1:cu (h0.push (.cells #[.int .i64 (st:Nat)] 3)) (fun b=>O b\/b=h0.size) nb v ss st:=hn.ax (Ext.push _ _ _) (fun b hb k=>k.elim id (fun k=>by omega));have ho1:cL cW (h0.push (.cells #[.int .i64 (st:Nat)] 3)) h0.size 3 (.slice (some ⟨h0.size,0,none⟩) 1 1) [st]:=uQ cW h0 3 [st] 1 rfl (by simp[maxLen]) h0.size (Nat.le_refl _) rfl;refine aA rfl ?_;refine bA func117 3 rfl ?_;refine xp rfl (aa (off:=1) underlying139 rfl rfl H.aP rfl) ?_;refine xp rfl (af H.bC rfl (hn.blk.cell (i:=1) rfl)) ?_;refine xo rfl (av.bD (us:=[_]) underlying44 H.nH rfl rfl (by decide) (by simp[Value.oneCell'])) ?_;rintro _ _ ⟨rfl,rfl⟩;refine xo rfl (aj (vs:=[_,_]) func138 rfl H.Hv rfl (ah.aX (qb (tb:=some h0.size) hn1 hgood hss ho1 rfl (by simp) (fun b hb=>by cases hb;exact⟨.inr rfl,by omega,fun k=>by have:=(hown _ k).2;omega⟩) (fun j hj=>by simp at hj;omega) hpot))) ?_;rintro _ h2 ⟨ho2,hx2⟩;refine aR 1 [0,2,4] rfl ?_;refine aK func117 rfl rfl ?_;rw[cF,if_neg hz];have hps:(h0.push (.cells #[.int .i64 (st:Nat)] 3)).size=h0.size+1:=by simp
   refine⟨_,rfl,aN.lower ho2 (by omega),⟨by have:=hx2.size;omega,fun b hb _=>?_⟩⟩;rw[hx2.block b (by omega) (fun k=>by cases k;omega)];exact(Ext.push (fun _=>False) h0 _).block b hb (fun k=>k)
theorem vw {nv:Value}{now:List Nat}(hn:cu h O nb v ss st) (_hss:ss.length<=1000000) (hnow:ck gI h (fun _=>False) nv now) (hlt:∀j∈now,j<ss.length) (hnn:now.length<=1000000) :
 ah Tryz.prog 120 #[.pointer (some ⟨nb,0,none⟩),nv] h (bX fun r h'=>r= .int .i64 (bL ss now)/\h'=h):=by
 obtain⟨css,hc1,hc2,hc3⟩:=id hn.row;obtain⟨va,vc,rfl,_⟩:=hc2.open;obtain⟨na,nn,nc,rfl,hnl,hnc,hnm,hget⟩:=id hnow;generalize htgt:qj ss now (-1)=tgt;refine ah.of func120 rfl rfl ?_;refine aY func120 1 [0,1,4] rfl ?_;refine aY func120 1 [0,1,4,5] rfl ?_;refine aq rfl ?_;refine bA func120 1 rfl ?_;refine xo rfl (aj (vs:=[_]) func137 rfl H.ER rfl (ah.aX (om hn))) ?_;rintro _ h0 ⟨rfl,hh0⟩;refine xd [0,1,4,5,9] rfl ?_;subst hh0;refine aG rfl rfl (fun hz=>?_) (fun hz=>?_)
 · refine aY func120 2 [0,1,4,5,9] rfl ?_;refine aK func120 rfl rfl ?_;rw[bL,if_pos hz];exact⟨_,rfl,rfl,rfl⟩
 · refine aA rfl ?_;refine aq rfl ?_;refine bA func120 1 rfl ?_;refine xp rfl (ak.aJ underlying44 rfl) ?_;refine aR 1 [0,1,4,5,9,11,12,13] rfl ?_;refine G.block rfl rfl ?_;refine bQ (σ:=Nat×Int) (fun q=>[(0,.pointer (some ⟨nb,0,none⟩)),(5,.int .i64 q.2),(11,.slice na nn nc),(12,.int .i64 (nn:Nat)),(13,.int .i64 (q.1:Nat))]) (fun q h'=>h'=h0/\q.1<=nn/\qj ss (now.drop q.1) q.2=tgt) (fun q=>nn-q.1) ((0,-1)) rfl ⟨rfl,rfl,rfl,rfl,rfl,trivial⟩ ⟨rfl,Nat.zero_le _,htgt⟩ ?_;rintro⟨i,b⟩ h1 ⟨rfl,hi,hcon⟩ ih
   try dsimp only
   dsimp only at hi hcon;refine aY func120 1 [0,5,11,12,13,14] rfl ?_;refine aq rfl ?_;refine aG rfl rfl (fun hlti=>?_) (fun hlti=>?_)
   · obtain⟨j,hj⟩:∃j,now[i]? =some j:=⟨_,List.getElem?_eq_getElem (by omega)⟩
     obtain⟨bb,o,cs,ha,_,hrow,rfl⟩:=hget i j hj;have hjl:j<ss.length:=hlt j (List.mem_of_getElem? hj);obtain⟨y,hy⟩:∃y,ss[j]? =some y:=⟨_,List.getElem?_eq_getElem hjl⟩
     obtain⟨gs,cs,ws,hvs,hgs,hrw,hws⟩:=hn.get hy;cases hvs
     have hdr:now.drop i=j::now.drop (i+1):=by
      obtain⟨hi',rfl⟩:=List.getElem?_eq_some_iff.1 hj;exact List.drop_eq_getElem_cons hi'
     rw[hdr,qj,hy] at hcon;simp only at hcon;refine aA rfl ?_;refine aq rfl ?_;refine G.block rfl rfl ?_;refine xr func120 rfl ?_;refine xp rfl (ak.aF underlying44 H.aP rfl rfl i rfl ha (by omega)) ?_;refine xp rfl (af H.bC rfl (hrow 0 _ rfl)) ?_;refine aR 1 [0,5,7,11,12,13,14] rfl ?_;refine aq rfl ?_;refine G.bu [(54,.bool (qi y b))] [(0,_),(5,_),(7,_),(11,_),(12,_),(13,_),(14,_)] ⟨rfl,rfl,rfl,rfl,rfl,rfl,rfl,trivial⟩ func120 rfl ?_ ?_
     · refine aU 3 rfl ?_;refine RW.dn (d:=19) (b':=true) rfl (decide_eq_true (by omega)) ?_;refine cy 3 rfl rfl (aa (off:=0) underlying139 rfl rfl H.gx rfl) ?_;refine xp rfl (af H.iG rfl (hn.blk.cell (i:=0) rfl)) ?_;refine xp rfl (ak.aJ underlying137 rfl) ?_;refine aU 3 rfl ?_;refine RW.dn (d:=28) (b':=true) rfl (decide_eq_true (by omega)) ?_;refine cy 2 rfl rfl (aa (off:=0) underlying139 rfl rfl H.gx rfl) ?_;refine xp rfl (af H.iG rfl (hn.blk.cell (i:=0) rfl)) ?_;refine cy 1 rfl rfl (ak.aF underlying137 H.lK rfl rfl j rfl rfl hjl) ?_;refine xp rfl (aa (off:=0) underlying149 rfl rfl H.aP rfl) ?_;refine xp rfl (af H.bC rfl (hrw 0 _ rfl)) ?_;refine aU 3 rfl ?_;refine aH (d:=39) rfl (fun hk=>?_) (fun hk=>?_)
       · have hk':=of_decide_eq_true hk;refine aU 3 rfl ?_;refine aH (d:=42) rfl (fun hb=>?_) (fun hb=>?_)
         · have hb':=of_decide_eq_true hb;refine aU 12 rfl ?_;refine aB rfl ?_;exact⟨rfl,az rfl (by simp[qi];omega),rfl,rfl,rfl,rfl,rfl,rfl,rfl,trivial⟩
         · have hb':=of_decide_eq_false hb;refine cy 2 rfl rfl (aa (off:=0) underlying139 rfl rfl H.gx rfl) ?_;refine xp rfl (af H.iG rfl (hn.blk.cell (i:=0) rfl)) ?_;refine cy 1 rfl rfl (ak.aF underlying137 H.lK rfl rfl j rfl rfl hjl) ?_;refine xp rfl (aa (off:=6) underlying149 rfl rfl H.aP rfl) ?_;refine xp rfl (af H.bC rfl (hrw 6 _ rfl)) ?_;refine aU 4 rfl ?_;refine aB rfl ?_;exact⟨rfl,az rfl (by simp only[qi,decide_eq_decide];omega),rfl,rfl,rfl,rfl,rfl,rfl,rfl,trivial⟩
       · have hk':=of_decide_eq_false hk;refine aU 15 rfl ?_;refine aB rfl ?_;exact⟨rfl,az rfl (by simp[qi];omega),rfl,rfl,rfl,rfl,rfl,rfl,rfl,trivial⟩
     · refine aO rfl rfl (fun hb=>?_) (fun hb=>?_)
       · rw[if_pos hb] at hcon;refine G.bU func120 rfl ?_;refine cy 2 rfl rfl (aa (off:=0) underlying139 rfl rfl H.gx rfl) ?_;refine xp rfl (af H.iG rfl (hn.blk.cell (i:=0) rfl)) ?_;refine cy 1 rfl rfl (ak.aF underlying137 H.lK rfl rfl j rfl rfl hjl) ?_;refine xp rfl (aa (off:=6) underlying149 rfl rfl H.aP rfl) ?_;refine xp rfl (af H.bC rfl (hrw 6 _ rfl)) ?_;refine aR 1 [0,5,7,11,12,13,14,54] rfl ?_;refine G.aT ?_;refine G.bU func120 rfl ?_;refine xp rfl (ak.bK rfl rfl ⟨by omega,by omega⟩) ?_;refine aR 1 [0,5,7,11,12,13,14,54] rfl ?_;exact ih (i+1,(y.rule:Int)) _ _ ⟨rfl,rfl,rfl,rfl,rfl,trivial⟩ ⟨rfl,by show i+1<=nn;omega,hcon⟩ (by show nn-(i+1)<nn-i;omega)
       · rw[if_neg (by rw[hb];decide)] at hcon;refine aA rfl ?_;refine G.aT ?_;refine G.bU func120 rfl ?_;refine xp rfl (ak.bK rfl rfl ⟨by omega,by omega⟩) ?_;refine aR 1 [0,5,7,11,12,13,14,54] rfl ?_;exact ih (i+1,b) _ _ ⟨rfl,rfl,rfl,rfl,rfl,trivial⟩ ⟨rfl,by show i+1<=nn;omega,hcon⟩ (by show nn-(i+1)<nn-i;omega)
   · have hnil:now.drop i=[]:=List.drop_of_length_le (by omega);rw[hnil,qj] at hcon;refine bG rfl rfl ?_;refine aY func120 2 [0,4,5,11,12,13,14] rfl ?_;refine aK func120 rfl rfl ?_;rw[bL,if_neg hz,htgt];exact⟨_,rfl,by rw[hcon];rfl,rfl⟩
theorem AR {nv:Value}{now:List Nat}(c:UInt8) (hn:cu h O nb v ss st) (hgood:Good ss) (hss:ss.length<=1000000) (hnow:ck gI h (fun _=>False) nv now) (hlt:∀j∈now,j<ss.length) (hnn:now.length<=1000000)
 (hpot:(stepG ss c now []).length+qW ss (List.replicate ss.length false)<=1000000) :
 ah Tryz.prog 119 #[.pointer (some ⟨nb,0,none⟩),nv,.int .u8 (c.toNat:Nat)] h (bX fun r h'=>cL cW h' h.size 3 r (cU ss c now)/\aD h h'):=by
 have hown:=hn.own;have hnlt:=hn.blk.lt;obtain⟨css,hc1,hc2,hc3⟩:=id hn.row;obtain⟨va,vc,rfl,_⟩:=hc2.open;obtain⟨na,nn,nc,rfl,hnl,hnc,hnm,hget⟩:=id hnow;generalize htgt:stepG ss c now []=tgt at *;refine ah.of func119 rfl rfl ?_;refine aY func119 1 [0,1,2,6] rfl ?_;refine aq rfl ?_;refine bA func119 1 rfl ?_;refine xo rfl (aj (vs:=[_]) func137 rfl H.ER rfl (ah.aX (om hn))) ?_;rintro _ h0 ⟨rfl,hh0⟩;refine xd [0,1,2,6,11] rfl ?_;subst hh0;refine aG rfl rfl (fun hz=>?_) (fun hz=>?_)
 · refine aY func119 1 [0,1,2,6,11] rfl ?_;refine aK func119 rfl rfl ?_;rw[cU,if_pos hz];exact⟨_,rfl,cL.nil _ _ _ _,Ext.refl _ _⟩
 · refine aA rfl ?_;refine aY func119 1 [0,1,2,6,7,11] rfl ?_;refine aq rfl ?_;refine bA func119 1 rfl ?_;refine xp rfl (ak.aJ underlying44 rfl) ?_;refine aR 1 [0,1,2,6,7,11,12,13,14] rfl ?_;refine G.block rfl rfl ?_;refine bQ (σ:=Nat×Value×List Nat) (fun q=>[(0,.pointer (some ⟨nb,0,none⟩)),(2,.int .u8 (c.toNat:Nat)),(7,q.2.1),(12,.slice na nn nc),(13,.int .i64 (nn:Nat)),(14,.int .i64 (q.1:Nat))]) (fun q h'=>aD h0 h'/\q.1<=nn/\cL cW h' h0.size 3 q.2.1 q.2.2/\(∀j∈q.2.2,j<ss.length)/\stepG ss c (now.drop q.1) q.2.2=tgt) (fun q=>nn-q.1) ((0,.slice none 0 0,[])) rfl ⟨rfl,rfl,rfl,rfl,rfl,rfl,trivial⟩ ⟨Ext.refl _ _,Nat.zero_le _,cL.nil _ _ _ _,(fun j hj=>by cases hj),htgt⟩ ?_;rintro⟨i,ov,acc⟩ h1 ⟨e1,hi,ho,hal,hcon⟩ ih
   try dsimp only
   dsimp only at hi ho hal hcon;have hz1:=e1.size;have hn1:cu h1 O nb (.slice va ss.length vc) ss st:=hn.ax e1 (fun _ _ k=>k);have hacc:acc.length<=tgt.length:=by rw[<-hcon];exact qo _ _ _ _
   refine aY func119 1 [0,2,7,12,13,14,15] rfl ?_;refine aq rfl ?_;refine aG rfl rfl (fun hlti=>?_) (fun hlti=>?_)
   · obtain⟨j,hj⟩:∃j,now[i]? =some j:=⟨_,List.getElem?_eq_getElem (by omega)⟩
     obtain⟨bb,o,cs,ha,_,hrow,rfl⟩:=hget i j hj;have hjl:j<ss.length:=hlt j (List.mem_of_getElem? hj);obtain⟨y,hy⟩:∃y,ss[j]? =some y:=⟨_,List.getElem?_eq_getElem hjl⟩
     obtain⟨gs,cs,ws,hvs,hgs,hrw,hws⟩:=hn1.get hy;cases hvs
     have hdr:now.drop i=j::now.drop (i+1):=by
      obtain⟨hi',rfl⟩:=List.getElem?_eq_some_iff.1 hj;exact List.drop_eq_getElem_cons hi'
     rw[hdr,stepG,hy] at hcon;simp only at hcon;have hrow1:Lw.rowAt h1 bb (o+i*1) [cW j]:=e1.rowAt (fun k=>k) hrow
     have hset:Lw.rowAt h1 gs (0+j*7+1) (uq y.set):=fun q u hu=>by
      have hq:(CX y.kind y.set ws y.rule)[1+q]? =some u:=by
       match q with
       | 0=>exact hu
       | 1=>exact hu
       | 2=>exact hu
       | 3=>exact hu
       |q+4=>simp[uq] at hu
      have:=hrw (1+q) u hq
      rwa [<-Nat.add_assoc] at this
     refine aA rfl ?_;refine aq rfl ?_;refine G.block rfl rfl ?_;refine xr func119 rfl ?_;refine xp rfl (ak.aF underlying44 H.aP rfl rfl i rfl ha (by omega)) ?_;refine xp rfl (af H.bC rfl (hrow1 0 _ rfl)) ?_;refine aR 1 [0,2,7,9,12,13,14,15] rfl ?_;refine aq rfl ?_;refine G.xm (fun(_u:Unit) (h':ay)=>aD h1 h') (fun(_u:Unit)=>[(51,.bool (jd y c))]) [(0,_),(2,_),(7,_),(9,_),(12,_),(13,_),(14,_),(15,_)] ⟨rfl,rfl,rfl,rfl,rfl,rfl,rfl,rfl,trivial⟩ func119 rfl ?_ ?_
     · refine aU 3 rfl ?_;refine RW.dn (d:=20) (b':=true) rfl (decide_eq_true (by omega)) ?_;refine cy 3 rfl rfl (aa (off:=0) underlying139 rfl rfl H.gx rfl) ?_;refine xp rfl (af H.iG rfl (hn1.blk.cell (i:=0) rfl)) ?_;refine xp rfl (ak.aJ underlying137 rfl) ?_;refine aU 3 rfl ?_;refine RW.dn (d:=29) (b':=true) rfl (decide_eq_true (by omega)) ?_;refine cy 2 rfl rfl (aa (off:=0) underlying139 rfl rfl H.gx rfl) ?_;refine xp rfl (af H.iG rfl (hn1.blk.cell (i:=0) rfl)) ?_;refine cy 1 rfl rfl (ak.aF underlying137 H.lK rfl rfl j rfl rfl hjl) ?_;refine xp rfl (aa (off:=0) underlying149 rfl rfl H.aP rfl) ?_;refine xp rfl (af H.bC rfl (hrw 0 _ rfl)) ?_;refine aU 3 rfl ?_;refine aH (d:=40) rfl (fun hk=>?_) (fun hk=>?_)
       · have hk':=of_decide_eq_true hk;have hk2:y.kind=1:=by omega
         refine cy 2 rfl rfl (aa (off:=0) underlying139 rfl rfl H.gx rfl) ?_;refine xp rfl (af H.iG rfl (hn1.blk.cell (i:=0) rfl)) ?_;refine cy 1 rfl rfl (ak.aF underlying137 H.lK rfl rfl j rfl rfl hjl) ?_;refine xp rfl (aa (off:=1) underlying149 rfl rfl H.lM rfl) ?_;refine xp rfl (ak.au H.HO H.lM rfl hset (by first|rfl|(simp;done)|(simp;omega))) ?_;refine aU 1 rfl ?_;refine xo rfl (aj (vs:=[_,_]) func141 rfl H.Js rfl (ah.aX (DC y.set c))) ?_;rintro _ h2 ⟨rfl,e2⟩;refine aU 1 rfl ?_;refine aB rfl ?_;exact⟨(),e2,az rfl (by simp[jd,hk2]),rfl,rfl,rfl,rfl,rfl,rfl,rfl,rfl,trivial⟩
       · have hk':=of_decide_eq_false hk;have hk2:¬y.kind=1:=by omega
         refine aU 11 rfl ?_;refine aB rfl ?_;exact⟨(),Ext.refl _ _,az rfl (by simp[jd,hk2]),rfl,rfl,rfl,rfl,rfl,rfl,rfl,rfl,trivial⟩
     · rintro _ h2 e2;have e02:=e1.trans e2;have ho2:cL cW h2 h0.size 3 ov acc:=cL.ax ho e2;have hn2:cu h2 O nb _ ss st:=hn.ax e02 (fun _ _ k=>k);have hz2:=e02.size;refine aO rfl rfl (fun hb=>?_) (fun hb=>?_)
       · rw[if_pos hb] at hcon;have hacc2:(acc++y.to).length<=tgt.length:=by rw[<-hcon];exact qo _ _ _ _
         rw[List.length_append] at hacc2;obtain⟨gs,cs,ws,hvs,hgs,hrw2,hws2⟩:=hn2.get hy;cases hvs;obtain⟨wa,wn,wc,rfl,_⟩:=id hws2;obtain⟨hwl,hwn,hwm⟩:=Ay hws2;refine G.bU func119 rfl ?_;refine cy 3 rfl rfl (aa (off:=0) underlying139 rfl rfl H.gx rfl) ?_;refine xp rfl (af H.iG rfl (hn2.blk.cell (i:=0) rfl)) ?_;refine cy 1 rfl rfl (ak.aF underlying137 H.lK rfl rfl j rfl rfl hjl) ?_;refine xp rfl (aa (off:=5) underlying149 rfl rfl H.fT rfl) ?_;refine xp rfl (af H.lE rfl (hrw2 5 _ rfl)) ?_;refine xo rfl (av.append underlying44 H.nH rfl rfl ho2 (by simp[hwl]) hwn (by intro u hu;simp at hu;obtain⟨j,_,rfl⟩:=hu;rfl) (by simp only[maxLen];omega) (by omega) (by omega)) ?_;rintro ov3 h3 ⟨ho3,hx3,-,hv3⟩;refine aR 1 [0,2,7,9,12,13,14,15,51] rfl ?_;refine G.aT ?_;refine G.bU func119 rfl ?_;refine xp rfl (ak.bK rfl rfl ⟨by omega,by omega⟩) ?_;refine aR 1 [0,2,7,9,12,13,14,15,51] rfl ?_
         have ho3':cL cW h3 h0.size 3 ov3 (acc++y.to):=by
          unfold cL;rw[List.length_append,hwl,List.map_append];exact ho3
         have e3:aD h0 h3:=cL.grown e02 ho2 (Nat.le_refl _) hx3
         have hal3:∀j∈acc++y.to,j<ss.length:=fun j hj=>by
          rcases List.mem_append.1 hj with k|k
          · exact hal j k
          · exact hgood y (List.mem_of_getElem? hy) j k
         exact ih (i+1,ov3,acc++y.to) _ _ ⟨rfl,rfl,rfl,rfl,rfl,rfl,trivial⟩ ⟨e3,by show i+1<=nn;omega,ho3',hal3,hcon⟩ (by show nn-(i+1)<nn-i;omega)
       · rw[if_neg (by rw[hb];decide)] at hcon;refine aA rfl ?_;refine G.aT ?_;refine G.bU func119 rfl ?_;refine xp rfl (ak.bK rfl rfl ⟨by omega,by omega⟩) ?_;refine aR 1 [0,2,7,9,12,13,14,15,51] rfl ?_;exact ih (i+1,ov,acc) _ _ ⟨rfl,rfl,rfl,rfl,rfl,rfl,trivial⟩ ⟨e02,by show i+1<=nn;omega,ho2,hal,hcon⟩ (by show nn-(i+1)<nn-i;omega)
   · have hnil:now.drop i=[]:=List.drop_of_length_le (by omega);rw[hnil,stepG] at hcon;subst hcon;have hol:∀b,ov.ownBlock=some b->h0.size<=b/\b<h1.size:=fun b hb=>aN.lt ho hb
     have hn':cu h1 (fun b=>O b\/dw ov.ownBlock b) nb (.slice va ss.length vc) ss st:=hn.ax e1 (fun b hb k=>k.elim id (fun k=>by have:=(hol b k.symm).1;omega));refine bG rfl rfl ?_;refine bA func119 2 rfl ?_;refine xo rfl (aj (vs:=[_,_]) func138 rfl H.Hv rfl (ah.aX (qb (tb:=ov.ownBlock) hn' hgood hss ho rfl (by omega) (fun b hb=>⟨.inr hb.symm,by have:=hol b hb;omega,fun k=>by have:=hol b hb;have:=(hown b k).2;omega⟩) hal hpot))) ?_;rintro _ h2 ⟨ho2,hx2⟩;refine aR 1 [0,2,6,7,12,13,14,15] rfl ?_;refine aK func119 rfl rfl ?_;rw[cU,if_neg hz,htgt];refine⟨_,rfl,aN.lower ho2 (by omega),⟨by have:=hx2.size;omega,fun b hb _=>?_⟩⟩;rw[hx2.block b (by omega) (fun k=>by have:=hol b k.symm;omega)];exact e1.block b hb (fun k=>k)
theorem ck.less {α:Type}{e:iN α}{Q Q':Nat->Prop}{xs:List α}(k:ck e h Q v xs) (hq:∀b,Q' b->Q b):ck e h Q' v xs:=k.mv ⟨Nat.le_refl _,fun b _ hn=>⟨rfl,fun k=>hn (hq b k)⟩⟩
def II (h:ay) (p:Value) (rules:List By):Prop:=∃(O:Nat->Prop) (nb:Nat) (v:Value) (ss:List bR) (st:Nat),p= .pointer (some ⟨nb,0,none⟩)/\cu h O nb v ss st/\eX rules= .inr (ss,st)
def HD (rules:List By):Int:=match eX rules with|.inl e=>e|.inr _=>0
def xA (rules:List By) (s:By) (a:Int):Int×Int:=match eX rules with|.inl _=>(0,-1)|.inr (ss,st)=>Bd ss st s a
theorem Dq {lim:Nat}(hg:Sg h lim) (hlim:lim<=h.size){rv:Value}(hr:ck yy h (fun _=>False) rv rules) (hrl:∀s∈rules,s.length<=1000000) :
 ah Tryz.prog 101 #[rv] h (bX fun r h'=>(∃p,r= .tuple #[p,.int .i64 (HD rules)]/\((∃e,eX rules= .inl e/\p= .pointer none)\/II h' p rules))/\aD h h') :=
 (Bf hg hlim hr hrl).ret fun r h' k=>by
  obtain⟨k1,k2⟩:=k;refine⟨?_,k2⟩;unfold wP at k1;unfold HD;cases hm:eX rules with
  |inl e=>rw[hm] at k1;exact⟨_,k1,.inl ⟨e,rfl,rfl⟩⟩
  |inr q =>
   obtain⟨ss,st⟩:=q;rw[hm] at k1;obtain⟨nb,v,h1,_,h3⟩:=k1;exact⟨_,h1,.inr ⟨_,nb,v,ss,st,rfl,h3,hm⟩⟩
theorem zF (k:Made rules ss st):ss.length<=1000000/\1+qW ss (List.replicate ss.length false)<=1000000/\∀c now,List.Sublist now (List.range ss.length)->(stepG ss c now []).length+qW ss (List.replicate ss.length false)<=1000000:=by
 have h1:=k.len;have h2:=k.tot;have h3:=EG ss (List.replicate ss.length false);refine⟨by omega,by omega,fun c now hs=>?_⟩;have:=CW c hs;omega
end
end Go.Proofs.YtiigijehmmcfgaaGreatDoor
