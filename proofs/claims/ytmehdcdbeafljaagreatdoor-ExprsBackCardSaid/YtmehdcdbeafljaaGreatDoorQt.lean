/- What the proof of the statement leans on (part 20). -/
import Derived.Test.YtmehdcdbeafljaaGreatDoorRows
import Derived.Test.YtmehdcdbeafljaaGreatDoorQs

namespace Go.Proofs.YtmehdcdbeafljaaGreatDoor.H
open Go Go.Lw
theorem jA:bU Tryz.prog 111=some false:=by kernel_rfl
theorem jh:bU Tryz.prog 124=some false:=by kernel_rfl
theorem pG:bU Tryz.prog 127=some false:=by kernel_rfl
theorem HS:bU Tryz.prog 128=some false:=by kernel_rfl
theorem J2:bU Tryz.prog 129=some true:=by kernel_rfl
theorem wG:bU Tryz.prog 130=some false:=by kernel_rfl
theorem fA:bU Tryz.prog 132=some true:=by kernel_rfl
theorem MB:bU Tryz.prog 138=some true:=by kernel_rfl
theorem Ek:bU Tryz.prog 142=some false:=by kernel_rfl
theorem B5:bU Tryz.prog 144=some true:=by kernel_rfl
theorem rE:bU Tryz.prog 147=some false:=by kernel_rfl
theorem wF:bU Tryz.prog 153=some true:=by kernel_rfl
theorem MA:bU Tryz.prog 188=some true:=by kernel_rfl
theorem HR:bU Tryz.prog 203=some false:=by kernel_rfl
theorem J1:bU Tryz.prog 214=some true:=by kernel_rfl
theorem Mz:bU Tryz.prog 215=some true:=by kernel_rfl
theorem ng:bU Tryz.prog 23=some false:=by kernel_rfl
theorem bO:bU Tryz.prog 25=some true:=by kernel_rfl
theorem J0:bU Tryz.prog 283=some false:=by kernel_rfl
theorem JZ:bU Tryz.prog 287=some true:=by kernel_rfl
theorem de:bU Tryz.prog 3=some false:=by kernel_rfl
theorem KR:bU Tryz.prog 31=some false:=by kernel_rfl
theorem Am:bU Tryz.prog 38=some false:=by kernel_rfl
theorem wE:bU Tryz.prog 4=some false:=by kernel_rfl
theorem jq:bU Tryz.prog 41=some true:=by kernel_rfl
theorem Al:bU Tryz.prog 46=some true:=by kernel_rfl
theorem My:bU Tryz.prog 5=some false:=by kernel_rfl
theorem NJ:bU Tryz.prog 78=some false:=by kernel_rfl
theorem I9:bU Tryz.prog 81=some false:=by kernel_rfl
theorem tZ:bU Tryz.prog 84=some false:=by kernel_rfl
theorem I8:bU Tryz.prog 87=some false:=by kernel_rfl
theorem NI:bU Tryz.prog 89=some false:=by kernel_rfl
theorem gj:bU Tryz.prog 9=some false:=by kernel_rfl
theorem Fx (a0:Option Addr) (n0 c0:Nat) (a2:Int):Tryz.prog.built 116 [(0,.slice a0 n0 c0),(2,.int .i64 a2)]=some #[.slice a0 n0 c0,.int .i64 (0),.int .i64 a2,.bool false,.int .i64 (0)]:=by kernel_rfl
theorem KQ  : Tryz.prog.built 126 []=some #[.slice none 0 0,.int .i64 (0)]:=by kernel_rfl
theorem Di  : Tryz.prog.built 132 []=some #[.int .i64 (0),.int .u64 (0),.int .u64 (0),.int .u64 (0),.int .u64 (0),.slice none 0 0]:=by kernel_rfl
theorem sA (a0:Int) (a2:Option Addr) (n2 c2:Nat):Tryz.prog.built 132 [(0,.int .i64 a0),(2,.slice a2 n2 c2)]=some #[.int .i64 a0,.int .u64 (0),.int .u64 (0),.int .u64 (0),.int .u64 (0),.slice a2 n2 c2]:=by kernel_rfl
theorem Ei (a0:Int):Tryz.prog.built 132 [(0,.int .i64 a0)]=some #[.int .i64 a0,.int .u64 (0),.int .u64 (0),.int .u64 (0),.int .u64 (0),.slice none 0 0]:=by kernel_rfl
theorem HL  : Tryz.prog.built 138 []=some #[.int .i64 (0),.int .u64 (0),.int .u64 (0),.int .u64 (0),.int .u64 (0),.slice none 0 0,.int .i64 (0)]:=by kernel_rfl
theorem B2 (a0:Int) (a1_0 a1_1 a1_2 a1_3:Value) (a2:Option Addr) (n2 c2:Nat):Tryz.prog.built 138 [(0,.int .i64 a0),(1,.agg #[a1_0,a1_1,a1_2,a1_3]),(2,.slice a2 n2 c2)]=some #[.int .i64 a0,a1_0,a1_1,a1_2,a1_3,.slice a2 n2 c2,.int .i64 (0)]:=by kernel_rfl
theorem Fw (a0:Int) (a3:Int):Tryz.prog.built 138 [(0,.int .i64 a0),(3,.int .i64 a3)]=some #[.int .i64 a0,.int .u64 (0),.int .u64 (0),.int .u64 (0),.int .u64 (0),.slice none 0 0,.int .i64 a3]:=by kernel_rfl
theorem Aj (a2:Option Addr) (n2 c2:Nat):Tryz.prog.built 138 [(2,.slice a2 n2 c2)]=some #[.int .i64 (0),.int .u64 (0),.int .u64 (0),.int .u64 (0),.int .u64 (0),.slice a2 n2 c2,.int .i64 (0)]:=by kernel_rfl
theorem KP  : Tryz.prog.built 144 []=some #[.string ⟨#[]⟩,.int .i64 (0),.int .i64 (0)]:=by kernel_rfl
theorem HK  : Tryz.prog.built 149 []=some #[.slice none 0 0,.slice none 0 0]:=by kernel_rfl
theorem tK (a0:Int) (a1:ByteArray) (a2:Int):Tryz.prog.built 188 [(0,.int .i64 a0),(1,.string a1),(2,.int .i64 a2)]=some #[.int .i64 a0,.string a1,.int .i64 a2]:=by kernel_rfl
theorem iO  : Tryz.prog.built 193 []=some #[]:=by kernel_rfl
theorem I3 (a0:ByteArray):Tryz.prog.built 196 [(0,.string a0)]=some #[.string a0]:=by kernel_rfl
theorem B1  : Tryz.prog.built 25 []=some #[.int .i64 (0),.string ⟨#[]⟩,.slice none 0 0]:=by kernel_rfl
theorem lH (a0:Int) (a1:ByteArray):Tryz.prog.built 25 [(0,.int .i64 a0),(1,.string a1)]=some #[.int .i64 a0,.string a1,.slice none 0 0]:=by kernel_rfl
theorem iN (a0:Int) (a1:ByteArray) (a2:Option Addr) (n2 c2:Nat):Tryz.prog.built 25 [(0,.int .i64 a0),(1,.string a1),(2,.slice a2 n2 c2)]=some #[.int .i64 a0,.string a1,.slice a2 n2 c2]:=by kernel_rfl
theorem B0 (a0:Int) (a2:Option Addr) (n2 c2:Nat):Tryz.prog.built 25 [(0,.int .i64 a0),(2,.slice a2 n2 c2)]=some #[.int .i64 a0,.string ⟨#[]⟩,.slice a2 n2 c2]:=by kernel_rfl
theorem KO (a0:Int):Tryz.prog.built 25 [(0,.int .i64 a0)]=some #[.int .i64 a0,.string ⟨#[]⟩,.slice none 0 0]:=by kernel_rfl
theorem Mw  : Tryz.prog.built 41 []=some #[.int .i64 (0),.int .i64 (0)]:=by kernel_rfl
theorem HJ (a0:Int) (a1:Int):Tryz.prog.built 41 [(0,.int .i64 a0),(1,.int .i64 a1)]=some #[.int .i64 a0,.int .i64 a1]:=by kernel_rfl
theorem KN (a0:Int):Tryz.prog.built 41 [(0,.int .i64 a0)]=some #[.int .i64 a0,.int .i64 (0)]:=by kernel_rfl
theorem Mu  : Tryz.prog.built 46 []=some #[.int .i64 (0),.int .i64 (0),.int .i64 (0)]:=by kernel_rfl
theorem wu (a0:Int) (a1:Int) (a2:Int):Tryz.prog.built 46 [(0,.int .i64 a0),(1,.int .i64 a1),(2,.int .i64 a2)]=some #[.int .i64 a0,.int .i64 a1,.int .i64 a2]:=by kernel_rfl
theorem Mt  : Tryz.prog.built 83 []=some #[.slice none 0 0]:=by kernel_rfl
theorem lG:Tryz.prog.concrete 193=true:=by kernel_rfl
set_option maxRecDepth 100000 in
theorem Hz:gu Tryz.prog 127 1 24:=⟨⟨_,_,rfl,rfl,rfl,rfl,rfl⟩,by decide⟩
set_option maxRecDepth 100000 in
theorem vW:gu Tryz.prog 132 6 64:=⟨⟨_,_,rfl,rfl,rfl,rfl,rfl⟩,by decide⟩
set_option maxRecDepth 100000 in
theorem JT:gu Tryz.prog 138 7 72:=⟨⟨_,_,rfl,rfl,rfl,rfl,rfl⟩,by decide⟩
set_option maxRecDepth 100000 in
theorem D9:gu Tryz.prog 153 256 2048:=⟨⟨_,_,rfl,rfl,rfl,rfl,rfl⟩,by decide⟩
set_option maxRecDepth 100000 in
theorem D8:gu Tryz.prog 188 3 32:=⟨⟨_,_,rfl,rfl,rfl,rfl,rfl⟩,by decide⟩
set_option maxRecDepth 100000 in
theorem ir:gu Tryz.prog 25 3 48:=⟨⟨_,_,rfl,rfl,rfl,rfl,rfl⟩,by decide⟩
set_option maxRecDepth 100000 in
theorem rq:gu Tryz.prog 3 1 8:=⟨⟨_,_,rfl,rfl,rfl,rfl,rfl⟩,by decide⟩
set_option maxRecDepth 100000 in
theorem NS:gu Tryz.prog 4 1 1:=⟨⟨_,_,rfl,rfl,rfl,rfl,rfl⟩,by decide⟩
set_option maxRecDepth 100000 in
theorem Mh:gu Tryz.prog 46 3 24:=⟨⟨_,_,rfl,rfl,rfl,rfl,rfl⟩,by decide⟩
set_option maxRecDepth 100000 in
theorem MN:gu Tryz.prog 5 1 1:=⟨⟨_,_,rfl,rfl,rfl,rfl,rfl⟩,by decide⟩
set_option maxRecDepth 100000 in
theorem Mg:gu Tryz.prog 89 1 8:=⟨⟨_,_,rfl,rfl,rfl,rfl,rfl⟩,by decide⟩
set_option maxRecDepth 100000 in
theorem sv:gu Tryz.prog 9 1 16:=⟨⟨_,_,rfl,rfl,rfl,rfl,rfl⟩,by decide⟩
theorem mixed:Tryz.prog.follows .mixedOrders=true:=by kernel_rfl
theorem L6:(Tryz.f10.name == "runtime.NumGoroutine")=false:=by decide +kernel
theorem L5:(Tryz.f100.name == "runtime.NumGoroutine")=false:=by decide +kernel
theorem DW:(Tryz.f101.name == "runtime.NumGoroutine")=false:=by decide +kernel
theorem GQ:(Tryz.f102.name == "runtime.NumGoroutine")=false:=by decide +kernel
theorem L4:(Tryz.f103.name == "runtime.NumGoroutine")=false:=by decide +kernel
theorem L3:(Tryz.f104.name == "runtime.NumGoroutine")=false:=by decide +kernel
theorem L2:(Tryz.f106.name == "runtime.NumGoroutine")=false:=by decide +kernel
theorem L1:(Tryz.f107.name == "runtime.NumGoroutine")=false:=by decide +kernel
theorem L0:(Tryz.f108.name == "runtime.NumGoroutine")=false:=by decide +kernel
theorem GP:(Tryz.f109.name == "runtime.NumGoroutine")=false:=by decide +kernel
theorem CL:(Tryz.f11.name == "runtime.NumGoroutine")=false:=by decide +kernel
theorem LZ:(Tryz.f110.name == "runtime.NumGoroutine")=false:=by decide +kernel
theorem LY:(Tryz.f111.name == "runtime.NumGoroutine")=false:=by decide +kernel
theorem JN:(Tryz.f112.name == "runtime.NumGoroutine")=false:=by decide +kernel
theorem JM:(Tryz.f113.name == "runtime.NumGoroutine")=false:=by decide +kernel
theorem Kt:(Tryz.f12.name == "runtime.NumGoroutine")=false:=by decide +kernel
theorem LX:(Tryz.f125.name == "runtime.NumGoroutine")=false:=by decide +kernel
theorem JL:(Tryz.f127.name == "runtime.NumGoroutine")=false:=by decide +kernel
theorem yb:(Tryz.f128.name == "runtime.NumGoroutine")=false:=by decide +kernel
theorem JK:(Tryz.f129.name == "runtime.NumGoroutine")=false:=by decide +kernel
theorem LW:(Tryz.f13.name == "runtime.NumGoroutine")=false:=by decide +kernel
theorem JJ:(Tryz.f130.name == "runtime.NumGoroutine")=false:=by decide +kernel
theorem LV:(Tryz.f131.name == "runtime.NumGoroutine")=false:=by decide +kernel
theorem LU:(Tryz.f132.name == "runtime.NumGoroutine")=false:=by decide +kernel
theorem JI:(Tryz.f137.name == "runtime.NumGoroutine")=false:=by decide +kernel
theorem DV:(Tryz.f138.name == "runtime.NumGoroutine")=false:=by decide +kernel
theorem JH:(Tryz.f139.name == "runtime.NumGoroutine")=false:=by decide +kernel
theorem Ny:(Tryz.f14.name == "runtime.NumGoroutine")=false:=by decide +kernel
theorem GO:(Tryz.f141.name == "runtime.NumGoroutine")=false:=by decide +kernel
theorem LS:(Tryz.f143.name == "runtime.NumGoroutine")=false:=by decide +kernel
theorem DU:(Tryz.f144.name == "runtime.NumGoroutine")=false:=by decide +kernel
theorem LR:(Tryz.f145.name == "runtime.NumGoroutine")=false:=by decide +kernel
theorem LQ:(Tryz.f146.name == "runtime.NumGoroutine")=false:=by decide +kernel
theorem LP:(Tryz.f147.name == "runtime.NumGoroutine")=false:=by decide +kernel
theorem Nw:(Tryz.f15.name == "runtime.NumGoroutine")=false:=by decide +kernel
theorem LO:(Tryz.f160.name == "runtime.NumGoroutine")=false:=by decide +kernel
theorem GN:(Tryz.f161.name == "runtime.NumGoroutine")=false:=by decide +kernel
theorem GM:(Tryz.f162.name == "runtime.NumGoroutine")=false:=by decide +kernel
theorem u5:(Tryz.f163.name == "runtime.NumGoroutine")=false:=by decide +kernel
theorem LN:(Tryz.f169.name == "runtime.NumGoroutine")=false:=by decide +kernel
theorem LM:(Tryz.f172.name == "runtime.NumGoroutine")=false:=by decide +kernel
theorem Bl:(Tryz.f181.name == "runtime.NumGoroutine")=false:=by decide +kernel
theorem LL:(Tryz.f184.name == "runtime.NumGoroutine")=false:=by decide +kernel
theorem JG:(Tryz.f185.name == "runtime.NumGoroutine")=false:=by decide +kernel
theorem uZ:(Tryz.f186.name == "runtime.NumGoroutine")=false:=by decide +kernel
theorem LK:(Tryz.f188.name == "runtime.NumGoroutine")=false:=by decide +kernel
theorem LJ:(Tryz.f189.name == "runtime.NumGoroutine")=false:=by decide +kernel
theorem LI:(Tryz.f196.name == "runtime.NumGoroutine")=false:=by decide +kernel
theorem JF:(Tryz.f197.name == "runtime.NumGoroutine")=false:=by decide +kernel
theorem LH:(Tryz.f198.name == "runtime.NumGoroutine")=false:=by decide +kernel
theorem xZ:(Tryz.f199.name == "runtime.NumGoroutine")=false:=by decide +kernel
theorem JE:(Tryz.f200.name == "runtime.NumGoroutine")=false:=by decide +kernel
theorem LG:(Tryz.f201.name == "runtime.NumGoroutine")=false:=by decide +kernel
theorem JD:(Tryz.f205.name == "runtime.NumGoroutine")=false:=by decide +kernel
theorem JC:(Tryz.f206.name == "runtime.NumGoroutine")=false:=by decide +kernel
theorem JB:(Tryz.f207.name == "runtime.NumGoroutine")=false:=by decide +kernel
theorem GL:(Tryz.f208.name == "runtime.NumGoroutine")=false:=by decide +kernel
theorem JA:(Tryz.f210.name == "runtime.NumGoroutine")=false:=by decide +kernel
theorem GK:(Tryz.f212.name == "runtime.NumGoroutine")=false:=by decide +kernel
theorem LF:(Tryz.f213.name == "runtime.NumGoroutine")=false:=by decide +kernel
theorem LD:(Tryz.f214.name == "runtime.NumGoroutine")=false:=by decide +kernel
theorem Nv:(Tryz.f23.name == "runtime.NumGoroutine")=false:=by decide +kernel
theorem Nu:(Tryz.f27.name == "runtime.NumGoroutine")=false:=by decide +kernel
theorem Nt:(Tryz.f28.name == "runtime.NumGoroutine")=false:=by decide +kernel
theorem Ns:(Tryz.f29.name == "runtime.NumGoroutine")=false:=by decide +kernel
theorem Nr:(Tryz.f30.name == "runtime.NumGoroutine")=false:=by decide +kernel
theorem GJ:(Tryz.f31.name == "runtime.NumGoroutine")=false:=by decide +kernel
theorem Ks:(Tryz.f32.name == "runtime.NumGoroutine")=false:=by decide +kernel
theorem Nq:(Tryz.f33.name == "runtime.NumGoroutine")=false:=by decide +kernel
theorem LC:(Tryz.f34.name == "runtime.NumGoroutine")=false:=by decide +kernel
theorem LB:(Tryz.f41.name == "runtime.NumGoroutine")=false:=by decide +kernel
theorem LA:(Tryz.f42.name == "runtime.NumGoroutine")=false:=by decide +kernel
theorem jQ:(Tryz.f43.name == "runtime.NumGoroutine")=false:=by decide +kernel
theorem xm:(Tryz.f44.name == "runtime.NumGoroutine")=false:=by decide +kernel
theorem Np:(Tryz.f47.name == "runtime.NumGoroutine")=false:=by decide +kernel
theorem EZ:(Tryz.f48.name == "runtime.NumGoroutine")=false:=by decide +kernel
theorem CK:(Tryz.f49.name == "runtime.NumGoroutine")=false:=by decide +kernel
theorem No:(Tryz.f50.name == "runtime.NumGoroutine")=false:=by decide +kernel
theorem Nn:(Tryz.f51.name == "runtime.NumGoroutine")=false:=by decide +kernel
theorem Iz:(Tryz.f52.name == "runtime.NumGoroutine")=false:=by decide +kernel
theorem Nl:(Tryz.f53.name == "runtime.NumGoroutine")=false:=by decide +kernel
theorem Nk:(Tryz.f54.name == "runtime.NumGoroutine")=false:=by decide +kernel
theorem Lz:(Tryz.f55.name == "runtime.NumGoroutine")=false:=by decide +kernel
theorem Nj:(Tryz.f56.name == "runtime.NumGoroutine")=false:=by decide +kernel
theorem Ni:(Tryz.f57.name == "runtime.NumGoroutine")=false:=by decide +kernel
theorem Nh:(Tryz.f58.name == "runtime.NumGoroutine")=false:=by decide +kernel
theorem Ly:(Tryz.f59.name == "runtime.NumGoroutine")=false:=by decide +kernel
theorem Ng:(Tryz.f60.name == "runtime.NumGoroutine")=false:=by decide +kernel
theorem Nf:(Tryz.f61.name == "runtime.NumGoroutine")=false:=by decide +kernel
theorem Nc:(Tryz.f62.name == "runtime.NumGoroutine")=false:=by decide +kernel
theorem Lx:(Tryz.f63.name == "runtime.NumGoroutine")=false:=by decide +kernel
theorem Nb:(Tryz.f64.name == "runtime.NumGoroutine")=false:=by decide +kernel
theorem Na:(Tryz.f65.name == "runtime.NumGoroutine")=false:=by decide +kernel
theorem M9:(Tryz.f66.name == "runtime.NumGoroutine")=false:=by decide +kernel
theorem Lv:(Tryz.f67.name == "runtime.NumGoroutine")=false:=by decide +kernel
theorem Lu:(Tryz.f68.name == "runtime.NumGoroutine")=false:=by decide +kernel
theorem Oa:(Tryz.f8.name == "runtime.NumGoroutine")=false:=by decide +kernel
theorem M8:(Tryz.f86.name == "runtime.NumGoroutine")=false:=by decide +kernel
theorem M7:(Tryz.f87.name == "runtime.NumGoroutine")=false:=by decide +kernel
theorem Lt:(Tryz.f88.name == "runtime.NumGoroutine")=false:=by decide +kernel
theorem CJ:(Tryz.f89.name == "runtime.NumGoroutine")=false:=by decide +kernel
theorem NQ:(Tryz.f9.name == "runtime.NumGoroutine")=false:=by decide +kernel
theorem Kr:(Tryz.f90.name == "runtime.NumGoroutine")=false:=by decide +kernel
theorem Ls:(Tryz.f94.name == "runtime.NumGoroutine")=false:=by decide +kernel
theorem M6:(Tryz.f95.name == "runtime.NumGoroutine")=false:=by decide +kernel
theorem Kq:(Tryz.f97.name == "runtime.NumGoroutine")=false:=by decide +kernel
theorem Lr:(Tryz.f98.name == "runtime.NumGoroutine")=false:=by decide +kernel
theorem GI:(Tryz.f99.name == "runtime.NumGoroutine")=false:=by decide +kernel
theorem js:dI Tryz.prog 111=some 1:=by kernel_rfl
theorem gZ:dI Tryz.prog 124=some 1:=by kernel_rfl
theorem iB:dI Tryz.prog 127=some 1:=by kernel_rfl
theorem uG:dI Tryz.prog 128=some 1:=by kernel_rfl
theorem mP:dI Tryz.prog 129=some 4:=by kernel_rfl
theorem AP:dI Tryz.prog 130=some 1:=by kernel_rfl
theorem cy:dI Tryz.prog 132=some 6:=by kernel_rfl
theorem mO:dI Tryz.prog 138=some 7:=by kernel_rfl
theorem F4:dI Tryz.prog 142=some 1:=by kernel_rfl
theorem kW:dI Tryz.prog 144=some 3:=by kernel_rfl
theorem kV:dI Tryz.prog 147=some 1:=by kernel_rfl
theorem kU:dI Tryz.prog 153=some 256:=by kernel_rfl
theorem kT:dI Tryz.prog 188=some 3:=by kernel_rfl
theorem AO:dI Tryz.prog 203=some 1:=by kernel_rfl
theorem xN:dI Tryz.prog 214=some 2:=by kernel_rfl
theorem Lb:dI Tryz.prog 215=some 12:=by kernel_rfl
theorem gq:dI Tryz.prog 23=some 1:=by kernel_rfl
theorem aU:dI Tryz.prog 25=some 3:=by kernel_rfl
theorem DF:dI Tryz.prog 287=some 256:=by kernel_rfl
theorem cA:dI Tryz.prog 3=some 1:=by kernel_rfl
theorem Kf:dI Tryz.prog 31=some 1:=by kernel_rfl
theorem pP:dI Tryz.prog 38=some 1:=by kernel_rfl
theorem mX:dI Tryz.prog 4=some 1:=by kernel_rfl
theorem eW:dI Tryz.prog 41=some 2:=by kernel_rfl
theorem lV:dI Tryz.prog 46=some 3:=by kernel_rfl
theorem KX:dI Tryz.prog 5=some 1:=by kernel_rfl
theorem M1:dI Tryz.prog 78=some 1:=by kernel_rfl
theorem Ik:dI Tryz.prog 80=some 3:=by kernel_rfl
theorem EB:dI Tryz.prog 81=some 1:=by kernel_rfl
theorem M0:dI Tryz.prog 87=some 1:=by kernel_rfl
theorem MZ:dI Tryz.prog 89=some 1:=by kernel_rfl
theorem fL:dI Tryz.prog 9=some 1:=by kernel_rfl
theorem kQ:(Tryz.prog.info? 132).bind (·.zero)=some (.agg #[.int .i64 (0),.int .u64 (0),.int .u64 (0),.int .u64 (0),.int .u64 (0),.slice none 0 0]):=by kernel_rfl
theorem Ax:(Tryz.prog.info? 144).bind (·.zero)=some (.agg #[.string ⟨#[]⟩,.int .i64 (0),.int .i64 (0)]):=by kernel_rfl
theorem DA:(Tryz.prog.info? 153).bind (·.zero)=some (.agg (Array.replicate 256 (.int .i64 (0)))):=by kernel_rfl
theorem K5:(Tryz.prog.info? 188).bind (·.zero)=some (.agg #[.int .i64 (0),.string ⟨#[]⟩,.int .i64 (0)]):=by kernel_rfl
theorem FK:(Tryz.prog.info? 205).bind (·.zero)=some (.agg #[.pointer none,.slice none 0 0]):=by kernel_rfl
theorem K4:(Tryz.prog.info? 214).bind (·.zero)=some (.agg #[.int .u8 (0),.int .u8 (0)]):=by kernel_rfl
theorem fc:(Tryz.prog.info? 25).bind (·.zero)=some (.agg #[.int .i64 (0),.string ⟨#[]⟩,.slice none 0 0]):=by kernel_rfl
theorem Jr:(Tryz.prog.info? 287).bind (·.zero)=some (.agg (Array.replicate 256 (.bool false))):=by kernel_rfl
theorem MS:(Tryz.prog.info? 3).bind (·.zero)=some (.int .i64 (0)):=by kernel_rfl
theorem MR:(Tryz.prog.info? 31).bind (·.zero)=some (.int .i64 (0)):=by kernel_rfl
theorem NM:(Tryz.prog.info? 4).bind (·.zero)=some (.bool false):=by kernel_rfl
theorem Cf:(Tryz.prog.info? 41).bind (·.zero)=some (.agg #[.int .i64 (0),.int .i64 (0)]):=by kernel_rfl
theorem FJ:(Tryz.prog.info? 46).bind (·.zero)=some (.agg #[.int .i64 (0),.int .i64 (0),.int .i64 (0)]):=by kernel_rfl
theorem MQ:(Tryz.prog.info? 87).bind (·.zero)=some (.slice none 0 0):=by kernel_rfl
end Go.Proofs.YtmehdcdbeafljaaGreatDoor.H
namespace Go.Proofs.YtmehdcdbeafljaaGreatDoor
open Go.Proofs.Tryz
open Go Go.Lw
set_option maxRecDepth 20000
section
variable {rb n m d lim:Nat}{h h':az}{c a:UInt8}{l r:By}{x:Nd}{M:Nat->Prop}
def uW:Value:=.iface 193 (.agg #[])
def Du (c:List PanicEntry):Prop:=c=[{ v:=uW,recovered:=false }]
def St (h:az) (rb:Nat) (l:By):Prop:=bp h rb 196 [.string (bs l)]
abbrev Av (rb:Nat):Value:=.pointer (some ⟨rb,0,none⟩)
abbrev only (rb:Nat):Nat->Prop:=fun b=>b=rb
def PR {α:Type}(rb:Nat) (h:az) (p:Option (α×By)) (Φ:α->Value->az->Prop):Ending->az->Prop :=
 FE (fun v h'=>∃x r,p=some (x,r)/\Φ x v h'/\St h' rb r/\Ext (only rb) h h') (fun ch h'=>Du ch/\p=none/\Ext (only rb) h h')
theorem eD {α:Type}{p:Option (α×By)}{Φ:α->Value->az->Prop}{c:List PanicEntry}(hc:Du c) (hp:p=none) (hx:Ext (only rb) h h'):PR rb h p Φ (.panicked c) h':=⟨hc,hp,hx⟩
theorem Jb {Φ:Value->az->Prop}{X:List PanicEntry->az->Prop}{c:List PanicEntry}(k:X c h):FE Φ X (.panicked c) h:=k
theorem St.cell {h:az}{rb:Nat}{l:By}(k:St h rb l):cellAt h ⟨rb,0,none⟩=some (.string (bs l)):=bp.cell k (i:=0) rfl
theorem St.lt {h:az}{rb:Nat}{l:By}(k:St h rb l):rb<h.size:=bp.lt k
def F0:By->Option (UInt8×By)| []=>none|c::r=>some (c,r)
theorem jL (h:F0 l=none):l=[]:=by cases l with|nil=>rfl|cons c r=>cases h
theorem gC (h:F0 l=some (c,r)):l=c::r:=by cases l with|nil=>cases h|cons d t=>cases h;rfl
theorem u6 (hs:St h rb l):ah Tryz.prog 185 #[Av rb] h (dh fun r h'=>r= .int .u8 ((l.head?.getD 0).toNat:Nat)/\h'=h):=by
 refine ah.of func185 rfl rfl ?_;refine aZ func185 1 [0,2] rfl ?_;refine av rfl ?_;refine bq func185 2 rfl ?_;refine xp rfl (af (off:=0) underlying196 rfl rfl H.fL rfl) ?_;refine xp rfl (ai H.gj rfl hs.cell) ?_;refine xp rfl (aj.dX rfl rfl) ?_;refine xd [0,2,7] rfl ?_;refine aO rfl rfl (fun he=>?_) (fun he=>?_)
 · have hl:l=[]:=eT he;subst hl;refine aZ func185 1 [0,2,7] rfl ?_;refine G.ret func185 rfl rfl ?_;exact⟨_,rfl,rfl,rfl⟩
 · obtain⟨c,r,rfl⟩:=List.exists_cons_of_ne_nil (fun(e:l=[])=>he (by rw[e];rfl));refine aC rfl ?_;refine bq func185 2 rfl ?_;refine xp rfl (af (off:=0) underlying196 rfl rfl H.fL rfl) ?_;refine xp rfl (ai H.gj rfl hs.cell) ?_;refine xp rfl (aj.dz underlying9 rfl rfl 0 rfl (iD rfl)) ?_;refine aS 1 [0,2,7] rfl ?_;refine G.ret func185 rfl rfl ?_;exact⟨_,rfl,rfl,rfl⟩
theorem gz (hs:St h rb l) (hl:l.length<=1000000):ah Tryz.prog 186 #[Av rb] h (PR rb h (F0 l) fun c v _=>v= .int .u8 (c.toNat:Nat)):=by
 refine ah.of func186 rfl rfl ?_;refine aZ func186 1 [0,2] rfl ?_;refine av rfl ?_;refine bq func186 2 rfl ?_;refine xp rfl (af (off:=0) underlying196 rfl rfl H.fL rfl) ?_;refine xp rfl (ai H.gj rfl hs.cell) ?_;refine xp rfl (aj.dX rfl rfl) ?_;refine xd [0,2,8] rfl ?_;refine aO rfl rfl (fun he=>?_) (fun he=>?_)
 · have hl:l=[]:=eT he;subst hl;refine G.cz func186 rfl ?_;refine xp rfl (aN (H.iO ) rfl) ?_;refine xp rfl (bJ H.lG rfl) ?_;refine RW.cu rfl rfl rfl (dU (Φ:=fun _ _=>False) rfl (eD rfl rfl (Ext.refl _ _))) ?_;rintro _ _ hpn;exact hpn.elim
 · obtain⟨c,r,rfl⟩:=List.exists_cons_of_ne_nil (fun(e:l=[])=>he (by rw[e];rfl));have hz:(bs (c::r)).size=r.length+1:=by rw[bD];rfl
   have hd:=oE (c::r) 1;simp only[List.length_cons] at hl;refine aC rfl ?_;refine bq func186 2 rfl ?_;refine xp rfl (af (off:=0) underlying196 rfl rfl H.fL rfl) ?_;refine xp rfl (ai H.gj rfl hs.cell) ?_;refine xp rfl (aj.dz underlying9 rfl rfl 0 rfl (iD rfl)) ?_;refine aS 1 [0,2,3,8] rfl ?_;refine bq func186 3 rfl ?_;refine xp rfl (af (off:=0) underlying196 rfl rfl H.fL rfl) ?_;refine xp rfl (ai H.gj rfl hs.cell) ?_;refine xp rfl (aj.iG underlying9 rfl rfl 1 rfl (by omega)) ?_;refine cD 1 rfl rfl (af (off:=0) underlying196 rfl rfl H.fL rfl) ?_;refine RW.cu rfl rfl rfl (aA.bB H.fL rfl rfl hs (by first|decide|exact of_decide_eq_true rfl|(simp;done)|(simp;omega)) rfl) ?_;rintro _ h1 ⟨rfl,hk,hx,hz1⟩;refine xd [0,2,3,8] rfl ?_;refine aZ func186 2 [0,2,3,8] rfl ?_;refine G.ret func186 rfl rfl ?_;exact⟨c,r,rfl,rfl,by rw[hd] at hk;exact hk,hx⟩
theorem lX (c:UInt8) (hs:St h rb l) (hl:l.length<=1000000):ah Tryz.prog 138 #[Av rb,.int .u8 (c.toNat:Nat)] h (dh fun v h' =>
 ((l.head? =some c/\v= .bool true/\St h' rb l.tail)\/(l.head? ≠some c/\v= .bool false/\St h' rb l))/\Ext (only rb) h h'):=by
 refine ah.of func138 rfl rfl ?_;refine aZ func138 1 [0,1,4] rfl ?_;refine av rfl ?_;refine av rfl ?_;refine G.bF [(18,.bool (decide (l.head? ≠some c)))] [(0,_),(1,_),(4,_)] ⟨rfl,rfl,rfl,trivial⟩ func138 rfl ?_ ?_
 · refine cD 2 rfl rfl (af (off:=0) underlying196 rfl rfl H.fL rfl) ?_;refine xp rfl (ai H.gj rfl hs.cell) ?_;refine xp rfl (aj.dX rfl rfl) ?_;refine bh 1 rfl ?_;refine aP (d:=10) rfl (fun he=>?_) (fun he=>?_)
   · have hl:l=[]:=eT (of_decide_eq_true he);refine bh 8 rfl ?_;refine aE rfl ?_;exact⟨rfl,aF rfl (by subst hl;simp),rfl,rfl,rfl,trivial⟩
   · obtain⟨d,r,rfl⟩:=List.exists_cons_of_ne_nil (fun(e:l=[])=>(of_decide_eq_false he) (by rw[e];rfl));refine cD 2 rfl rfl (af (off:=0) underlying196 rfl rfl H.fL rfl) ?_;refine xp rfl (ai H.gj rfl hs.cell) ?_;refine xp rfl (aj.dz underlying9 rfl rfl 0 rfl (iD rfl)) ?_;refine bh 3 rfl ?_;refine aE rfl ?_;exact⟨rfl,aF rfl (by simp only[List.head?_cons,Option.some.injEq,ne_eq];exact La d c),rfl,rfl,rfl,trivial⟩
 · refine aO rfl rfl (fun hn=>?_) (fun hn=>?_)
   · refine aZ func138 1 [0,1,4,18] rfl ?_;refine G.ret func138 rfl rfl ?_;exact⟨_,rfl,.inr ⟨hn,rfl,hs⟩,Ext.refl _ _⟩
   · have hn:=Classical.not_not.1 hn;obtain⟨d,r,rfl⟩:=List.exists_cons_of_ne_nil (fun(e:l=[])=>by rw[e] at hn;cases hn);have hz:(bs (d::r)).size=r.length+1:=by rw[bD];rfl
     have hd:=oE (d::r) 1;simp only[List.length_cons] at hl;refine aC rfl ?_;refine bq func138 3 rfl ?_;refine xp rfl (af (off:=0) underlying196 rfl rfl H.fL rfl) ?_;refine xp rfl (ai H.gj rfl hs.cell) ?_;refine xp rfl (aj.iG underlying9 rfl rfl 1 rfl (by omega)) ?_;refine cD 1 rfl rfl (af (off:=0) underlying196 rfl rfl H.fL rfl) ?_;refine RW.cu rfl rfl rfl (aA.bB H.fL rfl rfl hs (by first|decide|exact of_decide_eq_true rfl|(simp;done)|(simp;omega)) rfl) ?_;rintro _ h1 ⟨rfl,hk,hx,hz1⟩;refine xd [0,1,4,18] rfl ?_;refine aZ func138 1 [0,1,4,18] rfl ?_;refine G.ret func138 rfl rfl ?_;exact⟨_,rfl,.inl ⟨hn,rfl,by rw[hd] at hk;exact hk⟩,hx⟩
theorem u7 (c:UInt8) (hs:St h rb l) (hl:l.length<=1000000):ah Tryz.prog 197 #[Av rb,.int .u8 (c.toNat:Nat)] h (PR rb h (if l.head? =some c then some ((),l.tail) else none) fun _ _ _=>True):=by
 refine ah.of func197 rfl rfl ?_;refine bq func197 2 rfl ?_;refine xo rfl (aq (vs:=[_,_]) func138 rfl H.DV rfl (ah.bw (lX c hs hl))) ?_;rintro _ h1 ⟨hor,hx⟩
 rcases hor with ⟨h1,rfl,h2⟩|⟨h1,rfl,h2⟩
 · refine aS 1 [0,1,7] rfl ?_;refine aI rfl rfl (fun hc=>absurd hc (by decide)) (fun _=>?_);refine aC rfl ?_;refine G.vS func197 rfl ?_;exact⟨(),_,if_pos h1,trivial,h2,hx⟩
 · refine aS 1 [0,1,7] rfl ?_;refine aI rfl rfl (fun _=>?_) (fun hc=>absurd hc (by decide));refine G.cz func197 rfl ?_;refine xp rfl (aN (H.iO ) rfl) ?_;refine xp rfl (bJ H.lG rfl) ?_;refine RW.cu rfl rfl rfl (dU (Φ:=fun _ _=>False) rfl (eD rfl (if_neg h1) hx)) ?_;rintro _ _ hpn;exact hpn.elim
theorem ni (x:UInt8):ah Tryz.prog 208 #[.string ⟨#[40,41,91,93,124,42,43,63,46,92,45,94]⟩,.int .u8 (x.toNat:Nat)] h (dh fun r h'=>r= .int .i64 (Lib.indexByte gr x)/\h'=h) :=
 (mS _ _).ret fun _ _ ⟨ho,he⟩=>⟨by rw[ho];simp[gr],he⟩
theorem kB:∀x:UInt8,(0<=Lib.indexByte gr x)↔x∈gr:=by
 have h:∀n:Fin 256,(0<=Lib.indexByte gr (UInt8.ofNat n.val))↔(UInt8.ofNat n.val)∈gr:=by decide +kernel
 intro x;have:=h ⟨x.toNat,x.toNat_lt⟩;simpa using this
def Aa:By:=[48,49,50,51,52,53,54,55,56,57,97,98,99,100,101,102]
theorem zZ (x:UInt8):ah Tryz.prog 208 #[.string ⟨#[48,49,50,51,52,53,54,55,56,57,97,98,99,100,101,102]⟩,.int .u8 (x.toNat:Nat)] h (dh fun r h'=>r= .int .i64 (Lib.indexByte Aa x)/\h'=h) :=
 (mS _ _).ret fun _ _ ⟨ho,he⟩=>⟨by rw[ho];simp[Aa],he⟩
theorem ID:∀n:Fin 256,IntKind.u8.wrap ((BitVec.ofInt IntKind.u8.bits (n.val:Int) |||BitVec.ofInt IntKind.u8.bits 32).toNat)=(((UInt8.ofNat n.val) ||| 32).toNat:Nat):=by decide +kernel
theorem low (x:UInt8):IntKind.u8.wrap ((BitVec.ofInt IntKind.u8.bits (x.toNat:Int) |||BitVec.ofInt IntKind.u8.bits 32).toNat)=((x ||| 32).toNat:Nat):=by
 have:=ID ⟨x.toNat,x.toNat_lt⟩;simpa using this
theorem IY:∀n:Fin 256,mB (UInt8.ofNat n.val)=if Lib.indexByte Aa ((UInt8.ofNat n.val) ||| 32)<0\/n.val<48 then none else some (Lib.indexByte Aa ((UInt8.ofNat n.val) ||| 32)).toNat:=by decide +kernel
theorem Oj (x:UInt8):mB x=if Lib.indexByte Aa (x ||| 32)<0\/x.toNat<48 then none else some (Lib.indexByte Aa (x ||| 32)).toNat:=by
 have:=IY ⟨x.toNat,x.toNat_lt⟩;simpa using this
theorem Fh {x:UInt8}(h:mB x=some n):n<16:=by
 unfold mB at h;split at h
 · cases h;omega
 · split at h
   · cases h;omega
   · split at h
     · cases h;omega
     · cases h
theorem tF (x:UInt8):ah Tryz.prog 207 #[.int .u8 (x.toNat:Nat)] h (FE (fun v h'=>∃n:Nat,mB x=some n/\n<16/\v= .int .u8 n/\h'=h) (fun ch h'=>Du ch/\mB x=none/\h'=h)):=by
 have hd:=Oj x;refine ah.of func207 rfl rfl ?_;refine aZ func207 1 [0,2] rfl ?_;refine bq func207 1 rfl ?_;refine xp rfl (aj.Ag rfl rfl) ?_;refine xo rfl (aq (vs:=[_,_]) func208 rfl H.GL rfl (ah.bw ((low x▸zZ (x ||| 32))))) ?_;rintro _ _ ⟨rfl,rfl⟩;refine aS 1 [0,2,3] rfl ?_;refine av rfl ?_;refine av rfl ?_;refine G.bF [(12,.bool (decide (Lib.indexByte Aa (x ||| 32)<0\/x.toNat<48)))] [(0,_),(2,_),(3,_)] ⟨rfl,rfl,rfl,trivial⟩ func207 rfl ?_ ?_
 · refine bh 3 rfl ?_;refine aP (d:=9) rfl (fun hg=>?_) (fun hg=>?_)
   · refine bh 3 rfl ?_;refine aE rfl ?_;exact⟨rfl,aF rfl (by have:=of_decide_eq_true hg;simp[this]),rfl,rfl,rfl,trivial⟩
   · refine bh 3 rfl ?_;refine aE rfl ?_;exact⟨rfl,aF rfl (by have:=of_decide_eq_false hg;simp only[decide_eq_decide];omega),rfl,rfl,rfl,trivial⟩
 · refine aO rfl rfl (fun hn=>?_) (fun hn=>?_)
   · rw[if_pos hn] at hd;refine G.cz func207 rfl ?_;refine xp rfl (aN (H.iO ) rfl) ?_;refine xp rfl (bJ H.lG rfl) ?_;refine RW.cu rfl rfl rfl (dU (Φ:=fun _ _=>False) rfl (Jb ⟨rfl,hd,rfl⟩)) ?_;rintro _ _ hpn;exact hpn.elim
   · rw[if_neg hn] at hd;have h16:=Fh hd;refine aC rfl ?_;refine bq func207 1 rfl ?_;refine xp rfl (aj.Ed underlying3 underlying5 rfl) ?_;refine aS 1 [0,2,3,12] rfl ?_;refine G.ret func207 rfl rfl ?_;refine⟨_,hd,h16,?_,rfl⟩
     show Value.int .u8 _=_
     congr 1
     have:IntKind.u8.wrap (Lib.indexByte Aa (x ||| 32))=Lib.indexByte Aa (x ||| 32):=wrap_u8 (by omega);rw[this];omega
theorem Hl:∀m n:Fin 16,IntKind.u8.wrap ((BitVec.ofInt IntKind.u8.bits (IntKind.u8.wrap ((m.val:Int)*2 ^ min (4:Int).toNat IntKind.u8.bits)) |||BitVec.ofInt IntKind.u8.bits (n.val:Int)).toNat)=((UInt8.ofNat (m.val*16+n.val)).toNat:Nat):=by decide +kernel
theorem ND (hm:m<16) (hn:n<16):IntKind.u8.wrap ((BitVec.ofInt IntKind.u8.bits (IntKind.u8.wrap ((m:Int)*2 ^ min (4:Int).toNat IntKind.u8.bits)) |||BitVec.ofInt IntKind.u8.bits (n:Int)).toNat)=((UInt8.ofNat (m*16+n)).toNat:Nat):=Hl ⟨m,hm⟩ ⟨n,hn⟩
theorem KE {x:UInt8}(t:By) (h:mB x=none):rm (120::x::t)=none:=by
 unfold rm;cases t with
 |nil=>rfl
 |cons y t=>simp[h]
theorem pz (hs:St h rb l) (hl:l.length<=1000000):ah Tryz.prog 200 #[Av rb] h (PR rb h (rm l) fun c v _=>v= .int .u8 (c.toNat:Nat)):=by
 refine ah.of func200 rfl rfl ?_;refine aZ func200 1 [0,2] rfl ?_;refine av rfl ?_;refine bq func200 1 rfl ?_;refine xo rfl (aq (vs:=[_]) func186 rfl H.uZ rfl (ah.ke (gz hs hl) ((fun _ _ ⟨hc,hp,hx⟩=>eD hc (by rw[jL hp];rfl) hx)))) ?_;rintro _ h1 ⟨c,r,hp,rfl,hs1,hx1⟩;refine aS 1 [0,2,3] rfl ?_;refine G.block rfl rfl ?_;refine aZ func200 3 [0,2,3,7] rfl ?_;obtain rfl:=gC hp;simp only[List.length_cons] at hl;refine aO rfl rfl (fun e1=>?_) (fun e1=>?_)
 · have e1:c=110:=(dJ rfl).1 e1;refine aZ func200 1 [0,2,3,7] rfl ?_;refine G.ret func200 rfl rfl ?_;exact⟨10,r,by unfold rm;simp[e1],rfl,hs1,hx1⟩
 · have e1:¬c=110:=fun e=>e1 ((dJ rfl).2 e)
   refine aZ func200 3 [0,2,3,7,10] rfl ?_;refine aO rfl rfl (fun e2=>?_) (fun e2=>?_)
   · have e2:c=116:=(dJ rfl).1 e2;refine aZ func200 1 [0,2,3,7,10] rfl ?_;refine G.ret func200 rfl rfl ?_;exact⟨9,r,by unfold rm;simp[e2],rfl,hs1,hx1⟩
   · have e2:¬c=116:=fun e=>e2 ((dJ rfl).2 e)
     refine aZ func200 3 [0,2,3,7,10,13] rfl ?_;refine aO rfl rfl (fun e3=>?_) (fun e3=>?_)
     · have e3:c=114:=(dJ rfl).1 e3;refine aZ func200 1 [0,2,3,7,10,13] rfl ?_;refine G.ret func200 rfl rfl ?_;exact⟨13,r,by unfold rm;simp[e3],rfl,hs1,hx1⟩
     · have e3:¬c=114:=fun e=>e3 ((dJ rfl).2 e)
       refine aZ func200 3 [0,2,3,7,10,13,16] rfl ?_;refine aO rfl rfl (fun e4=>?_) (fun e4=>?_)
       · have e4:c=120:=(dJ rfl).1 e4;subst e4;refine bq func200 1 rfl ?_;refine xo rfl (aq (vs:=[_]) func186 rfl H.uZ rfl (ah.ke (gz hs1 (by omega)) ((fun _ _ ⟨hc,hp,hx⟩=>eD hc (by rw[jL hp];rfl) (hx1.trans hx))))) ?_;rintro _ h2 ⟨x,r2,hp2,rfl,hs2,hx2⟩;refine xo rfl (aq (vs:=[_]) func207 rfl H.JB rfl (ah.ke (tF x) ((fun _ h' ⟨hc,hq,hh⟩=>eD hc (by obtain rfl:=gC hp2;exact KE _ hq) (by subst hh;exact hx1.trans hx2))))) ?_;rintro _ _ ⟨m,hm,hm16,rfl,rfl⟩;refine aS 1 [0,2,3,4,7,10,13,16] rfl ?_;refine bq func200 1 rfl ?_;refine xp rfl (Em rfl rfl (by omega)) ?_;refine bh 1 rfl ?_;obtain rfl:=gC hp2;simp only[List.length_cons] at hl;refine xo rfl (aq (vs:=[_]) func186 rfl H.uZ rfl (ah.ke (gz hs2 (by omega)) ((fun _ _ ⟨hc,hp,hx⟩=>eD hc (by rw[jL hp];rfl) ((hx1.trans hx2).trans hx))))) ?_;rintro _ h3 ⟨y,r3,hp3,rfl,hs3,hx3⟩;refine xo rfl (aq (vs:=[_]) func207 rfl H.JB rfl (ah.ke (tF y) ((fun _ h' ⟨hc,hq,hh⟩=>eD hc (by obtain rfl:=gC hp3;unfold rm;simp[hm,hq]) (by subst hh;exact(hx1.trans hx2).trans hx3))))) ?_;rintro _ _ ⟨n,hn,hn16,rfl,rfl⟩;refine xp rfl (aj.Ag rfl rfl) ?_;refine aS 1 [0,2,3,4,7,10,13,16] rfl ?_;obtain rfl:=gC hp3;refine G.ret func200 rfl rfl ?_;exact⟨UInt8.ofNat (m*16+n),r3,by unfold rm;simp[hm,hn],by show Value.int _ _=_;rw[ND hm16 hn16],hs3,(hx1.trans hx2).trans hx3⟩
       · have e4:¬c=120:=fun e=>e4 ((dJ rfl).2 e)
         refine bq func200 1 rfl ?_;refine xo rfl (aq (vs:=[_,_]) func208 rfl H.GL rfl (ah.bw (ni c))) ?_;rintro _ _ ⟨rfl,rfl⟩;refine aS 2 [0,2,3,7,10,13,16,28] rfl ?_;refine aO rfl rfl (fun e5=>?_) (fun e5=>?_)
         · have e5:=(kB c).1 e5;refine aZ func200 2 [0,2,3,7,10,13,16,28] rfl ?_;refine G.ret func200 rfl rfl ?_;exact⟨c,r,by unfold rm;simp[e1,e2,e3,e4,e5],rfl,hs1,hx1⟩
         · have e5:¬c∈gr:=fun e=>e5 ((kB c).2 e)
           refine aC rfl ?_;refine G.aR ?_;refine G.cz func200 rfl ?_;refine xp rfl (aN (H.iO ) rfl) ?_;refine xp rfl (bJ H.lG rfl) ?_;refine RW.cu rfl rfl rfl (dU (Φ:=fun _ _=>False) rfl (eD rfl (by unfold rm;simp[e1,e2,e3,e4,e5]) hx1)) ?_;rintro _ _ hpn;exact hpn.elim
theorem qV (hs:St h rb l) (hl:l.length<=1000000):ah Tryz.prog 206 #[Av rb] h (PR rb h (pZ l) fun c v _=>v= .int .u8 (c.toNat:Nat)):=by
 refine ah.of func206 rfl rfl ?_;refine aZ func206 1 [0,2] rfl ?_;refine bq func206 1 rfl ?_;refine xo rfl (aq (vs:=[_]) func186 rfl H.uZ rfl (ah.ke (gz hs hl) ((fun _ _ ⟨hc,hp,hx⟩=>eD hc (by rw[jL hp];rfl) hx)))) ?_;rintro _ h1 ⟨c,r,hp,rfl,hs1,hx1⟩;refine aS 1 [0,2,3] rfl ?_;refine av rfl ?_;refine G.block rfl rfl ?_;refine aZ func206 3 [0,2,3,6] rfl ?_;obtain rfl:=gC hp;simp only[List.length_cons] at hl;refine aO rfl rfl (fun e1=>?_) (fun e1=>?_)
 · have e1:c=92:=(dJ rfl).1 e1;refine bq func206 1 rfl ?_;refine xo rfl (aq (vs:=[_]) func200 rfl H.JE rfl (ah.ke (pz hs1 (by omega)) ((fun _ _ ⟨hc,hp,hx⟩=>eD hc (by unfold pZ;simp[e1,hp]) (hx1.trans hx))))) ?_;rintro _ h2 ⟨d,r2,hp2,rfl,hs2,hx2⟩;refine aS 1 [0,2,3,6] rfl ?_;refine G.ret func206 rfl rfl ?_;exact⟨d,r2,by unfold pZ;simp[e1,hp2],rfl,hs2,hx1.trans hx2⟩
 · have e1:¬c=92:=fun e=>e1 ((dJ rfl).2 e)
   refine bq func206 1 rfl ?_;refine xo rfl (aq (vs:=[_,_]) func208 rfl H.GL rfl (ah.bw (ni c))) ?_;rintro _ _ ⟨rfl,rfl⟩;refine aS 2 [0,2,3,6,11] rfl ?_;refine aO rfl rfl (fun e5=>?_) (fun e5=>?_)
   · have e5:=(kB c).1 e5;refine G.cz func206 rfl ?_;refine xp rfl (aN (H.iO ) rfl) ?_;refine xp rfl (bJ H.lG rfl) ?_;refine RW.cu rfl rfl rfl (dU (Φ:=fun _ _=>False) rfl (eD rfl (by unfold pZ;simp[e1,e5]) hx1)) ?_;rintro _ _ hpn;exact hpn.elim
   · have e5:¬c∈gr:=fun e=>e5 ((kB c).2 e)
     refine aC rfl ?_;refine G.aR ?_;refine aZ func206 2 [0,2,3,6,11] rfl ?_;refine G.ret func206 rfl rfl ?_;exact⟨c,r,by unfold pZ;simp[e1,e5],rfl,hs1,hx1⟩
theorem GU (k s:Nat) (v:Value) (i:Nat) (hi:i<256):(ey k s v).set (1+i / 64*1) (.int .u64 ((Cn s (i / 64) ||| 2 ^ (i%64):Nat):Int))=ey k (s |||(1 <<< i)) v:=by
 have h4:i / 64<4:=by omega
 have hw:=FL s i;have hs:∀q,q≠i / 64->fy (s |||(1 <<< i)) q=fy s q:=fun q hq=>by unfold fy;rw[FM s i q hq]
 have he:fy (s |||(1 <<< i)) (i / 64)= .int .u64 ((Cn s (i / 64) ||| 2 ^ (i%64):Nat):Int):=by unfold fy;rw[hw]
 rw[<-he];generalize i / 64=q at *;unfold ey
 match q,h4 with
 | 0,_=>rw[hs 1 (by decide),hs 2 (by decide),hs 3 (by decide)];rfl
 | 1,_=>rw[hs 0 (by decide),hs 2 (by decide),hs 3 (by decide)];rfl
 | 2,_=>rw[hs 0 (by decide),hs 1 (by decide),hs 3 (by decide)];rfl
 | 3,_=>rw[hs 0 (by decide),hs 1 (by decide),hs 2 (by decide)];rfl
theorem GS (k s:Nat) (v:Value) (q:Nat) (hq:q<4):(ey k s v)[1+q*1]? =some (fy s q):=by
 match q,hq with
 | 0,_=>rfl
 | 1,_=>rfl
 | 2,_=>rfl
 | 3,_=>rfl
theorem Kj {w i:Nat}(hw:w<18446744073709551616):IntKind.u64.wrap ((BitVec.ofInt IntKind.u64.bits (w:Int) |||BitVec.ofInt IntKind.u64.bits (IntKind.u64.wrap (1*2 ^ min (((i:Int)).tmod 64).toNat IntKind.u64.bits))).toNat:Int)=((w ||| 2 ^ (i%64):Nat):Int):=by
 have h1:((i:Int)).tmod 64=((i%64:Nat):Int):=by rw[Int.tmod_eq_emod_of_nonneg (by omega)];omega
 have hb:i%64<64:=Nat.mod_lt _ (by decide);have h2:2 ^ (i%64)<2 ^ 64:=Nat.pow_lt_pow_right (by decide) hb;rw[h1,Le,M3 hw h2]
theorem CA (s i n:Nat) (h:0<n):xR s i n=xR (s |||(1 <<< i)) (i+1) (n-1):=by
 cases n with
 |zero=>omega
 |succ n=>rfl
theorem iF {nb k s:Nat}{v:Value}(hk:bp h nb 132 (ey k s v)) (a b:UInt8):ah Tryz.prog 199 #[.pointer (some ⟨nb,1,none⟩),.int .u8 (a.toNat:Nat),.int .u8 (b.toNat:Nat)] h (dh fun _ h' =>
 bp h' nb 132 (ey k (oO s a b) v)/\Ext (only nb) h h'):=by
 have ha:=a.toNat_lt;have hb:=b.toNat_lt;refine ah.of func199 rfl rfl ?_;refine bq func199 1 rfl ?_;refine xp rfl (aj.we underlying5 underlying3 rfl (wrap_i64 ⟨by omega,by omega⟩)) ?_;refine aS 1 [0,1,2,6] rfl ?_;refine G.block rfl rfl ?_;refine bG (σ:=Nat×Nat) (fun q=>[(0,.pointer (some ⟨nb,1,none⟩)),(2,.int .u8 (b.toNat:Nat)),(6,.int .i64 (q.1:Nat))]) (fun q h'=>bp h' nb 132 (ey k q.2 v)/\Ext (only nb) h h'/\q.1<=256/\xR q.2 q.1 (b.toNat+1-q.1)=oO s a b) (fun q=>b.toNat+1-q.1) ((a.toNat,s)) rfl ⟨rfl,rfl,rfl,trivial⟩ ⟨hk,Ext.refl _ _,by show a.toNat<=256;omega,rfl⟩ ?_;rintro⟨i,s'⟩ h1 ⟨hk1,hx1,hi,hsp⟩ ih
 try dsimp only
 dsimp only at hk1 hi hsp;refine av rfl ?_;refine bq func199 2 rfl ?_;refine xp rfl (aj.we underlying5 underlying3 rfl (wrap_i64 ⟨by omega,by omega⟩)) ?_;refine aS 1 [0,2,6,12] rfl ?_;refine aO rfl rfl (fun hle=>?_) (fun hle=>?_)
 · have hi255:i<=b.toNat:=by omega
   rw[CA _ _ _ (by omega)] at hsp;have hq:i / 64<4:=by omega
   have hdiv:IntKind.i64.wrap (((i:Int)).tdiv 64)=((i / 64:Nat):Int):=by
    rw[Int.tdiv_eq_ediv_of_nonneg (by omega),wrap_i64 ⟨by omega,by omega⟩];omega
   have hw:=Cm s' (i / 64);have hset:=GU k s' v i (by omega);have hk1':bp h1 nb 132 [.int .i64 k,fy s' 0,fy s' 1,fy s' 2,fy s' 3,v]:=hk1;refine aC rfl ?_;refine av rfl ?_;refine G.block rfl rfl ?_;refine b6 (fun b=>Array.size h1<=b) (fun i=>Nat.blt i 12) (sz:=13) (listed:= #[false,false,false,false,false,false,false,false,false,false,false,false,false]) func199 H.mixed rfl rfl rfl ?_;refine cg 0 1 (by kernel_rfl) rfl ?_;refine cg 1 3 (by kernel_rfl) rfl ?_;refine bL 2 7 (by kernel_rfl) rfl (fun h' e=>Ap rfl rfl (by decide)) ?_;refine cg 3 15 (by kernel_rfl) rfl ?_;refine bL 4 31 (by kernel_rfl) rfl (fun h' e=>aj.cX underlying129 H.uG rfl rfl (i / 64) hdiv hq) ?_;refine bL 5 63 (by kernel_rfl) rfl (fun h' e=>ai H.HS rfl (e.old (hk1.cell (GS k s' v _ hq)))) ?_;refine cg 6 127 (by kernel_rfl) rfl ?_;refine bL 7 255 (by kernel_rfl) rfl (fun h' e=>Ao rfl rfl (by decide)) ?_;refine bL 8 511 (by kernel_rfl) rfl (fun h' e=>Em rfl rfl (by rw[Int.tmod_eq_emod_of_nonneg (by omega)];omega)) ?_;refine bL 9 1023 (by kernel_rfl) rfl (fun h' e=>aj.Ag rfl rfl) ?_;refine eM 10 2047 (by kernel_rfl) rfl (aj.bw (aM rfl)) ?_;rintro _ hq_ ⟨rfl,hqe_⟩;replace hqe_:=hqe_.symm;subst hqe_;refine⟨fun _=>Ext.refl _ _,?_⟩;refine bL 11 4095 (by kernel_rfl) rfl (fun h' e=>aj.cX underlying129 H.uG rfl rfl (i / 64) hdiv hq) ?_;refine mN 12 8191 (by kernel_rfl) rfl (aA.bB H.uG rfl rfl hk1' (by first|decide|exact of_decide_eq_true rfl|(simp;done)|(simp;omega)) rfl) ?_;rintro _ h2 ⟨rfl,hk2,hx2,hz2⟩;refine⟨fun hk=>(nomatch hk),?_⟩;refine br (by kernel_rfl) ?_;refine xu [0,2,6,12] rfl ?_;refine G.aR ?_;refine G.cz func199 rfl ?_;refine cD 1 rfl rfl (aj.bE rfl rfl ⟨by omega,by omega⟩) ?_;refine aS 1 [0,2,6,12] rfl ?_;rw[Kj hw,show [.int .i64 (k:Int),fy s' 0,fy s' 1,fy s' 2,fy s' 3,v]=ey k s' v from rfl,hset] at hk2;exact ih (i+1,s' |||(1 <<< i)) _ _ ⟨rfl,rfl,rfl,trivial⟩ ⟨hk2,hx1.trans hx2,by show i+1<=256;omega,by show xR _ (i+1) (b.toNat+1-(i+1))=_;rw[<-hsp];rfl⟩ (by show b.toNat+1-(i+1)<b.toNat+1-i;omega)
 · have h0:b.toNat+1-i=0:=by omega
   rw[h0] at hsp;refine bA rfl rfl ?_;refine G.vS func199 rfl ?_;exact⟨_,rfl,by rw[<-hsp];exact hk1,hx1⟩
theorem Fi (s:Nat) (b:UInt8):ah Tryz.prog 103 #[.agg (vV s).toArray,.int .u8 (b.toNat:Nat)] h (dh fun r h'=>r= .bool (s.testBit b.toNat)/\aD h h'):=by
 have hb:=b.toNat_lt;have hq:b.toNat / 64<4:=by omega
 have hdiv:IntKind.u8.wrap (((b.toNat:Int)).tdiv 64)=((b.toNat / 64:Nat):Int):=by
  rw[Int.tdiv_eq_ediv_of_nonneg (by omega),wrap_u8 (by omega)];omega
 have hmod:((b.toNat:Int)).tmod 64=((b.toNat%64:Nat):Int):=by rw[Int.tmod_eq_emod_of_nonneg (by omega)];omega
 have hm64:b.toNat%64<64:=Nat.mod_lt _ (by decide)
 have hword:∀q,q<4->(vV s)[0+q*1]? =some (fy s q):=fun q hq=>by
  match q,hq with
  | 0,_=>rfl
  | 1,_=>rfl
  | 2,_=>rfl
  | 3,_=>rfl
 refine ah.of func103 rfl rfl ?_;refine xr func103 rfl ?_;refine xo rfl (aA.gP rfl) ?_;rintro _ h1 ⟨rfl,hk,he,hz⟩;refine aS 1 [0,1,2,4] rfl ?_;refine bq func103 1 rfl ?_;refine xp rfl (Ap rfl rfl (by decide)) ?_;have hk:bp h1 h.size 129 (vV s):=hk;refine xp rfl (aj.cX underlying129 H.uG rfl rfl (b.toNat / 64) hdiv hq) ?_;refine xp rfl (ai H.HS rfl (hk.cell (hword _ hq))) ?_;refine cD 1 rfl rfl (Ao rfl rfl (by decide)) ?_;refine xp rfl (Jf rfl rfl (by rw[hmod];omega)) ?_;refine xp rfl (aj.HG rfl rfl) ?_;refine aS 2 [0,1,2,4] rfl ?_;refine G.ret func103 rfl rfl ?_;refine⟨_,rfl,?_,he⟩;rw[hmod,Ld _ _ hm64,NH (Nat.lt_of_le_of_lt (Nat.shiftRight_le _ _) (Cm s _)),Ie];cases s.testBit b.toNat<;>rfl
theorem kq.only {h0:az}{g:Nat}(e:Ext M h0 h) (x:Ext (fun b=>b=g) h h') (hg:h0.size<=g):Ext M h0 h' :=
 ⟨Nat.le_trans e.size x.size,fun b hb hm=>by rw[x.block b (Nat.lt_of_lt_of_le hb e.size) (by omega)];exact e.block b hb hm⟩
theorem kq.ax {h0:az}(e:Ext M h0 h) (x:aD h h'):Ext M h0 h':=e.trans (aD.of x)
theorem uM:∀(n m acc:Nat) (s:By),s.length<n->s.length<m->mQ n acc s=mQ m acc s
 | 0,_,_,_,h,_=>by omega
 |_,0,_,_,_,h=>by omega
 |n+1,m+1,acc,s,hn,hm=>by
  rw[mQ,mQ];cases hf:fJ s with
  |none=>rfl
  |some p =>
   obtain⟨⟨a,b⟩,r⟩:=p;have hlen:=nP hf;simp only;split
   · rfl
   · exact uM n m _ _ (by omega) (by omega)
def pE (first:Bool) (acc:Nat) (l:By):Option (Nat×By):=if first=false/\l.head? =some 93 then some (acc,l.tail) else mQ (l.length+1) acc l
theorem ql {first:Bool}{acc:Nat}(h:¬(first=false/\l.head? =some 93)) (hf:fJ l=none):pE first acc l=none:=by
 unfold pE;rw[if_neg h,mQ,hf]
theorem wg {first:Bool}{acc:Nat}{b:UInt8}(h:¬(first=false/\l.head? =some 93)) (hf:fJ l=some ((a,b),r)):pE first acc l=pE false (oO acc a b) r:=by
 have hlen:=nP hf;unfold pE;rw[if_neg h,mQ,hf];simp only[true_and];split
 · simp
 · rename_i hne
   rw[if_neg (fun e=>by
    cases r with
    |nil=>cases e
    |cons c t=>simp at e;subst e;exact hne t rfl)]
   exact uM _ _ _ _ (by omega) (by omega)
theorem Mf (h:pZ l=none):fJ l=none:=by unfold fJ;rw[h]
theorem Me (h:pZ l=some (a,r)) (hr:r.head? ≠some 45):fJ l=some ((a,a),r):=by
 unfold fJ;rw[h];simp only;split
 · exact absurd rfl hr
 · rfl
theorem Md (h:pZ l=some (a,r)) (hr:r.head? =some 45) (hb:pZ r.tail=none):fJ l=none:=by
 unfold fJ;rw[h];cases r with
 |nil=>cases hr
 |cons c t=>simp at hr;subst hr;simp at hb;simp[hb]
theorem Mc {r':By}{b:UInt8}(h:pZ l=some (a,r)) (hr:r.head? =some 45) (hb:pZ r.tail=some (b,r')):fJ l=if b.toNat<a.toNat then none else some ((a,b),r'):=by
 unfold fJ;rw[h];cases r with
 |nil=>cases hr
 |cons c t=>simp at hr;subst hr;simp at hb;simp[hb]
theorem xD (l:By):jg l=(pE true 0 (if l.head? =some 94 then l.tail else l)).map fun p=>(.mk 1 (if l.head? =some 94 then nE p.1 else p.1) [],p.2):=by
 unfold jg pE;split
 · simp
 · rename_i hne
   have h1:l.head? ≠some 94:=fun e=>by
    cases l with
    |nil=>cases e
    |cons c t=>simp at e;subst e;exact hne t rfl
   simp[h1]
theorem Ic (s q:Nat) (hq:q<4):Cn (nE s) q=18446744073709551615 ^^^ Cn s q:=by
 apply Nat.eq_of_testBit_eq
 intro i;rw[lS,Nat.testBit_xor,lS];unfold nE;rw[Nat.testBit_xor,show HP=2 ^ 256-1 from rfl,Nat.testBit_two_pow_sub_one,show (18446744073709551615:Nat)=2 ^ 64-1 from rfl,Nat.testBit_two_pow_sub_one]
 by_cases hi:i<64
 · have:64*q+i<256:=by omega
   simp[hi,this]
 · simp[hi]
theorem K6 {x:Nat}(hx:x<18446744073709551616):IntKind.u64.wrap ((BitVec.ofInt IntKind.u64.bits (if IntKind.u64.signed then -1 else IntKind.u64.max) ^^^ BitVec.ofInt IntKind.u64.bits (x:Int)).toNat:Int)=((18446744073709551615 ^^^ x:Nat):Int):=by
 have e:(BitVec.ofInt IntKind.u64.bits (if IntKind.u64.signed then -1 else IntKind.u64.max) ^^^ BitVec.ofInt IntKind.u64.bits (x:Int)).toNat=18446744073709551615 ^^^ x:=by
  rw[BitVec.toNat_xor]
  have h1:(BitVec.ofInt IntKind.u64.bits (x:Int)).toNat=x:=by
   show (BitVec.ofInt 64 (x:Int)).toNat=x
   simp only[BitVec.toNat_ofInt];omega
  rw[h1];rfl
 rw[e];have:18446744073709551615 ^^^ x<2 ^ 64:=Nat.xor_lt_two_pow (by decide) hx;exact oo ⟨by omega,by omega⟩
def Bp (s q i:Nat):Value:=if i<q then fy (nE s) i else fy s i
def Ku (s q:Nat):List Value:=[.int .i64 1,Bp s q 0,Bp s q 1,Bp s q 2,Bp s q 3,.slice none 0 0]
theorem GR (s q:Nat) (hq:q<4):(Ku s q)[1+q*1]? =some (fy s q):=by
 match q,hq with
 | 0,_=>rfl
 | 1,_=>rfl
 | 2,_=>rfl
 | 3,_=>rfl
theorem IB (s q:Nat) (hq:q<4):(Ku s q).set (1+q*1) (.int .u64 ((18446744073709551615 ^^^ Cn s q:Nat):Int))=Ku s (q+1):=by
 rw[<-Ic s q hq]
 match q,hq with
 | 0,_=>rfl
 | 1,_=>rfl
 | 2,_=>rfl
 | 3,_=>rfl
abbrev Eg (n:Nat):Nat->Prop:=fun b=>b<n
def Dp (n:Nat) (x:Nd) (v:Value) (h':az):Prop:=∃w,v= .agg (ey x.kind x.set w).toArray/\ct h' (Eg n) (ey x.kind x.set w) x
theorem ga (h:az) (O:Nat->Prop) (k s:Nat):ct h O (ey k s (.slice none 0 0)) (.mk k s []):=.of k s (bX.nil _ _ _)
theorem xC (hs:St h rb l) (hl:l.length<=1000000):ah Tryz.prog 198 #[Av rb] h (PR rb h (jg l) (Dp h.size)):=by
 have hlt:=hs.lt;have hbr:=xD l;refine ah.of func198 rfl rfl ?_;refine xr func198 rfl ?_;refine xo rfl (aA.aY H.kQ) ?_;rintro _ h1 ⟨rfl,hkr,he1,hz1⟩;refine xd [0,2] rfl ?_;refine xr func198 rfl ?_;refine xp rfl (aN (H.Ei _) rfl) ?_;refine xo rfl (aA.aY H.kQ) ?_;rintro _ h2 ⟨rfl,hk2,he2,hz2⟩;refine RW.cu rfl rfl rfl (aA.aB H.cy rfl rfl hk2 (by first|rfl|(simp;done)|(simp;omega)) (by first|decide|exact of_decide_eq_true rfl|(simp;done)|(simp;omega)) (by first|decide|simp[Value.oneCell'])) ?_;rintro _ h3 ⟨rfl,hk3,hx3,hz3⟩;have hk3:bp h3 h1.size 132 (ey 1 0 (.slice none 0 0)):=hk3;have hkr:bp h1 h.size 132 (ey 0 0 (.slice none 0 0)):=hkr;have e3:aD h h3:=aD.only (he1.trans he2) hx3 (by omega);have hkr3:bp h3 h.size 132 (ey 0 0 (.slice none 0 0)):=(hkr.ax he2).ext hx3 (by show ¬_=_;omega);have hs3:St h3 rb l:=bp.ax hs e3;refine xd [0,2,3] rfl ?_;refine bq func198 1 rfl ?_;refine xo rfl (aq (vs:=[_,_]) func138 rfl H.DV rfl (ah.bw (lX 94 hs3 hl))) ?_;rintro _ h4 ⟨hor,hx4⟩
 obtain⟨nt,l1,rfl,hnt,hl1,hs4⟩:∃(nt:Bool) (l1:By),_=Value.bool nt/\nt=decide (l.head? =some 94)/\l1=(if l.head? =some 94 then l.tail else l)/\St h4 rb l1:=by
  rcases hor with ⟨a1,a2,a3⟩|⟨a1,a2,a3⟩
  · exact⟨true,_,a2,by simp[a1],by rw[if_pos a1],a3⟩
  · exact⟨false,_,a2,by simp[a1],by rw[if_neg a1],a3⟩
 rw[<-hl1] at hbr;have hl1l:l1.length<=1000000:=by rw[hl1];split;(have:l.tail.length<=l.length:=by simp);omega;exact hl
 have hkr4:=hkr3.ext hx4 (by show ¬_=_;omega);have hk4:=hk3.ext hx4 (by show ¬_=_;omega);have e4:Ext (only rb) h h4:=(aD.of e3).trans hx4;have hz4:=hx4.size;generalize htg:pE true 0 l1=tgt at hbr;refine aS 1 [0,2,3,4] rfl ?_;refine av rfl ?_;refine aZ func198 1 [0,2,3,4,5] rfl ?_;refine G.block rfl rfl ?_;refine bG (σ:=Bool×Nat×By) (fun q=>[(0,Av rb),(2,.pointer (some ⟨h.size,0,none⟩)),(3,.pointer (some ⟨h1.size,0,none⟩)),(4,.bool nt),(5,.bool q.1)]) (fun q h'=>St h' rb q.2.2/\bp h' h1.size 132 (ey 1 q.2.1 (.slice none 0 0))/\bp h' h.size 132 (ey 0 0 (.slice none 0 0))/\Ext (only rb) h h'/\q.2.2.length<=1000000/\pE q.1 q.2.1 q.2.2=tgt) (fun q=>q.2.2.length) ((true,0,l1)) rfl ⟨rfl,rfl,rfl,rfl,rfl,trivial⟩ ⟨hs4,hk4,hkr4,e4,hl1l,htg⟩ ?_;rintro⟨first,acc,m⟩ h5 ⟨hs5,hk5,hkr5,e5,hm,hcon⟩ ih
 try dsimp only
 dsimp only at hs5 hk5 hm hcon;refine av rfl ?_;refine av rfl ?_;refine G.bF [(17,.bool (decide (¬(first=false/\m.head? =some 93))))] [(0,_),(2,_),(3,_),(4,_),(5,_)] ⟨rfl,rfl,rfl,rfl,rfl,trivial⟩ func198 rfl ?_ ?_
 · refine bh 2 rfl ?_;refine aP (d:=13) rfl (fun hf=>?_) (fun hf=>?_)
   · refine bh 4 rfl ?_;refine aE rfl ?_;exact⟨rfl,aF rfl (by simp[hf]),rfl,rfl,rfl,rfl,rfl,trivial⟩
   · refine bh 1 rfl ?_;refine xo rfl (aq (vs:=[_]) func185 rfl H.JG rfl (ah.bw (u6 hs5))) ?_;rintro _ _ ⟨rfl,rfl⟩;refine bh 2 rfl ?_;refine aE rfl ?_;exact⟨rfl,aF rfl (by cases m with|nil=>simp|cons c t=>simp only[hf,List.head?_cons,Option.getD_some,Option.some.injEq,true_and];exact decide_eq_decide.2 (not_congr (dJ rfl))),rfl,rfl,rfl,rfl,rfl,trivial⟩
 · refine aO rfl rfl (fun hgo=>?_) (fun hgo=>?_)
   · refine aC rfl ?_;refine av rfl ?_;refine G.block rfl rfl ?_;refine bq func198 1 rfl ?_;refine xo rfl (aq (vs:=[_]) func206 rfl H.JC rfl (ah.ke (qV hs5 hm) ((fun _ _ ⟨hc,hp,hx⟩=>eD hc (by rw[hbr,<-hcon,ql hgo (Mf hp)];rfl) (e5.trans hx))))) ?_;rintro _ h6 ⟨a,r,ha,rfl,hs6,hx6⟩;have hrl:=qW ha;have hk6:=hk5.ext hx6 (by show ¬_=_;omega);have hkr6:=hkr5.ext hx6 (by show ¬_=_;omega);have e6:=e5.trans hx6;refine aS 1 [0,2,3,4,5,6,17] rfl ?_;refine aZ func198 2 [0,2,3,4,5,6,7,17] rfl ?_;refine av rfl ?_;refine bq func198 1 rfl ?_;refine xo rfl (aq (vs:=[_,_]) func138 rfl H.DV rfl (ah.bw (lX 45 hs6 (by omega)))) ?_;rintro _ h7 ⟨hor7,hx7⟩;have hk7:=hk6.ext hx7 (by show ¬_=_;omega);have hkr7:=hkr6.ext hx7 (by show ¬_=_;omega);have e7:=e6.trans hx7
     rcases hor7 with ⟨a1,rfl,hs7⟩|⟨a1,rfl,hs7⟩
     · have htl:r.tail.length<=r.length:=by simp
       refine xd [0,2,3,4,5,6,7,17,22] rfl ?_;refine aI rfl rfl (fun _=>?_) (fun hc=>absurd hc (by decide));refine G.cz func198 rfl ?_;refine bh 1 rfl ?_;refine xo rfl (aq (vs:=[_]) func206 rfl H.JC rfl (ah.ke (qV hs7 (by omega)) ((fun _ _ ⟨hc,hp,hx⟩=>eD hc (by rw[hbr,<-hcon,ql hgo (Md ha a1 hp)];rfl) (e7.trans hx))))) ?_;rintro _ h8 ⟨b,r8,hb,rfl,hs8,hx8⟩;have hbl:=qW hb;have hk8:=hk7.ext hx8 (by show ¬_=_;omega);have hkr8:=hkr7.ext hx8 (by show ¬_=_;omega);have e8:=e7.trans hx8;have hf4:=Mc ha a1 hb;refine aS 1 [0,2,3,4,5,6,7,17,22] rfl ?_;refine av rfl ?_;refine aZ func198 3 [0,2,3,4,5,6,7,17,22,27] rfl ?_;refine aO rfl rfl (fun hlow=>?_) (fun hlow=>?_)
       · rw[if_pos (by omega)] at hf4;refine G.cz func198 rfl ?_;refine xp rfl (aN (H.iO ) rfl) ?_;refine xp rfl (bJ H.lG rfl) ?_;refine RW.cu rfl rfl rfl (dU (Φ:=fun _ _=>False) rfl (eD rfl (by rw[hbr,<-hcon,ql hgo hf4];rfl) e8)) ?_;rintro _ _ hpn;exact hpn.elim
       · rw[if_neg (by omega)] at hf4;refine aC rfl ?_;refine G.cz func198 rfl ?_;refine xp rfl (af (off:=1) underlying132 rfl rfl H.mP rfl) ?_;refine bh 2 rfl ?_;refine xo rfl (aq (vs:=[_,_,_]) func199 rfl H.xZ rfl (ah.bw (iF hk8 a b))) ?_;rintro _ h9 ⟨hk9,hx9⟩;refine xd [0,2,3,4,5,6,7,17,22,27] rfl ?_;refine G.aR ?_;refine G.cz func198 rfl ?_;refine aS 1 [0,2,3,4,5,6,7,17,22,27] rfl ?_;have hsp:=wg (acc:=acc) hgo hf4;exact ih (false,oO acc a b,r8) _ _ ⟨rfl,rfl,rfl,rfl,rfl,trivial⟩ ⟨bp.ext hs8 hx9 (by show ¬_=_;omega),hk9,hkr8.ext hx9 (by show ¬_=_;omega),kq.only e8 hx9 (by omega),by show r8.length<=_;omega,by rw[<-hcon,hsp]⟩ (by show r8.length<m.length;omega)
     · have hf2:=Me ha a1;refine xd [0,2,3,4,5,6,7,17,22] rfl ?_;refine aI rfl rfl (fun hc=>absurd hc (by decide)) (fun _=>?_);refine aC rfl ?_;refine av rfl ?_;refine aZ func198 3 [0,2,3,4,5,6,7,17,22,27] rfl ?_;refine aI rfl rfl (fun hc=>absurd hc (by simp)) (fun _=>?_);refine aC rfl ?_;refine G.cz func198 rfl ?_;refine xp rfl (af (off:=1) underlying132 rfl rfl H.mP rfl) ?_;refine bh 2 rfl ?_;refine xo rfl (aq (vs:=[_,_,_]) func199 rfl H.xZ rfl (ah.bw (iF hk7 a a))) ?_;rintro _ h9 ⟨hk9,hx9⟩;refine xd [0,2,3,4,5,6,7,17,22,27] rfl ?_;refine G.aR ?_;refine G.cz func198 rfl ?_;refine aS 1 [0,2,3,4,5,6,7,17,22,27] rfl ?_;have hsp:=wg (acc:=acc) hgo hf2;exact ih (false,oO acc a a,r) _ _ ⟨rfl,rfl,rfl,rfl,rfl,trivial⟩ ⟨bp.ext hs7 hx9 (by show ¬_=_;omega),hk9,hkr7.ext hx9 (by show ¬_=_;omega),kq.only e7 hx9 (by omega),by show r.length<=_;omega,by rw[<-hcon,hsp]⟩ (by show r.length<m.length;omega)
   · have hgo:=Classical.not_not.1 hgo;have htgt:tgt=some (acc,m.tail):=by rw[<-hcon];unfold pE;rw[if_pos hgo]
     refine bA rfl rfl ?_;refine bq func198 1 rfl ?_;refine xo rfl (aq (vs:=[_,_]) func197 rfl H.JF rfl (ah.ke (u7 93 hs5 hm) ((fun _ _ ⟨hc,hp,hx⟩=>absurd hp (by rw[if_pos hgo.2];simp))))) ?_;rintro _ h6 ⟨_,r,hp,_,hs6,hx6⟩;refine xd [0,2,3,4,5,17] rfl ?_;refine av rfl ?_;refine aZ func198 1 [0,2,3,4,5,17,36] rfl ?_;refine G.block rfl rfl ?_;rw[if_pos hgo.2] at hp;cases hp;have hk6:=hk5.ext hx6 (by show ¬_=_;omega);have hkr6:=hkr5.ext hx6 (by show ¬_=_;omega);have e6:=e5.trans hx6;have hk6:bp h6 h1.size 132 (Ku acc 0):=hk6;refine bG (σ:=Nat) (fun q=>[(2,.pointer (some ⟨h.size,0,none⟩)),(3,.pointer (some ⟨h1.size,0,none⟩)),(4,.bool nt),(36,.int .i64 (q:Nat))]) (fun q h'=>q<=4/\St h' rb m.tail/\bp h' h1.size 132 (Ku acc (if nt then q else 0))/\bp h' h.size 132 (ey 0 0 (.slice none 0 0))/\Ext (only rb) h h') (fun q=>4-q) (0) rfl ⟨rfl,rfl,rfl,rfl,trivial⟩ ⟨by omega,hs6,by cases nt<;>exact hk6,hkr6,e6⟩ ?_;rintro q h7 ⟨hq,hs7,hk7,hkr7,e7⟩ ih;refine aZ func198 1 [2,3,4,36,37] rfl ?_;refine av rfl ?_;refine aO rfl rfl (fun hq4=>?_) (fun hq4=>?_)
     · have hq4':q<4:=by omega
       refine aC rfl ?_;refine av rfl ?_;refine G.block rfl rfl ?_;refine aZ func198 2 [2,3,4,8,36,37] rfl ?_;refine aZ func198 1 [2,3,4,8,36,37,39] rfl ?_;refine aI rfl rfl (fun hb=>?_) (fun hb=>?_)
       · rw[if_pos hb] at hk7;have hk7':bp h7 h1.size 132 [.int .i64 1,Bp acc q 0,Bp acc q 1,Bp acc q 2,Bp acc q 3,.slice none 0 0]:=hk7;refine G.cz func198 rfl ?_;refine cD 2 rfl rfl (af (off:=1) underlying132 rfl rfl H.mP rfl) ?_;refine xp rfl (aj.cX underlying129 H.uG rfl rfl q rfl hq4') ?_;refine xp rfl (ai H.HS rfl (hk7.cell (GR acc q hq4'))) ?_;refine xp rfl (aj.Mi rfl) ?_;refine xp rfl (af (off:=1) underlying132 rfl rfl H.mP rfl) ?_;refine xp rfl (aj.cX underlying129 H.uG rfl rfl q rfl hq4') ?_;refine RW.cu rfl rfl rfl (aA.bB H.uG rfl rfl hk7' (by first|decide|exact of_decide_eq_true rfl|(simp;done)|(simp;omega)) rfl) ?_;rintro _ h8 ⟨rfl,hk8,hx8,hz8⟩;refine xd [2,3,4,8,36,37,39] rfl ?_;refine G.aR ?_;refine G.cz func198 rfl ?_;refine xp rfl (aj.bE rfl rfl ⟨by omega,by omega⟩) ?_;refine aS 1 [2,3,4,8,36,37,39] rfl ?_;have hk8:bp h8 h1.size 132 (Ku acc (q+1)):=by rw[<-IB acc q hq4',<-K6 (Cm acc q)];exact hk8
         exact ih (q+1) _ _ ⟨rfl,rfl,rfl,rfl,trivial⟩ ⟨by omega,bp.ext hs7 hx8 (by show ¬_=_;omega),by rw[if_pos hb];exact hk8,hkr7.ext hx8 (by show ¬_=_;omega),kq.only e7 hx8 (by omega)⟩ (by omega)
       · rw[if_neg (by rw[hb];decide)] at hk7;refine aC rfl ?_;refine G.aR ?_;refine G.cz func198 rfl ?_;refine xp rfl (aj.bE rfl rfl ⟨by omega,by omega⟩) ?_;refine aS 1 [2,3,4,8,36,37,39] rfl ?_;exact ih (q+1) _ _ ⟨rfl,rfl,rfl,rfl,trivial⟩ ⟨by omega,hs7,by rw[if_neg (by rw[hb];decide)];exact hk7,hkr7,e7⟩ (by omega)
     · obtain rfl:q=4:=by omega
       have hfin:Ku acc (if nt then 4 else 0)=ey 1 (if l.head? =some 94 then nE acc else acc) (.slice none 0 0):=by
        subst hnt
        by_cases hd:l.head? =some 94<;>simp[hd]<;>rfl
       rw[hfin] at hk7;have hbr2:jg l=some (.mk 1 (if l.head? =some 94 then nE acc else acc) [],m.tail):=by rw[hbr,htgt];rfl
       generalize (if l.head? =some 94 then nE acc else acc)=fs at hk7 hbr2;refine bA rfl rfl ?_;refine xr func198 rfl ?_;refine xp rfl (aj.aH H.fA H.cy rfl hk7.row (by first|rfl|(simp;done)|(simp;omega))) ?_;refine RW.cu rfl rfl rfl (aA.aB H.cy rfl rfl hkr7 (by first|rfl|(simp;done)|(simp;omega)) (by first|decide|exact of_decide_eq_true rfl|(simp;done)|(simp;omega)) (ct.one (ga h7 (only rb) 1 fs))) ?_;rintro _ h8 ⟨rfl,hk8,hx8,hz8⟩;refine xd [2,3,4,36,37] rfl ?_;have hk8:bp h8 h.size 132 (ey 1 fs (.slice none 0 0)):=hk8;refine G.cU func198 rfl (.cons (bl.cM H.fA H.cy rfl (hk8.row) (by first|rfl|(simp;done)|(simp;omega))) (.nil)) ?_;exact⟨_,m.tail,hbr2,⟨_,rfl,ga _ _ _ _⟩,bp.ext hs7 hx8 (by show ¬_=_;omega),kq.only e7 hx8 (Nat.le_refl _)⟩
theorem iw {cs:List Value}(k:ct h (Eg m) cs x) (hn:n<=m) (e:Ext M h h') (hM:∀b,b<h.size->M b->b<m):ct h' (Eg n) cs x :=
 k.mv (Mv.dQ e fun b hb ho=>⟨fun hm=>ho (hM b hb hm),fun k=>ho (Nat.lt_of_lt_of_le k hn)⟩)
theorem GA {cs ds:List Value}(h:cs.length=ds.length):over cs 0 ds=ds:=by
 unfold over;rw[List.drop_of_length_le (by omega)];simp
theorem rf {O:Nat->Prop}{v:Value}{xs:List Nd}(kind:Nat) (hv:bX tA h O v xs):ah Tryz.prog 139 #[.int .i64 (kind:Nat),v] h (dh fun r h'=>(∃w,r= .agg (ey (cK kind xs).kind (cK kind xs).set w).toArray/\ct h' O (ey (cK kind xs).kind (cK kind xs).set w) (cK kind xs))/\aD h h'):=by
 obtain⟨oa,n,c,rfl,hsl⟩:=hv.open;have hn:=hsl.len;refine ah.of func139 rfl rfl ?_;refine xr func139 rfl ?_;refine xo rfl (aA.aY H.kQ) ?_;rintro _ h1 ⟨rfl,hk,he,hz⟩;refine xd [0,1,4] rfl ?_;refine av rfl ?_;refine bq func139 1 rfl ?_;refine xp rfl (aj.aJ underlying130 rfl) ?_;refine xd [0,1,4,6] rfl ?_;refine G.block rfl rfl ?_;refine aZ func139 2 [0,1,4,6,7] rfl ?_;have hk:bp h1 h.size 132 (ey 0 0 (.slice none 0 0)):=hk;have hsl1:=hsl.mv (Mv.ax he);have hv1:=hv.ax he;refine aO rfl rfl (fun e0=>?_) (fun e0=>?_)
 · obtain rfl:n=0:=by omega
   have hx:xs=[]:=List.eq_nil_of_length_eq_zero hn;subst hx;refine xr func139 rfl ?_;refine xp rfl (aN (H.Di ) rfl) ?_;refine RW.cu rfl rfl rfl (aA.aB H.cy rfl rfl hk (by first|rfl|(simp;done)|(simp;omega)) (by first|decide|exact of_decide_eq_true rfl|(simp;done)|(simp;omega)) (by first|decide|simp[Value.oneCell'])) ?_;rintro _ h2 ⟨rfl,hk2,hx2,hz2⟩;refine xd [0,1,4,6,7] rfl ?_;have hk2:bp h2 h.size 132 (ey 0 0 (.slice none 0 0)):=hk2;refine G.cU func139 rfl (.cons (bl.cM H.fA H.cy rfl (hk2.row) (by first|rfl|(simp;done)|(simp;omega))) (.nil)) ?_;exact⟨_,rfl,⟨_,rfl,ga _ _ 0 0⟩,aD.only he hx2 (Nat.le_refl _)⟩
 · refine aZ func139 2 [0,1,4,6,7,10] rfl ?_;refine aO rfl rfl (fun e1=>?_) (fun e1=>?_)
   · obtain rfl:n=1:=by omega
     obtain⟨x,rfl⟩:=List.length_eq_one_iff.1 hn;obtain⟨b,o,cs,ha,ho,hr,hR⟩:=hsl.get 0 x rfl;have hr:=he.rowAt (fun k=>k) hr;obtain⟨w,rfl,hw⟩:=ct.open hR;refine bq func139 1 rfl ?_;refine xp rfl (aj.ay underlying130 H.cy rfl rfl 0 rfl ha (by decide)) ?_;refine xp rfl (aj.aH H.fA H.cy rfl hr (by first|rfl|(simp;done)|(simp;omega))) ?_;refine RW.cu rfl rfl rfl (aA.aB H.cy rfl rfl hk (by first|rfl|(simp;done)|(simp;omega)) (by first|decide|exact of_decide_eq_true rfl|(simp;done)|(simp;omega)) (tA.one hR)) ?_;rintro _ h2 ⟨rfl,hk2,hx2,hz2⟩;refine xd [0,1,4,6,7,10] rfl ?_;have hk2:bp h2 h.size 132 (ey x.kind x.set w):=hk2;refine G.cU func139 rfl (.cons (bl.cM H.fA H.cy rfl (hk2.row) (by first|rfl|(simp;done)|(simp;omega))) (.nil)) ?_;exact⟨_,rfl,⟨w,rfl,ct.ax hR (aD.only he hx2 (Nat.le_refl _))⟩,aD.only he hx2 (Nat.le_refl _)⟩
   · refine aC rfl ?_;refine G.aR ?_;refine bq func139 2 rfl ?_;refine xp rfl (aN (H.sA _ _ _ _) rfl) ?_;refine RW.cu rfl rfl rfl (aA.aB H.cy rfl rfl hk (by first|rfl|(simp;done)|(simp;omega)) (by first|decide|exact of_decide_eq_true rfl|(simp;done)|(simp;omega)) (by first|decide|simp[Value.oneCell'])) ?_;rintro _ h2 ⟨rfl,hk2,hx2,hz2⟩;refine xd [0,1,4,6,7,10] rfl ?_;have hk2:bp h2 h.size 132 (ey kind 0 (.slice oa n c)):=hk2;refine G.cU func139 rfl (.cons (bl.cM H.fA H.cy rfl (hk2.row) (by first|rfl|(simp;done)|(simp;omega))) (.nil)) ?_
     have hj:cK kind xs= .mk kind 0 xs:=by
      unfold cK;split
      · simp at hn;omega
      · simp at hn;omega
      · rfl
     rw[hj];exact⟨_,rfl,⟨.slice oa n c,rfl,ct.of kind 0 (hv.ax (aD.only he hx2 (Nat.le_refl _)))⟩,aD.only he hx2 (Nat.le_refl _)⟩
def Sg (h:az) (lim:Nat):Prop:=∃m,10<lim/\m<lim/\cellAt h ⟨10,0,none⟩=some (.map (some m)) /\
 ∃l:List (Int×Int),gi (Value.int .u8) (Value.int .i64) h m l/\∀c:UInt8,((lQ (c.toNat:Int) l).map (Value.int .i64)).getD (Value.int .i64 0)=Value.int .i64 (dV c:Nat)
theorem Sg.ext {h h':az}{lim:Nat}(k:Sg h lim){M:Nat->Prop}(e:Ext M h h') (hM:∀b,M b->lim<=b):Sg h' lim:=by
 obtain⟨m,h1,h2,h3,l,h4,h5⟩:=k;exact⟨m,h1,h2,e.cell (fun k=>absurd (hM _ k) (by show ¬lim<=10;omega)) h3,l,h4.ext e (fun k=>by have:=hM _ k;omega),h5⟩
def wM (d lim:Nat):Prop:=∀(h:az) (rb:Nat) (l:By),Sg h lim->lim<=rb->St h rb l->l.length<d->l.length<=1000000 ->
 ah Tryz.prog 94 #[Av rb] h (PR rb h (eI d l) (Dp h.size))
theorem Dk (ih:wM d lim) (hg:Sg h lim) (hrb:lim<=rb) (hs:St h rb l) (hd:l.length<=d) (hl:l.length<=1000000):ah Tryz.prog 184 #[Av rb] h (PR rb h (fW (eI d) l) (Dp h.size)):=by
 have hlt:=hs.lt;refine ah.of func184 rfl rfl ?_;refine xr func184 rfl ?_;refine xo rfl (aA.aY H.kQ) ?_;rintro _ h1 ⟨rfl,hkr,he1,hz1⟩;refine xd [0,2] rfl ?_;refine xr func184 rfl ?_;refine xp rfl (aN (H.Ei _) rfl) ?_;refine xo rfl (aA.aY H.kQ) ?_;rintro _ h2 ⟨rfl,hk2,he2,hz2⟩;refine RW.cu rfl rfl rfl (aA.aB H.cy rfl rfl hk2 (by first|rfl|(simp;done)|(simp;omega)) (by first|decide|exact of_decide_eq_true rfl|(simp;done)|(simp;omega)) (by first|decide|simp[Value.oneCell'])) ?_;rintro _ h3 ⟨rfl,hk3,hx3,hz3⟩;have hk3:bp h3 h1.size 132 (ey 1 0 (.slice none 0 0)):=hk3;have hkr:bp h1 h.size 132 (ey 0 0 (.slice none 0 0)):=hkr;have e3:aD h h3:=aD.only (he1.trans he2) hx3 (by omega);have hkr3:bp h3 h.size 132 (ey 0 0 (.slice none 0 0)):=(hkr.ax he2).ext hx3 (by show ¬_=_;omega);have hs3:St h3 rb l:=bp.ax hs e3;refine xd [0,2,3] rfl ?_;refine av rfl ?_;refine bq func184 1 rfl ?_;refine xo rfl (aq (vs:=[_]) func186 rfl H.uZ rfl (ah.ke (gz hs3 hl) ((fun _ _ ⟨hc,hp,hx⟩=>eD hc (by rw[jL hp];rfl) ((aD.of e3).trans hx))))) ?_;rintro _ h4 ⟨c,r,hp,rfl,hs4,hx4⟩;obtain rfl:=gC hp;simp only[List.length_cons] at hl hd;have hkr4:=hkr3.ext hx4 (by show ¬_=_;omega);have hk4:=hk3.ext hx4 (by show ¬_=_;omega);have e4:Ext (only rb) h h4:=(aD.of e3).trans hx4;have hz4:=hx4.size;have hg4:Sg h4 lim:=hg.ext e4 (fun b (hb:b=rb)=>by omega);refine aS 1 [0,2,3,4] rfl ?_;refine aZ func184 1 [0,2,3,4,8] rfl ?_;refine G.block rfl rfl ?_;refine aZ func184 2 [0,2,3,4,8,13] rfl ?_
 have fin:∀(x:Nd) (w:Value) (m:By) (h':az) (ρ':Env),Sub [(0,Av rb),(2,.pointer (some ⟨h.size,0,none⟩)),(3,.pointer (some ⟨h1.size,0,none⟩))] ρ'->bp h' h1.size 132 (ey x.kind x.set w)->bp h' h.size 132 (ey 0 0 (.slice none 0 0))->St h' rb m->ct h' (Eg (h.size+1)) (ey x.kind x.set w) x->Ext (only rb) h h'->fW (eI d) (c::r)=some (x,m)->G Tryz.prog 184 f184 [.code [1,1,1]] ρ' h' (PR rb h (fW (eI d) (c::r)) (Dp h.size)):=by
  rintro x w m hh ρ' hsub hkx hkrr hst hnd hee hat;refine G.sub (ρ':=[(0,Av rb),(2,.pointer (some ⟨h.size,0,none⟩)),(3,.pointer (some ⟨h1.size,0,none⟩))]) hsub ?_;refine xr func184 rfl ?_;refine xp rfl (aj.aH H.fA H.cy rfl hkx.row (by first|rfl|(simp;done)|(simp;omega))) ?_;refine RW.cu rfl rfl rfl (aA.aB H.cy rfl rfl hkrr (by first|rfl|(simp;done)|(simp;omega)) (by first|decide|exact of_decide_eq_true rfl|(simp;done)|(simp;omega)) (ct.one hnd)) ?_;rintro _ h9 ⟨rfl,hk9,hx9,hz9⟩;refine xd [0,2,3] rfl ?_;have hk9:bp h9 h.size 132 (ey x.kind x.set w):=hk9;refine G.cU func184 rfl (.cons (bl.cM H.fA H.cy rfl (hk9.row) (by first|rfl|(simp;done)|(simp;omega))) (.nil)) ?_;exact⟨x,m,hat,⟨w,rfl,iw hnd (Nat.le_succ _) hx9 (fun b _ (hb:b=h.size)=>by omega)⟩,bp.ext hst hx9 (by show ¬_=_;omega),kq.only hee hx9 (Nat.le_refl _)⟩
 refine aO rfl rfl (fun c1=>?_) (fun c1=>?_)
 · have c1:c=40:=(dJ rfl).1 c1;subst c1;refine bq func184 1 rfl ?_;refine xo rfl (aq (vs:=[_]) func94 rfl H.Ls rfl (ah.ke (ih h4 rb r hg4 hrb hs4 (by omega) (by omega)) ((fun _ _ ⟨hc,hp,hx⟩=>eD hc (by unfold fW;simp[hp]) (e4.trans hx))))) ?_;rintro _ h5 ⟨x,r5,hp5,⟨w,rfl,hnd5⟩,hs5,hx5⟩;have hk5:=hk4.ext hx5 (by show ¬_=_;omega);have hkr5:=hkr4.ext hx5 (by show ¬_=_;omega);have hr5:=lp d hp5;refine RW.cu rfl rfl rfl (aA.aB H.cy rfl rfl hk5 (by first|rfl|(simp;done)|(simp;omega)) (by first|decide|exact of_decide_eq_true rfl|(simp;done)|(simp;omega)) (ct.one hnd5)) ?_;rintro _ h6 ⟨rfl,hk6,hx6,hz6⟩;refine xd [0,2,3,4,8,13] rfl ?_;refine G.cz func184 rfl ?_;refine bh 1 rfl ?_;have hk6:bp h6 h1.size 132 (ey x.kind x.set w):=hk6;have hs6:St h6 rb r5:=bp.ext hs5 hx6 (by show ¬_=_;omega);have hnd6:ct h6 (Eg (h.size+1)) (ey x.kind x.set w) x:=iw hnd5 (by omega) hx6 (fun b _ (hb:b=h1.size)=>by omega);have e6:=kq.only (e4.trans hx5) hx6 (by omega);refine xo rfl (aq (vs:=[_,_]) func197 rfl H.JF rfl (ah.ke (u7 41 hs6 (by omega)) ((fun _ _ ⟨hc,hp,hx⟩=>eD hc (by unfold fW;simp only[if_true,hp5];split;rename_i t ht;cases ht;simp at hp;rfl) (e6.trans hx))))) ?_;rintro _ h7 ⟨_,r7,hp7,_,hs7,hx7⟩;refine xd [0,2,3,4,8,13] rfl ?_;refine G.aR ?_
   have hcl:r5=41::r7:=by
    split at hp7
    · rename_i hh;cases hp7;cases r5 with|nil=>cases hh|cons a b=>simp at hh;subst hh;rfl
    · cases hp7
   subst hcl;exact fin x w r7 _ _ ⟨rfl,rfl,rfl,trivial⟩ (hk6.ext hx7 (by show ¬_=_;omega)) ((hkr5.ext hx6 (by show ¬_=_;omega)).ext hx7 (by show ¬_=_;omega)) hs7 (iw hnd6 (Nat.le_refl _) hx7 (fun b _ (hb:b=rb)=>by omega)) (e6.trans hx7) (by unfold fW;simp[hp5])
 · have c1:¬c=40:=fun e=>c1 ((dJ rfl).2 e)
   refine aZ func184 2 [0,2,3,4,8,13,19] rfl ?_;refine aO rfl rfl (fun c2=>?_) (fun c2=>?_)
   · have c2:c=91:=(dJ rfl).1 c2;refine G.cz func184 rfl ?_;refine bh 1 rfl ?_;refine xo rfl (aq (vs:=[_]) func198 rfl H.LH rfl (ah.ke (xC hs4 (by omega)) ((fun _ _ ⟨hc,hp,hx⟩=>eD hc (by unfold fW;simp[c2,hp]) (e4.trans hx))))) ?_;rintro _ h5 ⟨x,r5,hp5,⟨w,rfl,hnd5⟩,hs5,hx5⟩;have hk5:=hk4.ext hx5 (by show ¬_=_;omega);have hkr5:=hkr4.ext hx5 (by show ¬_=_;omega);refine RW.cu rfl rfl rfl (aA.aB H.cy rfl rfl hk5 (by first|rfl|(simp;done)|(simp;omega)) (by first|decide|exact of_decide_eq_true rfl|(simp;done)|(simp;omega)) (ct.one hnd5)) ?_;rintro _ h6 ⟨rfl,hk6,hx6,hz6⟩;refine xd [0,2,3,4,8,13,19] rfl ?_;refine G.aR ?_;have hk6:bp h6 h1.size 132 (ey x.kind x.set w):=hk6;exact fin x w r5 _ _ ⟨rfl,rfl,rfl,trivial⟩ hk6 (hkr5.ext hx6 (by show ¬_=_;omega)) (bp.ext hs5 hx6 (by show ¬_=_;omega)) (iw hnd5 (by omega) hx6 (fun b _ (hb:b=h1.size)=>by omega)) (kq.only (e4.trans hx5) hx6 (by omega)) (by unfold fW;simp[c2,hp5])
   · have c2:¬c=91:=fun e=>c2 ((dJ rfl).2 e)
     refine aZ func184 2 [0,2,3,4,8,13,19,23] rfl ?_;refine aO rfl rfl (fun c3=>?_) (fun c3=>?_)
     · have c3:c=46:=(dJ rfl).1 c3;refine xr func184 rfl ?_;refine xp rfl (af (off:=1) underlying132 rfl rfl H.mP rfl) ?_;refine xo rfl (aq (vs:=[_,_,_]) func199 rfl H.xZ rfl (ah.bw (iF hk4 0 9))) ?_;rintro _ h5 ⟨hk5,hx5⟩;refine xd [0,2,3,4,8,13,19,23] rfl ?_;refine G.cz func184 rfl ?_;refine xp rfl (af (off:=1) underlying132 rfl rfl H.mP rfl) ?_;refine xo rfl (aq (vs:=[_,_,_]) func199 rfl H.xZ rfl (ah.bw (iF hk5 11 255))) ?_;rintro _ h6 ⟨hk6,hx6⟩;refine xd [0,2,3,4,8,13,19,23] rfl ?_;refine G.aR ?_;have hx56:=hx5.trans hx6;exact fin JV (.slice none 0 0) r _ _ ⟨rfl,rfl,rfl,trivial⟩ hk6 (hkr4.ext hx56 (by show ¬_=_;omega)) (bp.ext hs4 hx56 (by show ¬_=_;omega)) (ga _ _ _ _) (kq.only e4 hx56 (by omega)) (by unfold fW;simp[c3])
     · have c3:¬c=46:=fun e=>c3 ((dJ rfl).2 e)
       refine aZ func184 2 [0,2,3,4,8,13,19,23,29] rfl ?_;refine aO rfl rfl (fun c4=>?_) (fun c4=>?_)
       · have c4:c=92:=(dJ rfl).1 c4;refine bq func184 1 rfl ?_;refine xo rfl (aq (vs:=[_]) func200 rfl H.JE rfl (ah.ke (pz hs4 (by omega)) ((fun _ _ ⟨hc,hp,hx⟩=>eD hc (by unfold fW;simp[c4,hp]) (e4.trans hx))))) ?_;rintro _ h5 ⟨b,r5,hp5,rfl,hs5,hx5⟩;have hk5:=hk4.ext hx5 (by show ¬_=_;omega);have hkr5:=hkr4.ext hx5 (by show ¬_=_;omega);refine aS 1 [0,2,3,4,8,13,19,23,29] rfl ?_;refine G.cz func184 rfl ?_;refine xp rfl (af (off:=1) underlying132 rfl rfl H.mP rfl) ?_;refine bh 2 rfl ?_;refine xo rfl (aq (vs:=[_,_,_]) func199 rfl H.xZ rfl (ah.bw (iF hk5 b b))) ?_;rintro _ h6 ⟨hk6,hx6⟩;refine xd [0,2,3,4,8,13,19,23,29] rfl ?_;refine G.aR ?_;exact fin (Ae b) (.slice none 0 0) r5 _ _ ⟨rfl,rfl,rfl,trivial⟩ hk6 (hkr5.ext hx6 (by show ¬_=_;omega)) (bp.ext hs5 hx6 (by show ¬_=_;omega)) (ga _ _ _ _) (kq.only (e4.trans hx5) hx6 (by omega)) (by unfold fW;simp[c4,hp5])
       · have c4:¬c=92:=fun e=>c4 ((dJ rfl).2 e)
         refine av rfl ?_;refine aZ func184 2 [0,2,3,4,8,13,19,23,29,37] rfl ?_;refine aO rfl rfl (fun d41=>?_) (fun d41=>?_)
         · have d41:c=41:=(dJ rfl).1 d41;refine aC rfl ?_;refine aI rfl rfl (fun _=>?_) (fun hc=>absurd hc (by rw[d41];decide));refine G.cz func184 rfl ?_;refine xp rfl (aN (H.iO ) rfl) ?_;refine xp rfl (bJ H.lG rfl) ?_;refine RW.cu rfl rfl rfl (dU (Φ:=fun _ _=>False) rfl (eD rfl (by unfold fW;simp[d41]) e4)) ?_;rintro _ _ hpn;exact hpn.elim
         · have d41:¬c=41:=fun e=>d41 ((dJ rfl).2 e)
           refine aZ func184 2 [0,2,3,4,8,13,19,23,29,37] rfl ?_;refine aO rfl rfl (fun d93=>?_) (fun d93=>?_)
           · have d93:c=93:=(dJ rfl).1 d93;refine aC rfl ?_;refine aI rfl rfl (fun _=>?_) (fun hc=>absurd hc (by rw[d93];decide));refine G.cz func184 rfl ?_;refine xp rfl (aN (H.iO ) rfl) ?_;refine xp rfl (bJ H.lG rfl) ?_;refine RW.cu rfl rfl rfl (dU (Φ:=fun _ _=>False) rfl (eD rfl (by unfold fW;simp[d93]) e4)) ?_;rintro _ _ hpn;exact hpn.elim
           · have d93:¬c=93:=fun e=>d93 ((dJ rfl).2 e)
             refine aZ func184 2 [0,2,3,4,8,13,19,23,29,37] rfl ?_;refine aO rfl rfl (fun d124=>?_) (fun d124=>?_)
             · have d124:c=124:=(dJ rfl).1 d124;refine aC rfl ?_;refine aI rfl rfl (fun _=>?_) (fun hc=>absurd hc (by rw[d124];decide));refine G.cz func184 rfl ?_;refine xp rfl (aN (H.iO ) rfl) ?_;refine xp rfl (bJ H.lG rfl) ?_;refine RW.cu rfl rfl rfl (dU (Φ:=fun _ _=>False) rfl (eD rfl (by unfold fW;simp[d124]) e4)) ?_;rintro _ _ hpn;exact hpn.elim
             · have d124:¬c=124:=fun e=>d124 ((dJ rfl).2 e)
               refine aZ func184 2 [0,2,3,4,8,13,19,23,29,37] rfl ?_;refine aO rfl rfl (fun d42=>?_) (fun d42=>?_)
               · have d42:c=42:=(dJ rfl).1 d42;refine aC rfl ?_;refine aI rfl rfl (fun _=>?_) (fun hc=>absurd hc (by rw[d42];decide));refine G.cz func184 rfl ?_;refine xp rfl (aN (H.iO ) rfl) ?_;refine xp rfl (bJ H.lG rfl) ?_;refine RW.cu rfl rfl rfl (dU (Φ:=fun _ _=>False) rfl (eD rfl (by unfold fW;simp[d42]) e4)) ?_;rintro _ _ hpn;exact hpn.elim
               · have d42:¬c=42:=fun e=>d42 ((dJ rfl).2 e)
                 refine aZ func184 2 [0,2,3,4,8,13,19,23,29,37] rfl ?_;refine aO rfl rfl (fun d43=>?_) (fun d43=>?_)
                 · have d43:c=43:=(dJ rfl).1 d43;refine aC rfl ?_;refine aI rfl rfl (fun _=>?_) (fun hc=>absurd hc (by rw[d43];decide));refine G.cz func184 rfl ?_;refine xp rfl (aN (H.iO ) rfl) ?_;refine xp rfl (bJ H.lG rfl) ?_;refine RW.cu rfl rfl rfl (dU (Φ:=fun _ _=>False) rfl (eD rfl (by unfold fW;simp[d43]) e4)) ?_;rintro _ _ hpn;exact hpn.elim
                 · have d43:¬c=43:=fun e=>d43 ((dJ rfl).2 e)
                   refine G.cz func184 rfl ?_;refine aS 2 [0,2,3,4,8,13,19,23,29,37] rfl ?_;refine aO rfl rfl (fun d63=>?_) (fun d63=>?_)
                   · have d63:c=63:=(dJ rfl).1 d63;refine G.cz func184 rfl ?_;refine xp rfl (aN (H.iO ) rfl) ?_;refine xp rfl (bJ H.lG rfl) ?_;refine RW.cu rfl rfl rfl (dU (Φ:=fun _ _=>False) rfl (eD rfl (by unfold fW;simp[d63]) e4)) ?_;rintro _ _ hpn;exact hpn.elim
                   · have d63:¬c=63:=fun e=>d63 ((dJ rfl).2 e)
                     refine G.cz func184 rfl ?_;refine xp rfl (af (off:=1) underlying132 rfl rfl H.mP rfl) ?_;refine bh 2 rfl ?_;refine xo rfl (aq (vs:=[_,_,_]) func199 rfl H.xZ rfl (ah.bw (iF hk4 c c))) ?_;rintro _ h6 ⟨hk6,hx6⟩;refine xd [0,2,3,4,8,13,19,23,29,37] rfl ?_;refine G.aR ?_;exact fin (Ae c) (.slice none 0 0) r _ _ ⟨rfl,rfl,rfl,trivial⟩ hk6 (hkr4.ext hx6 (by show ¬_=_;omega)) (bp.ext hs4 hx6 (by show ¬_=_;omega)) (ga _ _ _ _) (kq.only e4 hx6 (by omega)) (by unfold fW;simp[c1,c2,c3,c4,d41,d93,d124,d42,d43,d63])
theorem yY {ρ:Env}{dst:Option Nat}{ty:TypeId}{pos:String}{after:Array Edge}{guard:Option (Nat×Bool)}{x y:Operand}{l:List (Int×Int)}
 (hx:bV ρ x=some (.map (some m))) (hy:bV ρ y=some (.int .u8 (c.toNat:Nat))) (hm:gi (Value.int .u8) (Value.int .i64) h m l) (hv:∀c:UInt8,((lQ (c.toNat:Int) l).map (Value.int .i64)).getD (Value.int .i64 0)=Value.int .i64 (dV c:Nat)) :
 aj Tryz.prog ⟨dst,.lookup 283 x y false,ty,pos,after,guard⟩ ρ h (.int .i64 (dV c:Nat)):=by
 have:=aj.lookup (P:=Tryz.prog) (ρ:=ρ) (h:=h) (dst:=dst) (ty:=ty) (pos:=pos) (after:=after) (guard:=guard) (jZ.int .u8) underlying283 underlying5 (z:=.int .i64 0) (et:=3) (by kernel_rfl) hx hy rfl hm
 rwa [hv c] at this
theorem AX (h:0<dV c):fE x (c::r)=fE (.mk (dV c) 0 [x]) r:=by
 rw[fE,if_neg (by omega)]
theorem AW {m:By}(h:dV (m.head?.getD 0)=0):fE x m=(x,m):=by
 cases m with
 |nil=>rfl
 |cons c r=>rw[fE,if_pos (by simpa using h)]
theorem Bd (ih:wM d lim) (hg:Sg h lim) (hrb:lim<=rb) (hs:St h rb l) (hd:l.length<=d) (hl:l.length<=1000000):ah Tryz.prog 169 #[Av rb] h (PR rb h (gH (eI d) l) (Dp h.size)):=by
 have hlt:=hs.lt;refine ah.of func169 rfl rfl ?_;refine xr func169 rfl ?_;refine xo rfl (aA.aY H.kQ) ?_;rintro _ h1 ⟨rfl,hkr,he1,hz1⟩;refine xd [0,2] rfl ?_;refine bq func169 1 rfl ?_;refine xo rfl (aq (vs:=[_]) func184 rfl H.LL rfl (ah.ke (Dk ih (hg.ext he1 (fun _ k=>k.elim)) hrb (bp.ax hs he1) hd hl) ((fun _ _ ⟨hc,hp,hx⟩=>eD hc (by unfold gH;rw[hp];rfl) ((aD.of he1).trans hx))))) ?_;rintro _ h2 ⟨x0,m0,hp0,⟨w0,rfl,hnd2⟩,hs2,hx2⟩;refine xo rfl (aA.aY H.kQ) ?_;rintro _ h3 ⟨rfl,hk3,he3,hz3⟩;refine RW.cu rfl rfl rfl (aA.aB H.cy rfl rfl hk3 (by first|rfl|(simp;done)|(simp;omega)) (by first|decide|exact of_decide_eq_true rfl|(simp;done)|(simp;omega)) (ct.one hnd2)) ?_;rintro _ h4 ⟨rfl,hk4,hx4,hz4⟩;have hz2:=hx2.size;have hkr:bp h1 h.size 132 (ey 0 0 (.slice none 0 0)):=hkr;have hk4:bp h4 h2.size 132 (ey x0.kind x0.set w0):=hk4;have e2:Ext (only rb) h h2:=(aD.of he1).trans hx2;have hkr2:=hkr.ext hx2 (by show ¬_=_;omega);have e24:aD h2 h4:=aD.only he3 hx4 (Nat.le_refl _);have hnd4:ct h4 (fun b=>b<h.size+1\/b=h2.size) (ey x0.kind x0.set w0) x0:=hnd2.mv (Mv.dQ e24 fun b hb hn=>⟨fun k=>k,fun k=>by have:¬b<h1.size:=hn;omega⟩);have hm0:=yD (fun h=>lp d h) hp0;have hpc:gH (eI d) l=some (fE x0 m0):=by unfold gH;rw[hp0];rfl
 generalize htg:fE x0 m0=tgt at hpc;generalize hnb:h2.size=nb at hk4 hnd4 hs2;have hnb1:h.size+1<=nb:=by omega
 refine xd [0,2,3] rfl ?_;refine av rfl ?_;refine G.block rfl rfl ?_;refine bG (σ:=Nd×Value×By) (fun q=>[(0,Av rb),(2,.pointer (some ⟨h.size,0,none⟩)),(3,.pointer (some ⟨nb,0,none⟩))]) (fun q h'=>St h' rb q.2.2/\bp h' nb 132 (ey q.1.kind q.1.set q.2.1)/\bp h' h.size 132 (ey 0 0 (.slice none 0 0))/\Ext (only rb) h h'/\ct h' (fun b=>b<h.size+1\/b=nb) (ey q.1.kind q.1.set q.2.1) q.1/\q.2.2.length<=1000000/\fE q.1 q.2.2=tgt) (fun q=>q.2.2.length) ((x0,w0,m0)) rfl ⟨rfl,rfl,rfl,trivial⟩ ⟨bp.ax hs2 e24,hk4,hkr2.ax e24,kq.ax e2 e24,hnd4,by show m0.length<=_;omega,htg⟩ ?_;rintro⟨x,w,m⟩ h5 ⟨hs5,hk5,hkr5,e5,hnd5,hm,hsg⟩ ih
 try dsimp only
 dsimp only at hs5 hk5 hnd5 hm hsg;have hg5:Sg h5 lim:=hg.ext e5 (fun b (hb:b=rb)=>by omega);obtain⟨mp,hm1,hm2,hcell,lm,hmap,hval⟩:=hg5;refine av rfl ?_;refine av rfl ?_;refine G.eY func169 H.mixed rfl (by kernel_rfl) ?_;refine RQ.au rfl rfl rfl rfl (ai H.J0 rfl hcell) ?_;refine RQ.au rfl rfl rfl rfl (aL rfl) ?_;refine RQ.JW (vs:=[_]) rfl rfl rfl rfl rfl func185 rfl H.JG rfl (u6 hs5) ?_;refine RQ.au rfl rfl rfl rfl (yY rfl rfl hmap hval) ?_;refine RQ.au rfl rfl rfl rfl (Eo rfl rfl) ?_;refine cP rfl ?_;refine xu [0,2,3,10] rfl ?_;refine aO rfl rfl (fun hgo=>?_) (fun hgo=>?_)
 · have hgo:0<dV (m.head?.getD 0):=by omega
   obtain⟨c,r,rfl⟩:=List.exists_cons_of_ne_nil (fun(e:m=[])=>by rw[e] at hgo;revert hgo;decide);have hgo:0<dV c:=hgo;rw[AX hgo] at hsg;simp only[List.length_cons] at hm;have hlt5:=hk5.lt;have hltr:=hkr5.lt
   have hn1:¬((⟨10,0,none⟩:Addr).block=rb\/Array.size h5<=(⟨10,0,none⟩:Addr).block):=by
    show ¬(10=rb\/Array.size h5<=10);omega
   have hn2:¬(nb=rb\/Array.size h5<=nb):=by omega
   have hn3:¬(mp=rb\/Array.size h5<=mp):=by omega
   have hO5:¬(h5.size<h.size+1\/h5.size=nb):=by have:=hkr5.lt;omega
   refine aC rfl ?_;refine G.block rfl rfl ?_;refine b6 (fun b=>b=rb\/Array.size h5<=b) (fun i=>Nat.blt i 7) (sz:=8) (listed:= #[false,false,false,false,false,false,false,false]) func169 H.mixed rfl rfl rfl ?_;refine bL 0 1 (by kernel_rfl) rfl (fun h' e=>ai H.J0 rfl (e.cell hn1 hcell)) ?_;refine cg 1 3 (by kernel_rfl) rfl ?_;refine bL 4 19 (by kernel_rfl) rfl (fun h' e=>aj.aH H.fA H.cy rfl (e.rowAt hn2 hk5.row) (by first|rfl|(simp;done)|(simp;omega))) ?_;refine RD.Kc 2 5 (li:= #[true,true,true,false,true,false,false,false]) (lj:= #[true,true,false,false,true,true,false,false]) rfl rfl (by kernel_rfl) rfl rfl rfl rfl rfl rfl (aq (vs:=[_]) func186 rfl H.uZ rfl (ah.ke (gz hs5 (by simp only[List.length_cons];omega)) ((fun _ _ ⟨_,hp,_⟩=>by cases hp)))) (aA.cE (cs:=[_,_,_,_,_,_]) underlying130 H.vW rfl rfl (by decide)) (by kernel_rfl) (by kernel_rfl) ?_ ?_
   · rintro _ h6 ⟨_,_,hp6,rfl,hs6,hx6⟩;refine⟨fun _=>hx6.mono (fun _ _ k=>.inl k),?_⟩;cases hp6;have hmap6:=hmap.ext hx6 (by show ¬_=_;omega);have hz6:=hx6.size;have hk6:=hk5.ext hx6 (by show ¬_=_;omega);have hnd6:ct h6 (fun b=>b<h.size+1\/b=nb) (ey x.kind x.set w) x:=hnd5.mv (Mv.dQ hx6 fun b hb hn=>⟨fun(k:b=rb)=>hn (.inl (by omega)),hn⟩);refine bL 3 31 (by kernel_rfl) rfl (fun h' e=>yY rfl rfl (hmap6.ext e hn3) hval) ?_;refine eM 5 63 (by kernel_rfl) rfl (aA.cE (cs:=[_,_,_,_,_,_]) underlying130 H.vW rfl rfl (by decide)) ?_;rintro _ _ ⟨rfl,rfl⟩;refine⟨fun _=>by first|exact Ext.push _ _ _|assumption,?_⟩;refine bL 6 127 (by kernel_rfl) rfl (fun h' e=>aN (H.sA _ _ _ _) rfl) ?_;have hsl:=bX.oU (e:=tA) (t:=132) hnd6 (show ¬(h6.size<h.size+1\/h6.size=nb) by omega);have ep:=Ext.push (fun _=>False) h6 (.cells (ey x.kind x.set w).toArray 132);have hk7:=hk6.ax ep;have hs7:St _ rb r:=bp.ax hs6 ep;have hkr7:=(hkr5.ext hx6 (by show ¬_=_;omega)).ax ep;have e7:=kq.ax (e5.trans hx6) ep;refine mN 7 255 (by kernel_rfl) rfl (aA.aB H.cy rfl rfl hk7 (by first|rfl|(simp;done)|(simp;omega)) (by first|decide|exact of_decide_eq_true rfl|(simp;done)|(simp;omega)) (ct.one (ct.of (dV c) 0 hsl))) ?_;rintro _ h8 ⟨rfl,hk8,hx8,hz8⟩;refine⟨fun hk=>(nomatch hk),?_⟩;refine br (by kernel_rfl) ?_;refine xu [0,2,3,10] rfl ?_;refine G.aR ?_;have hk8:bp h8 nb 132 (ey (dV c) 0 (.slice (some ⟨h6.size,0,none⟩) 1 1)):=hk8;exact ih (.mk (dV c) 0 [x],.slice (some ⟨h6.size,0,none⟩) 1 1,r) _ _ ⟨rfl,rfl,rfl,trivial⟩ ⟨bp.ext hs7 hx8 (by show ¬_=_;omega),hk8,hkr7.ext hx8 (by show ¬_=_;omega),kq.only e7 hx8 (by omega),(ct.of (dV c) 0 hsl).mv (Mv.dQ hx8 fun b hb hn=>⟨fun(k:b=nb)=>hn (.inr k),hn⟩),by show r.length<=_;omega,hsg⟩ (by show r.length<(c::r).length;simp)
   · rintro _ _ ⟨rfl,rfl⟩;refine⟨fun _=>by first|exact Ext.push _ _ _|assumption,?_⟩;have hsl:=bX.oU (e:=tA) (t:=132) hnd5 hO5;have ep:=Ext.push (fun _=>False) h5 (.cells (ey x.kind x.set w).toArray 132);refine eM 2 55 (by kernel_rfl) rfl (aq (vs:=[_]) func186 rfl H.uZ rfl (ah.ke (gz (bp.ax hs5 ep) (by simp only[List.length_cons];omega)) ((fun _ _ ⟨_,hp,_⟩=>by cases hp)))) ?_;rintro _ h6 ⟨_,_,hp6,rfl,hs6,hx6⟩;refine⟨fun _=>hx6.mono (fun _ _ k=>.inl k),?_⟩;cases hp6;have hmap6:=(hmap.ext ep (fun k=>k)).ext hx6 (by show ¬_=_;omega);have hz6:=hx6.size;have hzp:(h5.push (.cells (ey x.kind x.set w).toArray 132)).size=h5.size+1:=by simp
     have hk6:=(hk5.ax ep).ext hx6 (by show ¬_=_;omega);have hkr6:=(hkr5.ax ep).ext hx6 (by show ¬_=_;omega);have hn4:¬(mp=rb\/Array.size h5<=mp):=hn3;refine bL 3 63 (by kernel_rfl) rfl (fun h' e=>yY rfl rfl (hmap6.ext e hn4) hval) ?_;refine bL 6 127 (by kernel_rfl) rfl (fun h' e=>aN (H.sA _ _ _ _) rfl) ?_;have hsl6:bX tA h6 (fun b=>b<h.size+1\/b=nb) (.slice (some ⟨h5.size,0,none⟩) 1 1) [x]:=hsl.mv (Mv.dQ hx6 fun b hb hn=>⟨fun(k:b=rb)=>hn (.inl (by omega)),hn⟩);refine mN 7 255 (by kernel_rfl) rfl (aA.aB H.cy rfl rfl hk6 (by first|rfl|(simp;done)|(simp;omega)) (by first|decide|exact of_decide_eq_true rfl|(simp;done)|(simp;omega)) (ct.one (ct.of (dV c) 0 hsl6))) ?_;rintro _ h8 ⟨rfl,hk8,hx8,hz8⟩;refine⟨fun hk=>(nomatch hk),?_⟩;refine br (by kernel_rfl) ?_;refine xu [0,2,3,10] rfl ?_;refine G.aR ?_;have hk8:bp h8 nb 132 (ey (dV c) 0 (.slice (some ⟨h5.size,0,none⟩) 1 1)):=hk8;exact ih (.mk (dV c) 0 [x],.slice (some ⟨h5.size,0,none⟩) 1 1,r) _ _ ⟨rfl,rfl,rfl,trivial⟩ ⟨bp.ext hs6 hx8 (by show ¬_=_;omega),hk8,hkr6.ext hx8 (by show ¬_=_;omega),kq.only ((kq.ax e5 ep).trans hx6) hx8 (by omega),(ct.of (dV c) 0 hsl6).mv (Mv.dQ hx8 fun b hb hn=>⟨fun(k:b=nb)=>hn (.inr k),hn⟩),by show r.length<=_;omega,hsg⟩ (by show r.length<(c::r).length;simp)
 · rw[AW (by omega)] at hsg;refine bA rfl rfl ?_;refine xr func169 rfl ?_;refine xp rfl (aj.aH H.fA H.cy rfl hk5.row (by first|rfl|(simp;done)|(simp;omega))) ?_;refine RW.cu rfl rfl rfl (aA.aB H.cy rfl rfl hkr5 (by first|rfl|(simp;done)|(simp;omega)) (by first|decide|exact of_decide_eq_true rfl|(simp;done)|(simp;omega)) (ct.one hnd5)) ?_;rintro _ h6 ⟨rfl,hk6,hx6,hz6⟩;refine xd [0,2,3,10] rfl ?_;have hk6:bp h6 h.size 132 (ey x.kind x.set w):=hk6;refine G.cU func169 rfl (.cons (bl.cM H.fA H.cy rfl (hk6.row) (by first|rfl|(simp;done)|(simp;omega))) (.nil)) ?_;exact⟨x,m,by rw[hpc,<-hsg],⟨w,rfl,hnd5.mv (Mv.dQ hx6 fun b hb hn=>⟨fun(k:b=h.size)=>hn (.inl (by omega)),fun(k:b<h.size)=>hn (.inl (by omega))⟩)⟩,bp.ext hs5 hx6 (by show ¬_=_;omega),kq.only e5 hx6 (Nat.le_refl _)⟩
theorem xV (ih:wM d lim) (hg:Sg h lim) (hrb:lim<=rb) (hs:St h rb l) (hd:l.length<=d) (hl:l.length<=1000000):ah Tryz.prog 137 #[Av rb] h (PR rb h (zf (eI d) l) (Dp h.size)):=by
 have hlt:=hs.lt;have hrl:∀{s x r},eI d s=some (x,r)->r.length<=s.length:=fun h=>lp d h
 refine ah.of func137 rfl rfl ?_;refine xr func137 rfl ?_;refine xo rfl (aA.aY H.kQ) ?_;rintro _ h1 ⟨rfl,hkr,he1,hz1⟩;refine xd [0,2] rfl ?_;refine aZ func137 1 [0,2,3] rfl ?_;refine av rfl ?_;refine G.block rfl rfl ?_;have hkr:bp h1 h.size 132 (ey 0 0 (.slice none 0 0)):=hkr;generalize htg:nu (eI d) (l.length+1) l=tgt;have hrow:zf (eI d) l=tgt.map fun p=>(cK 2 p.1,p.2):=by unfold zf;rw[htg]
 have htg0:tgt.map (fun p=>(([]:List Nd)++p.1,p.2))=tgt:=by cases tgt<;>rfl
 refine bG (σ:=List Nd×Value×By) (fun q=>[(0,Av rb),(2,.pointer (some ⟨h.size,0,none⟩)),(3,q.2.1)]) (fun q h'=>St h' rb q.2.2/\dH tA (Eg h1.size) h' h1.size 132 q.2.1 q.1/\bp h' h.size 132 (ey 0 0 (.slice none 0 0))/\Ext (only rb) h h'/\q.2.2.length+q.1.length<=l.length/\(nu (eI d) (q.2.2.length+1) q.2.2).map (fun p=>(q.1++p.1,p.2))=tgt) (fun q=>q.2.2.length) (([],.slice none 0 0,l)) rfl ⟨rfl,rfl,rfl,trivial⟩ ⟨bp.ax hs he1,dH.nil _ _ _ _ _,hkr,aD.of he1,by show l.length+0<=_;omega,by rw[htg];exact htg0⟩ ?_;rintro⟨acc,v,m⟩ h5 ⟨hs5,hv5,hkr5,e5,hm,hcon⟩ ih'
 try dsimp only
 dsimp only at hs5 hv5 hm hcon;refine av rfl ?_;refine av rfl ?_;refine G.bF [(24,.bool (!kI m))] [(0,_),(2,_),(3,_)] ⟨rfl,rfl,rfl,trivial⟩ func137 rfl ?_ ?_
 · refine cD 2 rfl rfl (af (off:=0) underlying196 rfl rfl H.fL rfl) ?_;refine xp rfl (ai H.gj rfl hs5.cell) ?_;refine xp rfl (aj.pU rfl rfl) ?_;refine bh 1 rfl ?_;refine aP (d:=9) rfl (fun he=>?_) (fun he=>?_)
   · have hne:¬bs m=⟨#[]⟩:=of_decide_eq_true he;obtain⟨c,r,rfl⟩:=List.exists_cons_of_ne_nil (fun(e:m=[])=>hne (by rw[e];rfl));refine cD 2 rfl rfl (af (off:=0) underlying196 rfl rfl H.fL rfl) ?_;refine xp rfl (ai H.gj rfl hs5.cell) ?_;refine xp rfl (aj.dz underlying9 rfl rfl 0 rfl (iD rfl)) ?_;refine bh 3 rfl ?_;refine aP (d:=17) rfl (fun h124=>?_) (fun h124=>?_)
     · have h124:¬c=124:=fun e=>(of_decide_eq_true h124) ((dJ rfl).2 e)
       refine cD 2 rfl rfl (af (off:=0) underlying196 rfl rfl H.fL rfl) ?_;refine xp rfl (ai H.gj rfl hs5.cell) ?_;refine xp rfl (aj.dz underlying9 rfl rfl 0 rfl (iD rfl)) ?_;refine bh 2 rfl ?_;refine aE rfl ?_;exact⟨rfl,aF rfl (by simp only[kI];rw[show (c ==124)=false by simpa using h124,Bool.false_or,show (c ==41)=decide (c=41) by rw[Bool.eq_iff_iff];simp,<-decide_not];exact decide_eq_decide.2 (not_congr (dJ rfl))),rfl,rfl,rfl,trivial⟩
     · have h124:c=124:=(dJ rfl).1 (Classical.not_not.1 (of_decide_eq_false h124));refine bh 7 rfl ?_;refine aE rfl ?_;exact⟨rfl,aF rfl (by simp[kI,h124]),rfl,rfl,rfl,trivial⟩
   · have hne:bs m=⟨#[]⟩:=Classical.not_not.1 (of_decide_eq_false he);obtain rfl:m=[]:=eT hne;refine bh 15 rfl ?_;refine aE rfl ?_;exact⟨rfl,aF rfl (by rfl),rfl,rfl,rfl,trivial⟩
 · obtain⟨css,hc1,hc2,hc3⟩:=id hv5;have hlt5:=hkr5.lt;have hz5:=e5.size;refine aI rfl rfl (fun hgo=>?_) (fun hgo=>?_)
   · have hend:kI m=false:=by simpa using hgo
     have hcon':tgt=(match gH (eI d) m with|none=>none|some (x,r)=>((nu (eI d) (r.length+1) r).map fun p=>(x::p.1,p.2)).map (fun p=>(acc++p.1,p.2))):=by
      rw[<-hcon,nu,if_neg (by rw[hend];decide)];cases hp:gH (eI d) m with
      |none=>rfl
      |some q =>
       obtain⟨x,r⟩:=q;have:=gG hrl hp;simp only;rw[xW hrl m.length (r.length+1) r (by omega) (by omega)]
     refine aC rfl ?_;refine G.block rfl rfl ?_;refine G.cz func137 rfl ?_;refine bh 2 rfl ?_;refine xo rfl (aq (vs:=[_]) func169 rfl H.LN rfl (ah.ke (Bd ih (hg.ext e5 (fun b (hb:b=rb)=>by omega)) hrb hs5 (by omega) (by omega)) ((fun _ _ ⟨hc,hp,hx⟩=>eD hc (by rw[hrow,hcon',hp];rfl) (e5.trans hx))))) ?_;rintro _ h6 ⟨x,r,hp,⟨w,rfl,hnd6⟩,hs6,hx6⟩;have hr6:=gG hrl hp;have hz6:=hx6.size;have hown:∀b,v.ownBlock=some b->h1.size<=b/\b<h5.size:=fun b hb=>hc2.lt hb
     have hc26:=hc2.ext hx6 (fun b hb (k:b=rb)=>by have:=hown b hb;omega);have hc36:∀(i:Nat) (cs:List Value) (x:Nd),css[i]? =some cs->acc[i]? =some x->tA.R h6 (fun b=>dB v.ownBlock b\/b<h1.size) cs x:=fun i cs x h1' h2'=>tA.mv (hc3 i cs x h1' h2') (Mv.dQ hx6 fun b hb hn=>⟨fun(k:b=rb)=>hn (.inr (by show b<_;omega)),hn⟩)
     have hnd6':tA.R h6 (fun b=>dB v.ownBlock b\/b<h1.size) (ey x.kind x.set w) x:=ct.mv hnd6 ⟨Nat.le_refl _,fun b hb hn=>⟨rfl,fun k=>by
      have hn:¬b<h5.size:=hn
      rcases k with k|k
      · have:=hown b k.symm;omega
      · omega⟩⟩
     refine xo rfl (aA.cE (cs:=[_,_,_,_,_,_]) underlying130 H.vW rfl rfl (by decide)) ?_;rintro _ _ ⟨rfl,rfl⟩;refine xo rfl (aA.bS underlying130 H.vW rfl rfl (hc26) rfl rfl (ct.one hnd6) (by omega) (by decide) (by omega)) ?_;rintro v7 h7 ⟨ho7,hx7,-,hv7⟩;refine aS 1 [0,2,3,24] rfl ?_;refine G.aR ?_;have hrb7:¬dB v.ownBlock rb:=fun k=>by have:=hown rb k.symm;omega
     have hr7:¬dB v.ownBlock h.size:=fun k=>by have:=hown _ k.symm;omega
     have e7:Ext (only rb) h h7:=⟨by have:=hx7.size;omega,fun b hb hn=>by rw[hx7.block b (by omega) (fun k=>by have:=hown b k.symm;omega)];exact(e5.trans hx6).block b hb hn⟩
     rw[hp] at hcon';exact ih' (acc++[x],v7,r) _ _ ⟨rfl,rfl,rfl,trivial⟩ ⟨bp.ext hs6 hx7 hrb7,dH.gF hc1 hc36 ho7 hx7 hv7 hnd6',(hkr5.ext hx6 (by show ¬_=_;omega)).ext hx7 hr7,e7,by show r.length+(acc++[x]).length<=_;rw[List.length_append,List.length_singleton];omega,by rw[hcon'];simp only[Option.map_map];congr 1;funext p;simp⟩ (by show r.length<m.length;omega)
   · have hend:kI m=true:=by simpa using hgo
     rw[nu,if_pos hend] at hcon;have hsl:bX tA h5 (Eg h1.size) v acc:=hv5.read (fun b hb (k:b<h1.size)=>by omega) (fun b _ k=>k);refine bA rfl rfl ?_;refine bq func137 1 rfl ?_;refine xo rfl (aq (vs:=[_,_]) func139 rfl H.JH rfl (ah.bw (rf 2 hsl))) ?_;rintro _ h6 ⟨⟨w,rfl,hnd6⟩,he6⟩;refine RW.cu rfl rfl rfl (aA.aB H.cy rfl rfl (hkr5.ax he6) (by first|rfl|(simp;done)|(simp;omega)) (by first|decide|exact of_decide_eq_true rfl|(simp;done)|(simp;omega)) (ct.one hnd6)) ?_;rintro _ h7 ⟨rfl,hk7,hx7,hz7⟩;refine xd [0,2,3,24] rfl ?_;have hk7:bp h7 h.size 132 (ey (cK 2 acc).kind (cK 2 acc).set w):=hk7;have hz6:=he6.size;refine G.cU func137 rfl (.cons (bl.cM H.fA H.cy rfl (hk7.row) (by first|rfl|(simp;done)|(simp;omega))) (.nil)) ?_;exact⟨cK 2 acc,m,by rw[hrow,<-hcon];simp,⟨w,rfl,iw hnd6 (by omega) hx7 (fun b _ (hb:b=h.size)=>by omega)⟩,bp.ext (bp.ax hs5 he6) hx7 (by show ¬_=_;omega),kq.only (kq.ax e5 he6) hx7 (Nat.le_refl _)⟩
theorem EN (ih:wM d lim) (hg:Sg h lim) (hrb:lim<=rb) (hs:St h rb l) (hd:l.length<=d) (hl:l.length<=1000000):ah Tryz.prog 94 #[Av rb] h (PR rb h (eI (d+1) l) (Dp h.size)):=by
 have hlt:=hs.lt;have hrl:∀{s x r},eI d s=some (x,r)->r.length<=s.length:=fun h=>lp d h
 have hrows:eI (d+1) l=match zf (eI d) l with|none=>none|some (x,r)=>tH (eI d) [x] r:=uT hrl [] l
 refine ah.of func94 rfl rfl ?_;refine xr func94 rfl ?_;refine xo rfl (aA.aY H.kQ) ?_;rintro _ h1 ⟨rfl,hkr,he1,hz1⟩;refine xd [0,2] rfl ?_;refine bq func94 1 rfl ?_;refine xo rfl (aq (vs:=[_]) func137 rfl H.JI rfl (ah.ke (xV ih (hg.ext he1 (fun _ k=>k.elim)) hrb (bp.ax hs he1) hd hl) ((fun _ _ ⟨hc,hp,hx⟩=>eD hc (by rw[hrows,hp]) ((aD.of he1).trans hx))))) ?_;rintro _ h2 ⟨x0,m0,hp0,⟨w0,rfl,hnd2⟩,hs2,hx2⟩;have hkr:bp h1 h.size 132 (ey 0 0 (.slice none 0 0)):=hkr;have hz2:=hx2.size;have hm0:=A8 hrl hp0;have ep:=Ext.push (fun _=>False) h2 (.cells (ey x0.kind x0.set w0).toArray 132);have hv0:dH tA (Eg h1.size) (h2.push (.cells (ey x0.kind x0.set w0).toArray 132)) h1.size 132 (.slice (some ⟨h2.size,0,none⟩) 1 1) [x0]:=dH.oU (e:=tA) hnd2 hz2;have hs3:St _ rb m0:=bp.ax hs2 ep;have hkr3:=(hkr.ext hx2 (by show ¬_=_;omega)).ax ep;have e3:=kq.ax ((aD.of he1).trans hx2) ep;rw[hp0] at hrows;simp only at hrows;generalize htg:tH (eI d) [x0] m0=tgt at hrows;refine xo rfl (aA.cE (cs:=[_,_,_,_,_,_]) underlying130 H.vW rfl rfl (by decide)) ?_;rintro _ _ ⟨rfl,rfl⟩;refine aS 1 [0,2,3] rfl ?_;refine av rfl ?_;refine G.block rfl rfl ?_;refine bG (σ:=List Nd×Value×By) (fun q=>[(0,Av rb),(2,.pointer (some ⟨h.size,0,none⟩)),(3,q.2.1)]) (fun q h'=>St h' rb q.2.2/\dH tA (Eg h1.size) h' h1.size 132 q.2.1 q.1/\bp h' h.size 132 (ey 0 0 (.slice none 0 0))/\Ext (only rb) h h'/\(q.2.2.length<=l.length/\q.2.2.length+q.1.length<=l.length+1)/\tH (eI d) q.1 q.2.2=tgt) (fun q=>q.2.2.length) (([x0],.slice (some ⟨h2.size,0,none⟩) 1 1,m0)) rfl ⟨rfl,rfl,rfl,trivial⟩ ⟨hs3,hv0,hkr3,e3,⟨by show m0.length<=_;omega,by show m0.length+1<=_;omega⟩,htg⟩ ?_;rintro⟨acc,v,m⟩ h5 ⟨hs5,hv5,hkr5,e5,⟨hml,hm⟩,hcon⟩ ih'
 try dsimp only
 dsimp only at hs5 hv5 hml hm hcon;refine av rfl ?_;refine bq func94 1 rfl ?_;refine xo rfl (aq (vs:=[_,_]) func138 rfl H.DV rfl (ah.bw (lX 124 hs5 (by omega)))) ?_;rintro _ h6 ⟨hor,hx6⟩;refine xd [0,2,3,8] rfl ?_;have hlt5:=hkr5.lt;have hz5:=e5.size;have hz6:=hx6.size;have hkr6:=hkr5.ext hx6 (by show ¬_=_;omega);have e6:=e5.trans hx6;have hv6:dH tA (Eg h1.size) h6 h1.size 132 v acc:=hv5.mv (hx6.mono fun b _ (k:b=rb)=>(by omega:b<h1.size)) (fun b hb (k:b<h1.size)=>by omega) (fun b _ k=>k);obtain⟨css,hc1,hc2,hc3⟩:=id hv6
 rcases hor with ⟨a1,rfl,hs6⟩|⟨a1,rfl,hs6⟩
 · obtain⟨c,t,rfl⟩:=List.exists_cons_of_ne_nil (fun(e:m=[])=>by rw[e] at a1;cases a1);have hs6:St h6 rb t:=hs6;simp only[List.length_cons] at hm hml
   have hcon':tgt=match zf (eI d) t with|none=>none|some (x,r)=>tH (eI d) (acc++[x]) r:=by
    have hG:=uT (rows:=eI d) hrl acc t;rw[<-hcon];refine Eq.trans ?_ hG;unfold tH;rw[if_pos a1];rfl
   refine aI rfl rfl (fun _=>?_) (fun hc=>absurd hc (by decide));refine aC rfl ?_;refine G.block rfl rfl ?_;refine G.cz func94 rfl ?_;refine bh 2 rfl ?_;refine xo rfl (aq (vs:=[_]) func137 rfl H.JI rfl (ah.ke (xV ih (hg.ext e6 (fun b (hb:b=rb)=>by omega)) hrb hs6 (by omega) (by omega)) ((fun _ _ ⟨hc,hp,hx⟩=>eD hc (by rw[hrows,hcon',hp]) (e6.trans hx))))) ?_;rintro _ h7 ⟨x,r,hp,⟨w,rfl,hnd7⟩,hs7,hx7⟩;have hr7:=A8 hrl hp;have hz7:=hx7.size;have hown:∀b,v.ownBlock=some b->h1.size<=b/\b<h6.size:=fun b hb=>hc2.lt hb
   have hc27:=hc2.ext hx7 (fun b hb (k:b=rb)=>by have:=hown b hb;omega);have hc37:∀(i:Nat) (cs:List Value) (x:Nd),css[i]? =some cs->acc[i]? =some x->tA.R h7 (fun b=>dB v.ownBlock b\/b<h1.size) cs x:=fun i cs x h1' h2'=>tA.mv (hc3 i cs x h1' h2') (Mv.dQ hx7 fun b hb hn=>⟨fun(k:b=rb)=>hn (.inr (by show b<_;omega)),hn⟩)
   have hnd7':tA.R h7 (fun b=>dB v.ownBlock b\/b<h1.size) (ey x.kind x.set w) x:=ct.mv hnd7 ⟨Nat.le_refl _,fun b hb hn=>⟨rfl,fun k=>by
    have hn:¬b<h6.size:=hn
    rcases k with k|k
    · have:=hown b k.symm;omega
    · omega⟩⟩
   refine xo rfl (aA.cE (cs:=[_,_,_,_,_,_]) underlying130 H.vW rfl rfl (by decide)) ?_;rintro _ _ ⟨rfl,rfl⟩;refine xo rfl (aA.bS underlying130 H.vW rfl rfl (hc27) rfl rfl (ct.one hnd7) (by omega) (by decide) (by omega)) ?_;rintro v8 h8 ⟨ho8,hx8,-,hv8⟩;refine aS 1 [0,2,3,8] rfl ?_;refine G.aR ?_;have hrb8:¬dB v.ownBlock rb:=fun k=>by have:=hown rb k.symm;omega
   have hr8:¬dB v.ownBlock h.size:=fun k=>by have:=hown _ k.symm;omega
   have e8:Ext (only rb) h h8:=⟨by have:=hx8.size;omega,fun b hb hn=>by rw[hx8.block b (by omega) (fun k=>by have:=hown b k.symm;omega)];exact(e6.trans hx7).block b hb hn⟩
   rw[hp] at hcon';exact ih' (acc++[x],v8,r) _ _ ⟨rfl,rfl,rfl,trivial⟩ ⟨bp.ext hs7 hx8 hrb8,dH.gF hc1 hc37 ho8 hx8 hv8 hnd7',(hkr6.ext hx7 (by show ¬_=_;omega)).ext hx8 hr8,e8,⟨by show r.length<=_;omega,by show r.length+(acc++[x]).length<=_;rw[List.length_append,List.length_singleton];omega⟩,hcon'.symm⟩ (by show r.length<(c::t).length;simp only[List.length_cons];omega)
 · refine aI rfl rfl (fun hc=>absurd hc (by decide)) (fun _=>?_);have hsl:bX tA h6 (Eg h1.size) v acc:=hv6.read (fun b hb (k:b<h1.size)=>by omega) (fun b _ k=>k);have hfin:tgt=some (cK 3 acc,m):=by rw[<-hcon];unfold tH;rw[if_neg a1]
   refine bA rfl rfl ?_;refine bq func94 1 rfl ?_;refine xo rfl (aq (vs:=[_,_]) func139 rfl H.JH rfl (ah.bw (rf 3 hsl))) ?_;rintro _ h7 ⟨⟨w,rfl,hnd7⟩,he7⟩;refine RW.cu rfl rfl rfl (aA.aB H.cy rfl rfl (hkr6.ax he7) (by first|rfl|(simp;done)|(simp;omega)) (by first|decide|exact of_decide_eq_true rfl|(simp;done)|(simp;omega)) (ct.one hnd7)) ?_;rintro _ h8 ⟨rfl,hk8,hx8,hz8⟩;refine xd [0,2,3,8] rfl ?_;have hk8:bp h8 h.size 132 (ey (cK 3 acc).kind (cK 3 acc).set w):=hk8;have hz7:=he7.size;refine G.cU func94 rfl (.cons (bl.cM H.fA H.cy rfl (hk8.row) (by first|rfl|(simp;done)|(simp;omega))) (.nil)) ?_;exact⟨cK 3 acc,m,by rw[hrows,hfin],⟨w,rfl,iw hnd7 (by omega) hx8 (fun b _ (hb:b=h.size)=>by omega)⟩,bp.ext (bp.ax hs6 he7) hx8 (by show ¬_=_;omega),kq.only (kq.ax e6 he7) hx8 (Nat.le_refl _)⟩
theorem DM (lim:Nat):∀d,wM d lim
 | 0=>fun _ _ l _ _ _ h _=>absurd h (Nat.not_lt_zero _)
 |d+1=>fun _ _ _ hg hrb hs hd hl=>EN (DM lim d) hg hrb hs (by omega) hl
end
end Go.Proofs.YtmehdcdbeafljaaGreatDoor
namespace Go.Proofs.YtmehdcdbeafljaaGreatDoor
open Go.Proofs.Tryz
open Go Go.Lw Go.RowKit
set_option maxRecDepth 20000
section
variable {h:az}{nb eb:Nat}
abbrev xH:List Value:=ey 0 0 (.slice none 0 0)
theorem Dc {cs:List Value}{v0:Value}(hcs:cs.length=6) (hk:bp h nb 132 cs) (he:bp h eb 31 [v0]) (hne:nb≠eb) (B w:World) (ha:At B h w) :
 CallsD Tryz.prog 93 #[.pointer (some ⟨nb,0,none⟩),.pointer (some ⟨eb,0,none⟩)] (.panicking [{ v:=uW,recovered:=false }]) w fun e u' w' =>
  (∃r,e= .returned r)/\u'= .panicking [{ v:=uW,recovered:=true }]/\∃h',At B h' w'/\bp h' nb 132 xH/\bp h' eb 31 [.int .i64 10]/\Ext (fun b=>b=nb\/b=eb) h h':=by
 refine nY (v:=uW) (vs:=[.pointer (some ⟨nb,0,none⟩),.pointer (some ⟨eb,0,none⟩)]) (u':=.panicking [{ v:=uW,recovered:=true }]) func93 rfl rfl rfl rfl rfl rfl rfl rfl rfl rfl (fun c₀ cs hu=>.inl (by simp[recoverD,hu])) (fun a hf=>?_);refine wp_seq (wp_region ?_);refine(show RW Tryz.prog Tryz.f93.ntmps _ 0 _ h (fun ρ' h'=>h'=h/\Sub [(5,.bool true),(2,uW),(0,.pointer (some ⟨nb,0,none⟩)),(1,.pointer (some ⟨eb,0,none⟩))] ρ') (fun _ _=>False) from ?_) B a w hf ha _ ?_ (fun _ _ _ _ _ _ k=>k.elim)
 · refine cD 1 rfl rfl (aj.Bm underlying20 rfl (.inr ⟨_,_,rfl⟩)) ?_;exact aE rfl ⟨rfl,rfl,rfl,rfl,rfl,trivial⟩
 rintro ρ' h' a1 w1 hf1 ha1 ⟨rfl,hsub⟩;have hf1:=hf1.sub hsub;refine wp_cond_true (hf1.eval (x:=.tmp 5) rfl) ?_;refine wp_seq (wp_region ?_);refine(show RW Tryz.prog Tryz.f93.ntmps _ 0 _ h' (fun ρ' g=>g=h'/\Sub [(0,.pointer (some ⟨nb,0,none⟩)),(1,.pointer (some ⟨eb,0,none⟩))] ρ') (fun _ _=>False) from ?_) B a1 w1 hf1 ha1 _ ?_ (fun _ _ _ _ _ _ k=>k.elim)
 · refine cD 1 rfl rfl (aj.xh underlying193 rfl) ?_;exact aE rfl ⟨rfl,rfl,rfl,trivial⟩
 rintro ρ'' h'' a2 w2 hf2 ha2 ⟨rfl,hsub2⟩;have hf2:=hf2.sub hsub2;refine wp_region ?_;refine(show RW Tryz.prog Tryz.f93.ntmps _ 0 _ h'' (fun _ g=>bp g nb 132 xH/\bp g eb 31 [.int .i64 10]/\Ext (fun b=>b=nb\/b=eb) h'' g) (fun _ _=>False) from ?_) B a2 w2 hf2 ha2 _ ?_ (fun _ _ _ _ _ _ k=>k.elim)
 · refine xp rfl (aN (H.Di ) rfl) ?_;refine RW.cu rfl rfl rfl (aA.aB H.cy rfl rfl hk rfl (by rw[hcs];decide) (by first|decide|simp[Value.oneCell'])) ?_;rintro _ h3 ⟨rfl,hk3,hx3,hz3⟩
   have hk3:bp h3 nb 132 xH:=by
    rw[GA (by rw[hcs];rfl)] at hk3;exact hk3
   refine RW.cu rfl rfl rfl (aA.bB H.Kf rfl rfl (he.ext hx3 (fun e=>hne e.symm)) (by simp) rfl) ?_;rintro _ h4 ⟨rfl,hk4,hx4,hz4⟩;exact aE rfl ⟨hk3.ext hx4 (fun e=>hne e),hk4,(hx3.mono fun _ _ k=>.inl k).trans (hx4.mono fun _ _ k=>.inr k)⟩
 rintro _ h5 a5 w5 hf5 ha5 ⟨hq1,hq2,hq3⟩;exact⟨hf5.nd,_,jb hf5 ha5 .nil,⟨_,rfl⟩,rfl,h5,ha5,hq1,hq2,hq3⟩
theorem Dd (B w:World) (ha:At B h w) :
 CallsD Tryz.prog 93 #[.pointer (some ⟨nb,0,none⟩),.pointer (some ⟨eb,0,none⟩)] .returning w fun e u' w'=>(∃r,e= .returned r)/\u'= .returning/\At B h w':=by
 refine nY (v:=.nilIface) (vs:=[.pointer (some ⟨nb,0,none⟩),.pointer (some ⟨eb,0,none⟩)]) (u':=.returning) func93 rfl rfl rfl rfl rfl rfl rfl rfl rfl rfl (fun c₀ cs hu=>.inr ⟨by simp[recoverD,hu],rfl,rfl⟩) (fun a hf=>?_);refine wp_seq (wp_region ?_);refine(show RW Tryz.prog Tryz.f93.ntmps _ 0 _ h (fun ρ' h'=>h'=h/\Sub [(5,.bool false)] ρ') (fun _ _=>False) from ?_) B a w hf ha _ ?_ (fun _ _ _ _ _ _ k=>k.elim)
 · refine cD 1 rfl rfl (aj.Bm underlying20 rfl (.inl rfl)) ?_;exact aE rfl ⟨rfl,rfl,trivial⟩
 rintro ρ' h' a1 w1 hf1 ha1 ⟨rfl,hsub⟩;have hf1:=hf1.sub hsub;refine wp_cond_false (hf1.eval (x:=.tmp 5) rfl) (wp_skip ?_);exact⟨hf1.nd,_,jb hf1 ha1 .nil,⟨_,rfl⟩,rfl,ha1⟩
theorem vu {cs:List Value}{v0:Value}{ρ:Env}{R:Ending->az->Prop}(h2:ρ.at 2=some (.pointer (some ⟨nb,0,none⟩))) (h3:ρ.at 3=some (.pointer (some ⟨eb,0,none⟩))) (hcs:cs.length=6) (hk:bp h nb 132 cs) (he:bp h eb 31 [v0]) (hne:nb≠eb)
 (hR:∀h',Ext (fun b=>b=nb\/b=eb) h h'->R (.returned (.tuple #[.agg xH.toArray,.int .i64 10])) h') :
 oG Tryz.prog f47 [{ target:=.fn (.func 93) #[.pointer (some ⟨nb,0,none⟩),.pointer (some ⟨eb,0,none⟩)],args:= #[] }] (.panicking [{ v:=uW,recovered:=false }]) ρ h R:=by
 intro B a w hf ha;refine leaves_cons (f:=93) (args:= #[.pointer (some ⟨nb,0,none⟩),.pointer (some ⟨eb,0,none⟩)]) (by simp) (oP func93 rfl (by decide +kernel)) ?_;refine(Dc hcs hk he hne B w ha).mono ?_;rintro e u' w' ⟨⟨r,rfl⟩,rfl,h',ha',hk',he',hx'⟩;refine⟨_,jb hf.zero ha' (.cons (bl.cM H.fA H.cy h2 hk'.row rfl) (.cons (bl.cell H.KR h3 (he'.cell (i:=0) rfl)) .nil)),h',ha',hR h' hx'⟩
theorem CW {x:Nd}{w0:Value}{e0:Int}{ρ:Env}{R:Ending->az->Prop}(h2:ρ.at 2=some (.pointer (some ⟨nb,0,none⟩))) (h3:ρ.at 3=some (.pointer (some ⟨eb,0,none⟩))) (hk:bp h nb 132 (ey x.kind x.set w0)) (he:bp h eb 31 [.int .i64 e0])
 (hR:R (.returned (.tuple #[.agg (ey x.kind x.set w0).toArray,.int .i64 e0])) h) :
 oG Tryz.prog f47 [{ target:=.fn (.func 93) #[.pointer (some ⟨nb,0,none⟩),.pointer (some ⟨eb,0,none⟩)],args:= #[] }] .returning ρ h R:=by
 intro B a w hf ha;refine leaves_cons (f:=93) (args:= #[.pointer (some ⟨nb,0,none⟩),.pointer (some ⟨eb,0,none⟩)]) (by simp) (oP func93 rfl (by decide +kernel)) ?_;refine(Dd B w ha).mono ?_;rintro e u' w' ⟨⟨r,rfl⟩,rfl,ha'⟩;refine⟨_,jb hf.zero ha' (.cons (bl.cM H.fA H.cy h2 hk.row rfl) (.cons (bl.cell H.KR h3 (he.cell (i:=0) rfl)) .nil)),h,ha',hR⟩
def KT (h h':az) (s:By) (r:Value):Prop:=∃w,r= .tuple #[.agg (ey (bZ s).1.kind (bZ s).1.set w).toArray,.int .i64 (bZ s).2]/\ct h' (Eg h.size) (ey (bZ s).1.kind (bZ s).1.set w) (bZ s).1
theorem Bf {lim:Nat}(hg:Sg h lim) (hlim:lim<=h.size) (s:By) (hs:s.length<=1000000):ah Tryz.prog 47 #[.string (bs s)] h (dh fun r h'=>KT h h' s r/\aD h h'):=by
 have hsz:=bD s;refine ah.of func47 rfl rfl ?_;refine xr func47 rfl ?_;refine xo rfl (aA.aY H.kQ) ?_;rintro _ h1 ⟨rfl,hk1,he1,hz1⟩;refine xo rfl (aA.aY H.MR) ?_;rintro _ h2 ⟨rfl,hk2,he2,hz2⟩;refine xd [0,2,3] rfl ?_;refine av rfl ?_;refine bq func47 1 rfl ?_;refine xp rfl (aj.bM underlying9 rfl) ?_;refine aS 1 [0,2,3,7] rfl ?_;have hk1:bp h1 h.size 132 xH:=hk1;have hk2:bp h2 h1.size 31 [.int .i64 0]:=hk2;have hk12:=hk1.ax he2;have e2:=he1.trans he2;refine aO rfl rfl (fun hbig=>?_) (fun hbig=>?_)
 · have hE:bZ s=(oA,3):=by unfold bZ;rw[if_pos (by omega)]
   refine xr func47 rfl ?_;refine xp rfl (aN (H.Di ) rfl) ?_;refine RW.cu rfl rfl rfl (aA.aB H.cy rfl rfl hk12 (by first|rfl|(simp;done)|(simp;omega)) (by first|decide|exact of_decide_eq_true rfl|(simp;done)|(simp;omega)) (by first|decide|simp[Value.oneCell'])) ?_;rintro _ h3 ⟨rfl,hk3,hx3,hz3⟩;refine RW.cu rfl rfl rfl (aA.bB H.Kf rfl rfl (hk2.ext hx3 (by show ¬_=_;omega)) (by first|decide|exact of_decide_eq_true rfl|(simp;done)|(simp;omega)) rfl) ?_;rintro _ h4 ⟨rfl,hk4,hx4,hz4⟩;refine xd [0,2,3,7] rfl ?_;have hk3:bp h3 h.size 132 xH:=hk3;have hk4:bp h4 h1.size 31 [.int .i64 3]:=hk4;refine G.cU func47 rfl (.cons (bl.cM H.fA H.cy rfl ((hk3.ext hx4 (by show ¬_=_;omega)).row) (by first|rfl|(simp;done)|(simp;omega))) (.cons (bl.cell H.KR rfl (hk4.cell (i:=0) rfl)) (.nil))) ?_;refine⟨_,rfl,⟨.slice none 0 0,by rw[hE];rfl,by rw[hE];exact ga _ _ 0 0⟩,aD.only (aD.only e2 hx3 (Nat.le_refl _)) hx4 (by omega)⟩
 · refine aC rfl ?_;refine av rfl ?_;refine G.KL (caps:=[.pointer (some ⟨h.size,0,none⟩),.pointer (some ⟨h1.size,0,none⟩)]) func47 rfl rfl rfl rfl rfl rfl rfl rfl rfl rfl rfl ?_;have hE:bZ s=match kJ s with|some x=>(x,0)|none=>(oA,10):=by unfold bZ;rw[if_neg (by omega)];rfl
   refine qw rfl ?_;refine GD.cz func47 rfl ?_;refine j9.au rfl rfl rfl rfl (aL rfl) ?_;refine j9.au rfl rfl rfl rfl (aN (H.I3 _) rfl) ?_;refine j9.FH rfl rfl rfl rfl (aA.gP rfl) ?_;rintro _ h3 ⟨rfl,hk3,he3,hz3⟩;refine j9.au rfl rfl rfl rfl (aj.assign rfl) ?_;refine lM rfl ?_;refine GD.sub (ρ':=[(0,_),(2,_),(3,_),(4,_),(7,_)]) ⟨rfl,rfl,rfl,rfl,rfl,trivial⟩ ?_;refine qw rfl ?_;refine GD.cz func47 rfl ?_;refine j9.au rfl rfl rfl rfl (aL rfl) ?_;have hk3:bp h3 h2.size 196 [.string (bs s)]:=hk3;have hg3:Sg h3 lim:=hg.ext (e2.trans he3) (fun _ k=>k.elim);have hrows:=DM lim (s.length+1) h3 h2.size s hg3 (by omega) hk3 (Nat.lt_succ_self _) hs;have hk13:=hk12.ax he3;have hk23:=hk2.ax he3;have e3:=e2.trans he3;refine j9.FH rfl rfl rfl rfl (aq (vs:=[_]) func94 rfl H.Ls rfl (ah.ke (hrows) ((fun _ h' ⟨hc,hp,hx⟩=>by rw[hc];exact vu rfl rfl rfl (hk13.ext hx (by show ¬_=_;omega)) (hk23.ext hx (by show ¬_=_;omega)) (by omega) (fun h'' hx2=>⟨_,rfl,⟨.slice none 0 0,by rw[hE];unfold kJ;rw[hp];rfl,by rw[hE];unfold kJ;rw[hp];exact ga _ _ 0 0⟩,⟨by have:=hx.size;have:=hx2.size;have:=e3.size;omega,fun b hb _=>by rw[hx2.block b (by have:=hx.size;omega) (by omega),hx.block b (by omega) (by show ¬_=_;omega)];exact e3.block b hb (fun k=>k)⟩⟩))))) ?_;rintro _ h4 ⟨x,r,hp,⟨w,rfl,hnd⟩,hs4,hx4⟩;have hz4:=hx4.size;have hk14:=hk13.ext hx4 (by show ¬_=_;omega);have hk24:=hk23.ext hx4 (by show ¬_=_;omega);have e4:aD h h4:=aD.only e3 hx4 (by omega);refine j9.cu rfl rfl rfl (aA.aB H.cy rfl rfl hk14 (by first|rfl|(simp;done)|(simp;omega)) (by first|decide|exact of_decide_eq_true rfl|(simp;done)|(simp;omega)) (ct.one hnd)) ?_;rintro _ h5 ⟨rfl,hk5,hx5,hz5⟩;refine lM rfl ?_;refine GD.sub (ρ':=[(0,_),(2,_),(3,_),(4,_),(7,_)]) ⟨rfl,rfl,rfl,rfl,rfl,trivial⟩ ?_;refine qw rfl ?_;refine qw rfl ?_;refine GD.cz func47 rfl ?_;refine j9.au rfl rfl rfl rfl (aL rfl) ?_;refine j9.au rfl rfl rfl rfl (aM rfl) ?_;refine j9.au rfl rfl rfl rfl (af (off:=0) underlying196 rfl rfl H.fL rfl) ?_;have hk5:bp h5 h.size 132 (ey x.kind x.set w):=hk5;have hk25:=hk24.ext hx5 (by show ¬_=_;omega);have hs5:St h5 h2.size r:=bp.ext hs4 hx5 (by show ¬_=_;omega);have hnd5:ct h5 (Eg h3.size) (ey x.kind x.set w) x:=iw hnd (Nat.le_refl _) hx5 (fun b _ (hb:b=h.size)=>by omega);have e5:=aD.only e4 hx5 (Nat.le_refl _);refine j9.au rfl rfl rfl rfl (ai H.gj rfl hs5.cell) ?_;refine j9.au rfl rfl rfl rfl (aj.pU rfl rfl) ?_;refine lM rfl ?_;refine GD.sub (ρ':=[(0,_),(2,_),(3,_),(4,_),(7,_),(19,_)]) ⟨rfl,rfl,rfl,rfl,rfl,rfl,trivial⟩ ?_;refine KV rfl rfl (fun hr=>?_) (fun hr=>?_)
   · have hr:r≠[]:=fun e=>hr (by rw[e];rfl)
     have hpn:kJ s=none:=by
      unfold kJ;rw[hp];cases r with
      |nil=>exact absurd rfl hr
      |cons c t=>rfl
     refine GD.cz func47 rfl ?_;refine j9.au rfl rfl rfl rfl (aN (H.iO ) rfl) ?_;refine j9.au rfl rfl rfl rfl (bJ H.lG rfl) ?_;refine j9.cu rfl rfl rfl (dU (Φ:=fun _ _=>False) rfl (vu rfl rfl rfl hk5 hk25 (by omega) (fun h'' hx2=>⟨_,rfl,⟨.slice none 0 0,by rw[hE,hpn];rfl,by rw[hE,hpn];exact ga _ _ 0 0⟩,⟨by have:=hx2.size;have:=e5.size;omega,fun b hb _=>by rw[hx2.block b (by have:=e5.size;omega) (by omega)];exact e5.block b hb (fun k=>k)⟩⟩))) ?_;rintro _ _ hpn;exact hpn.elim
   · obtain rfl:r=[]:=eT (Classical.not_not.1 hr);have hpn:kJ s=some x:=by unfold kJ;rw[hp]
     refine Jk rfl ?_;refine qw rfl ?_;refine GD.cz func47 rfl ?_;refine j9.au rfl rfl rfl rfl (aj.aH H.fA H.cy rfl hk5.row (by first|rfl|(simp;done)|(simp;omega))) ?_;refine j9.cu rfl rfl rfl (aA.aB H.cy rfl rfl hk5 (by first|rfl|(simp;done)|(simp;omega)) (by first|decide|exact of_decide_eq_true rfl|(simp;done)|(simp;omega)) (ct.one hnd5)) ?_;rintro _ h6 ⟨rfl,hk6,hx6,hz6⟩;refine j9.cu rfl rfl rfl (aA.bB H.Kf rfl rfl (hk25.ext hx6 (by show ¬_=_;omega)) (by first|decide|exact of_decide_eq_true rfl|(simp;done)|(simp;omega)) rfl) ?_;rintro _ h7 ⟨rfl,hk7,hx7,hz7⟩;refine lM rfl ?_;refine GD.sub (ρ':=[(0,_),(2,_),(3,_),(4,_),(7,_),(19,_)]) ⟨rfl,rfl,rfl,rfl,rfl,rfl,trivial⟩ ?_;have hk6:bp h6 h.size 132 (ey x.kind x.set w):=hk6;have hk7:bp h7 h1.size 31 [.int .i64 0]:=hk7;have hk17:=hk6.ext hx7 (by show ¬_=_;omega);have e7:=aD.only (aD.only e5 hx6 (Nat.le_refl _)) hx7 (by omega);have hnd7:ct h7 (Eg h.size) (ey x.kind x.set w) x:=iw (iw hnd5 (Nat.le_refl _) hx6 (fun b _ (hb:b=h.size)=>by omega)) (by omega) hx7 (fun b _ (hb:b=h1.size)=>by omega);refine GD.ret func47 rfl ?_;exact CW rfl rfl hk17 hk7 ⟨_,rfl,⟨w,by rw[hE,hpn],by rw[hE,hpn];exact hnd7⟩,e7⟩
end
end Go.Proofs.YtmehdcdbeafljaaGreatDoor
namespace Go.Proofs.YtmehdcdbeafljaaGreatDoor
section
variable {l:List Nd}{s:By}{x:Nd}{i:Nat}
structure bT where
 kind:Nat
 set:Nat
 to:List Nat
 rule:Nat
end
mutual
def lay:Nd->List bT->Nat->List bT×Nat
 |.mk k s kids,ss,to =>
  if k=1 then (ss++[⟨1,s,[to],0⟩],ss.length)
  else if k=2 then bN kids ss to
  else if k=3 then ((bC kids ss to).1++[⟨0,0,(bC kids ss to).2,0⟩],(bC kids ss to).1.length)
  else if k=6 then ((cJ kids ss to).1++[⟨0,0,[(cJ kids ss to).2,to],0⟩],(cJ kids ss to).1.length)
  else if k=4\/k=5 then
   ((cJ kids (ss++[⟨0,0,[],0⟩]) ss.length).1.set ss.length ⟨0,0,[(cJ kids (ss++[⟨0,0,[],0⟩]) ss.length).2,to],0⟩,
    if k=5 then (cJ kids (ss++[⟨0,0,[],0⟩]) ss.length).2 else ss.length)
  else (ss,to)
def bN:List Nd->List bT->Nat->List bT×Nat
 | [],ss,to=>(ss,to)
 |x::r,ss,to=>lay x (bN r ss to).1 (bN r ss to).2
def bC:List Nd->List bT->Nat->List bT×List Nat
 | [],ss,_=>(ss,[])
 |x::r,ss,to=>((bC r (lay x ss to).1 to).1,(lay x ss to).2::(bC r (lay x ss to).1 to).2)
def cJ:List Nd->List bT->Nat->List bT×Nat
 | [],ss,to=>(ss,to)
 |x::_,ss,to=>lay x ss to
end
mutual
def oI:Nd->Nat
 |.mk _ _ kids=>gX kids+1
def gX:List Nd->Nat
 | []=>0
 |x::r=>oI x+gX r
end
mutual
def uB:Nd->Bool
 |.mk k _ kids=>(!(k ==4 ||k ==5 ||k ==6) ||kids.length ==1) && uC kids
def uC:List Nd->Bool
 | []=>true
 |x::r=>uB x && uC r
end
section
variable {l:List Nd}{s:By}{x:Nd}{i:Nat}
theorem DD (x:Nd):0<oI x:=by cases x;simp[oI]
theorem iE:∀(l m:List Nd),gX (l++m)=gX l+gX m
 | [],m=>by simp[gX]
 |x::l,m=>by simp only[List.cons_append,gX];rw[iE l m];omega
theorem lT:∀(l m:List Nd),uC (l++m)=(uC l && uC m)
 | [],m=>by simp[uC]
 |x::l,m=>by simp only[List.cons_append,uC];rw[lT l m,Bool.and_assoc]
theorem yQ:∀{l:List Nd}{i:Nat}{x:Nd},uC l=true->l[i]? =some x->uB x=true
 | [],i,x,_,h=>by simp at h
 |y::l,0,x,hw,h=>by simp at h;subst h;simp only[uC,Bool.and_eq_true] at hw;exact hw.1
 |y::l,i+1,x,hw,h=>by simp only[uC,Bool.and_eq_true] at hw;exact yQ hw.2 (by simpa using h)
end
mutual
theorem gw:∀(x:Nd) (ss:List bT) (to:Nat),ss.length<=(lay x ss to).1.length/\(lay x ss to).1.length<=ss.length+oI x
 |.mk k s kids,ss,to=>by
  rw[lay];simp only[oI];split
  · simp
  · split
    · have:=jU kids ss to;omega
    · split
      · have:=fT kids ss to;simp only[List.length_append,List.length_singleton];omega
      · split
        · have:=gM kids ss to;simp only[List.length_append,List.length_singleton];omega
        · split
          · have:=gM kids (ss++[⟨0,0,[],0⟩]) ss.length;simp only[List.length_append,List.length_singleton] at this;simp only[List.length_set];omega
          · simp
theorem jU:∀(l:List Nd) (ss:List bT) (to:Nat),ss.length<=(bN l ss to).1.length/\(bN l ss to).1.length<=ss.length+gX l
 | [],ss,to=>by simp[bN,gX]
 |x::r,ss,to=>by
  rw[bN];have h1:=jU r ss to;have h2:=gw x (bN r ss to).1 (bN r ss to).2;simp only[gX];omega
theorem fT:∀(l:List Nd) (ss:List bT) (to:Nat),ss.length<=(bC l ss to).1.length/\(bC l ss to).1.length<=ss.length+gX l
 | [],ss,to=>by simp[bC,gX]
 |x::r,ss,to=>by
  rw[bC];have h1:=gw x ss to;have h2:=fT r (lay x ss to).1 to;simp only[gX];omega
theorem gM:∀(l:List Nd) (ss:List bT) (to:Nat),ss.length<=(cJ l ss to).1.length/\(cJ l ss to).1.length<=ss.length+gX l
 | [],ss,to=>by simp[cJ,gX]
 |x::r,ss,to=>by
  rw[cJ];have h1:=gw x ss to;simp only[gX];omega
end
section
variable {l:List Nd}{s:By}{x:Nd}{i:Nat}
def Small (s:By) (p:Option (Nd×By)):Prop:=∀x r,p=some (x,r)->oI x+2*r.length<=2*s.length+1/\uB x=true
theorem yT (k:Nat) (l:List Nd):oI (cK k l)<=gX l+1:=by
 unfold cK;split
 · simp[oA,oI,gX]
 · simp[gX]
 · simp[oI]
theorem yP {k:Nat}(hk:k=2\/k=3) (h:uC l=true):uB (cK k l)=true:=by
 unfold cK;split
 · rfl
 · simp only[uC,Bool.and_eq_true] at h;exact h.1
 · simp only[uB,h,Bool.and_true];rcases hk with rfl|rfl<;>rfl
theorem sS:∀(s:By) (n:Nd),uB n=true->oI (fE n s).1+2*(fE n s).2.length<=oI n+2*s.length/\uB (fE n s).1=true
 | [],n,hw=>by simp[fE,hw]
 |c::r,n,hw=>by
  rw[fE];split
  · simp[hw]
  · rename_i hs;have hw':uB (.mk (dV c) 0 [n])=true:=by simp[uB,uC,hw]
    have h:=sS r (.mk (dV c) 0 [n]) hw';refine⟨?_,h.2⟩;have h1:=h.1;simp only[oI,gX,List.length_cons] at h1 ⊢;omega
theorem Bc {rows:By->Option (Nd×By)}(hr:∀s,Small s (rows s)){r:By}(h:gH rows s=some (x,r)):oI x+2*r.length+1<=2*s.length/\uB x=true:=by
 have leaf:∀k st,(k=0\/k=1)->uB (.mk k st [])=true:=fun k st hk=>by rcases hk with rfl|rfl<;>rfl
 have key:∀y t,fW rows s=some (y,t)->oI y+2*t.length+1<=2*s.length/\uB y=true:=by
  intro y t ha;have hlen:∀(k st:Nat),y= .mk k st []->t.length<s.length->oI y+2*t.length+1<=2*s.length:=fun k st hy ht=>by subst hy;simp only[oI,gX];omega
  unfold fW at ha;split at ha
  · cases ha
  · rename_i c u;split at ha
    · split at ha
      · cases ha
      · rename_i n t' ht;split at ha
        · rename_i t'' _;cases ha;have:=hr _ _ _ ht;simp only[List.length_cons] at this ⊢;exact⟨by omega,this.2⟩
        · cases ha
    · split at ha
      · have hb:=rD ha
        have hy:∃st,y= .mk 1 st []:=by
         unfold jg at ha;split at ha<;>(simp only[Option.map_eq_some_iff] at ha;obtain⟨⟨m,r'⟩,_,h2⟩:=ha;cases h2;exact⟨_,rfl⟩)
        obtain⟨st,rfl⟩:=hy;exact⟨hlen _ _ rfl (by simp only[List.length_cons];omega),leaf _ _ (.inr rfl)⟩
      · split at ha
        · cases ha;exact⟨hlen _ _ rfl (by simp),leaf _ _ (.inr rfl)⟩
        · split at ha
          · simp only[Option.map_eq_some_iff] at ha;obtain⟨⟨b,r'⟩,h1,h2⟩:=ha;have:=vU h1;cases h2;exact⟨hlen _ _ rfl (by simp only[List.length_cons];omega),leaf _ _ (.inr rfl)⟩
          · split at ha
            · cases ha
            · cases ha;exact⟨hlen _ _ rfl (by simp),leaf _ _ (.inr rfl)⟩
 unfold gH at h;simp only[Option.map_eq_some_iff] at h;obtain⟨⟨n,t⟩,h1,h2⟩:=h;have h3:=key n t h1;have h4:=sS t n h3.2;rw[h2] at h4;simp only at h4;exact⟨by omega,h4.2⟩
theorem nr {rows:By->Option (Nd×By)}(hr:∀s,Small s (rows s)):∀(n:Nat) (all row:List Nd) (s:By) (x:Nd) (r:By),uC all=true->uC row=true->jv rows n all row s=some (x,r) ->
 oI x+2*r.length<=2*s.length+1+gX all+gX row+(if all=[] then 0 else 1)/\uB x=true
 | 0,_,_,_,_,_,_,_,h=>by cases h
 |n+1,all,row,s,x,r,hwa,hwr,h=>by
  rw[jv] at h;split at h
  · split at h
    · rename_i hbar;have hs:s.tail.length+1=s.length:=by cases s with|nil=>cases hbar|cons a b=>simp
      have hw':uC (all++[cK 2 row])=true:=by rw[lT,hwa];simp[uC,yP (.inl rfl) hwr]
      have ih:=nr hr n _ _ _ _ _ hw' (by rfl) h;have hj:=yT 2 row;have ha:gX (all++[cK 2 row])=gX all+oI (cK 2 row):=by rw[iE];simp[gX]
      rw[ha] at ih;refine⟨?_,ih.2⟩;have h1:=ih.1;rw[if_neg (by simp)] at h1;simp only[gX] at h1;omega
    · cases h;have hj:=yT 2 row;have hj3:=yT 3 (all++[cK 2 row]);have ha:gX (all++[cK 2 row])=gX all+oI (cK 2 row):=by rw[iE];simp[gX]
      refine⟨?_,yP (.inr rfl) (by rw[lT,hwa];simp[uC,yP (.inl rfl) hwr])⟩;split
      · rename_i he;subst he;have:cK 3 ([]++[cK 2 row])=cK 2 row:=rfl;rw[this];simp only[gX] at *;omega
      · rw[ha] at hj3;omega
  · split at h
    · cases h
    · rename_i y t ht;have h1:=Bc hr ht;have ih:=nr hr n all (row++[y]) t x r hwa (by rw[lT,hwr];simp[uC,h1.2]) h;have ha:gX (row++[y])=gX row+oI y:=by rw[iE];simp[gX]
      rw[ha] at ih;exact⟨by have:=ih.1;omega,ih.2⟩
theorem sW:∀(d:Nat) (s:By),Small s (eI d s)
 | 0,s=>fun x r h=>by cases h
 |d+1,s=>fun x r h=>by
  have:=nr (fun s=>sW d s) _ _ _ _ _ _ rfl rfl h;simpa [gX] using this
theorem zl (h:kJ s=some x):oI x<=2*s.length+1/\uB x=true:=by
 unfold kJ at h;split at h
 · rename_i n hn;cases h;have:=sW _ _ _ _ hn;simpa using this
 · cases h
theorem BG (hx:l[i]? =some x) (ss:List bT) (to:Nat):bN (l.drop i) ss to=lay x (bN (l.drop (i+1)) ss to).1 (bN (l.drop (i+1)) ss to).2:=by
 obtain⟨hi,rfl⟩:=List.getElem?_eq_some_iff.1 hx;rw[List.drop_eq_getElem_cons hi,bN]
theorem nM:∀(l:List Nd) (ss:List bT) (to:Nat),(bC l ss to).2.length=l.length
 | [],ss,to=>by simp[bC]
 |x::r,ss,to=>by rw[bC];simp[nM r]
end
mutual
theorem mu:∀(x:Nd) (ss:List bT) (to i:Nat),i<ss.length->(lay x ss to).1[i]? =ss[i]?
 |.mk k s kids,ss,to,i,hi=>by
  rw[lay];split
  · simp[List.getElem?_append_left hi]
  · split
    · exact vB kids ss to i hi
    · split
      · have:=fT kids ss to;simp only;rw[List.getElem?_append_left (by omega)];exact qc kids ss to i hi
      · split
        · have:=gM kids ss to;simp only;rw[List.getElem?_append_left (by omega)];exact p8 kids ss to i hi
        · split
          · simp only;rw[List.getElem?_set_ne (by omega),p8 kids (ss++[(⟨0,0,[],0⟩:bT)]) ss.length i (by simp;omega),List.getElem?_append_left hi]
          · rfl
theorem vB:∀(l:List Nd) (ss:List bT) (to i:Nat),i<ss.length->(bN l ss to).1[i]? =ss[i]?
 | [],ss,to,i,hi=>by simp[bN]
 |x::r,ss,to,i,hi=>by
  rw[bN];have h1:=jU r ss to;rw[mu x _ _ i (by omega),vB r ss to i hi]
theorem qc:∀(l:List Nd) (ss:List bT) (to i:Nat),i<ss.length->(bC l ss to).1[i]? =ss[i]?
 | [],ss,to,i,hi=>by simp[bC]
 |x::r,ss,to,i,hi=>by
  rw[bC];have h1:=gw x ss to;simp only;rw[qc r _ _ i (by omega),mu x ss to i hi]
theorem p8:∀(l:List Nd) (ss:List bT) (to i:Nat),i<ss.length->(cJ l ss to).1[i]? =ss[i]?
 | [],ss,to,i,hi=>by simp[cJ]
 |x::r,ss,to,i,hi=>by
  rw[cJ];exact mu x ss to i hi
end
section
variable {l:List Nd}{s:By}{x:Nd}{i:Nat}
theorem F2 (hx:l[i]? =some x):gX (l.take i)+oI x<=gX l:=by
 obtain⟨hi,rfl⟩:=List.getElem?_eq_some_iff.1 hx;have h:gX (l.take i++l.drop i)=gX l:=by rw[List.take_append_drop]
 rw[iE,List.drop_eq_getElem_cons hi,gX] at h;omega
theorem F3 (hx:l[i]? =some x):gX (l.drop (i+1))+oI x<=gX l:=by
 obtain⟨hi,rfl⟩:=List.getElem?_eq_some_iff.1 hx;have h:gX (l.take i++l.drop i)=gX l:=by rw[List.take_append_drop]
 rw[iE,List.drop_eq_getElem_cons hi,gX] at h;omega
theorem DE:∀l:List Nd,l.length<=gX l
 | []=>by simp[gX]
 |x::l=>by have:=DE l;have:=DD x;simp only[List.length_cons,gX];omega
def sX:List bT->List Bool->Nat
 |x::r,b::s=>(if b then 0 else x.to.length+1)+sX r s
 |_,_=>0
def jz (ss:List bT):Nat->List Nat->List Bool->List Bool
 | 0,_,seen=>seen
 |n+1,todo,seen =>
  match todo.getLast? with
  |none=>seen
  |some i =>
   if seen[i]? =some true then jz ss n todo.dropLast seen
   else jz ss n (match ss[i]? with|some x=>if x.kind=0 then todo.dropLast++x.to else todo.dropLast|none=>todo.dropLast) (seen.set i true)
def closed (ss:List bT) (todo:List Nat):List Nat :=
 if todo.length=0 then []
 else ((List.range ss.length).filter fun i=>(jz ss (todo.length+sX ss (List.replicate ss.length false)) todo (List.replicate ss.length false))[i]? ==some true && (ss[i]?.map (·.kind)) !=some 0)
theorem zi:∀(ss:List bT) (seen:List Bool) (i:Nat) (x:bT),ss[i]? =some x->seen[i]? =some false->sX ss (seen.set i true)+(x.to.length+1)=sX ss seen
 | [],_,_,_,h,_=>by simp at h
 |_::_,[],_,_,_,h=>by simp at h
 |y::r,b::s,0,x,h1,h2=>by
  simp at h1 h2;subst h1 h2;simp[sX];omega
 |y::r,b::s,i+1,x,h1,h2=>by
  have:=zi r s i x (by simpa using h1) (by simpa using h2);simp only[List.set_cons_succ,sX];omega
def Good (ss:List bT):Prop:=∀x∈ss,∀j∈x.to,j<ss.length
def cG (ss:List bT) (st:Nat):List Nat:=if ss.length=0 then [] else closed ss [st]
def rF (x:bT) (b:Int):Bool:=decide (x.kind=2/\(b<0\/(x.rule:Int)<b))
def rG (ss:List bT):List Nat->Int->Int
 | [],b=>b
 |j::r,b=>rG ss r (match ss[j]? with|some x=>if rF x b then x.rule else b|none=>b)
def bg (ss:List bT) (now:List Nat):Int:=if ss.length=0 then -1 else rG ss now (-1)
def jM (x:bT) (c:UInt8):Bool:=decide (x.kind=1) && x.set.testBit c.toNat
def stepG (ss:List bT) (c:UInt8):List Nat->List Nat->List Nat
 | [],a=>a
 |j::r,a=>stepG ss c r (match ss[j]? with|some x=>if jM x c then a++x.to else a|none=>a)
def cB (ss:List bT) (c:UInt8) (now:List Nat):List Nat:=if ss.length=0 then [] else closed ss (stepG ss c now [])
theorem rS (ss:List bT) (c:UInt8):∀(l a:List Nat),a.length<=(stepG ss c l a).length
 | [],a=>Nat.le_refl _
 |j::r,a=>by
  rw[stepG];refine Nat.le_trans ?_ (rS ss c r _);split
  · split<;>simp
  · exact Nat.le_refl _
def gJ (ss:List bT):List UInt8->List Nat->Nat->Int×Int->Int×Int
 |l,now,k,b =>
  if now.length=0 then b
  else match l with
   | []=>if 0<=bg ss now then ((k:Int),bg ss now) else b
   |c::r=>gJ ss r (cB ss c now) (k+1) (if 0<=bg ss now then ((k:Int),bg ss now) else b)
def dx (ss:List bT) (st:Nat) (l:List UInt8):Int×Int:=if ss.length=0 then (0,-1) else gJ ss l (cG ss st) 0 (0,-1)
def CQ (ss:List bT) (st:Nat) (s:By) (a:Int):Int×Int:=if ss.length=0\/a<0\/(s.length:Int)<a then (0,-1) else dx ss st (s.drop a.toNat)
theorem pX {ss:List bT}{l:List UInt8}{now:List Nat}{k:Nat}{b:Int×Int}(h:now.length=0):gJ ss l now k b=b:=by cases l<;>(rw[gJ];exact if_pos h)
theorem Cz (ss:List bT) (st:Nat):(cG ss st).Sublist (List.range ss.length):=by
 unfold cG closed;split
 · exact List.nil_sublist _
 · split
   · exact List.nil_sublist _
   · exact List.filter_sublist
theorem ED (ss:List bT) (c:UInt8) (now:List Nat):(cB ss c now).Sublist (List.range ss.length):=by
 unfold cB closed;split
 · exact List.nil_sublist _
 · split
   · exact List.nil_sublist _
   · exact List.filter_sublist
def lz:Nat->List By->List bT->List Nat->Int ⊕ (List bT×List Nat)
 |_,[],ss,t=>.inr (ss,t)
 |i,s::r,ss,t=>if (bZ s).2≠0 then .inl (bZ s).2 else lz (i+1) r (lay (bZ s).1 (ss++[⟨2,0,[],i⟩]) ss.length).1 (t++[(lay (bZ s).1 (ss++[⟨2,0,[],i⟩]) ss.length).2])
def xj (l:List By):Nat:=(l.map List.length).sum
def fH (rules:List By):Int ⊕ (List bT×Nat) :=
 if rules.length=0\/64<rules.length then .inl 2
 else match lz 0 rules [] [] with
  |.inl e=>.inl e
  |.inr (ss,t)=>if 2000<xj rules then .inl 70 else .inr (ss++[⟨0,0,t,0⟩],ss.length)
theorem qP (h0:(bZ s).2=0):oI (bZ s).1<=401/\uB (bZ s).1=true/\s.length<=200:=by
 unfold bZ at *;split at h0
 · cases h0
 · rename_i hl;rw[if_neg hl];split at h0
   · rename_i x hx;have:=zl hx;exact⟨by show oI x<=401;omega,this.2,by omega⟩
   · cases h0
theorem xM {l:List By}(hx:l[i]? =some s):xj (l.take (i+1))=xj (l.take i)+s.length:=by
 rw[List.take_add_one,hx,Option.toList_some];simp[xj]
end
end Go.Proofs.YtmehdcdbeafljaaGreatDoor
namespace Go.Proofs.YtmehdcdbeafljaaGreatDoor
open Go.Proofs.Tryz
open Go Go.Lw
set_option maxRecDepth 20000
section
variable {h h':az}{O:Nat->Prop}{v w:Value}{nb st n i:Nat}{todo:List Nat}{seen:List Bool}
def eS (n:Nat):Value:=.int .i64 (n:Nat)
def jm:iA Nat:=.flat eS fun _=>rfl
def EH (k s:Nat) (v:Value) (r:Nat):List Value:=[.int .i64 (k:Nat),fy s 0,fy s 1,fy s 2,fy s 3,v,.int .i64 (r:Nat)]
def HW (h:az) (O:Nat->Prop) (cs:List Value) (x:bT):Prop:=∃v,cs=EH x.kind x.set v x.rule/\bX jm h O v x.to
theorem bX.JQ {α:Type}{e:iA α}{xs:List α}(k:bX e h O v xs):v.oneCell'=true:=by
 obtain⟨oa,n,c,rfl,_⟩:=k;rfl
def Fl:iA bT:=⟨7,by decide,HW,fun h=>by obtain⟨v,rfl,_⟩:=h;rfl,fun h=>by
 obtain⟨v,rfl,hv⟩:=h;intro u hu;simp[EH,fy] at hu
 rcases hu with rfl|rfl|rfl|rfl|rfl|rfl|rfl<;>first|rfl|exact bX.JQ hv,fun h m=>by
 obtain⟨v,hc,hv⟩:=h;exact⟨v,hc,hv.mv m⟩⟩
structure cF (h:az) (O:Nat->Prop) (nb:Nat) (v:Value) (ss:List bT) (st:Nat):Prop where
 blk:bp h nb 126 [v,.int .i64 (st:Nat)]
 row:dH Fl (fun b=>b=nb\/O b) h (nb+1) 138 v ss
abbrev fq (nb:Nat) (v:Value):Nat->Prop:=fun b=>b=nb\/dB v.ownBlock b
theorem cF.own {ss:List bT}(k:cF h O nb v ss st):∀b,v.ownBlock=some b->nb<b/\b<h.size:=fun b hb=>by
 obtain⟨css,_,h2,_⟩:=k.row;have:=h2.lt hb;omega
theorem cF.ext {M:Nat->Prop}{O O':Nat->Prop}{h h':az}{nb:Nat}{v:Value}{ss:List bT}{st:Nat}(k:cF h O nb v ss st) (e:Ext M h h') (hnb:¬M nb) (hown:∀b,v.ownBlock=some b->¬M b) (hM:∀b,b<h.size->M b->O b) (hO:∀b,b<h.size->O' b->O b):cF h' O' nb v ss st :=
 ⟨k.blk.ext e hnb,k.row.pV e hown (fun b hb hm=>.inr (hM b hb hm)) (fun b hb k=>k.imp id (hO b hb))⟩
theorem cF.ax {O':Nat->Prop}{ss:List bT}(k:cF h O nb v ss st) (e:aD h h') (hO:∀b,b<h.size->O' b->O b):cF h' O' nb v ss st:=k.ext e (fun k=>k) (fun _ _ k=>k) (fun _ _ k=>k.elim) hO
theorem FC {ss:List bT}{x:bT}(hn:cF h O nb v ss st) (_hO:∀b,O b->b<h.size) (hx:HW h (fun b=>fq nb v b\/O b) (EH x.kind x.set w x.rule) x) (hl:ss.length<=1000000) :
 ah Tryz.prog 49 #[.pointer (some ⟨nb,0,none⟩),.agg (EH x.kind x.set w x.rule).toArray] h (dh fun r h'=>∃v',r= .int .i64 (ss.length:Nat)/\cF h' O nb v' (ss++[x]) st/\Ext (fq nb v) h h'/\(∀b,v'.ownBlock=some b->v.ownBlock=some b\/h.size<=b)):=by
 have hw1:∀u∈EH x.kind x.set w x.rule,u.oneCell'=true:=Fl.one hx;refine ah.of func49 rfl rfl ?_;refine xr func49 rfl ?_;refine xo rfl (aA.gP rfl) ?_;rintro _ h1 ⟨rfl,hk1,he1,hz1⟩;have hk1:bp h1 h.size 138 (EH x.kind x.set w x.rule):=hk1;have hn1:=hn.ax (O':=O) he1 (fun _ _ k=>k);obtain⟨css,hc1,hc2,hc3⟩:=id hn1.row;have hown:=hn1.own;have hnlt:=hn1.blk.lt;have hnz:=hn.blk.lt;have hnM:¬(dB v.ownBlock nb\/Array.size h1<=nb):=by rintro(k|k);(have:=hown nb k.symm;omega);omega
 have hkM:¬(dB v.ownBlock h.size\/Array.size h1<=h.size):=by rintro(k|k);(have:=hn.own _ k.symm;omega);omega
 refine aS 1 [0,1,3,4] rfl ?_;refine av rfl ?_;refine b6 (fun b=>dB v.ownBlock b\/Array.size h1<=b) (fun i=>Nat.blt i 10) (sz:=11) (listed:= #[false,false,false,false,false,false,false,false,false,false,false]) func49 H.mixed rfl rfl rfl ?_;refine cg 0 1 (by kernel_rfl) rfl ?_;refine cg 1 3 (by kernel_rfl) rfl ?_;refine cg 2 7 (by kernel_rfl) rfl ?_;refine bL 3 15 (by kernel_rfl) rfl (fun h' e=>af (off:=0) underlying126 rfl rfl H.gZ rfl) ?_;refine bL 4 31 (by kernel_rfl) rfl (fun h' e=>ai H.jh rfl (e.cell hnM (hn1.blk.cell (i:=0) rfl))) ?_;refine bL 5 63 (by kernel_rfl) rfl (fun h' e=>aj.aH H.MB H.mO rfl (e.rowAt hkM hk1.row) (by first|rfl|(simp;done)|(simp;omega))) ?_;refine eM 6 127 (by kernel_rfl) rfl (aA.cE (cs:=[_,_,_,_,_,_,_]) underlying124 H.JT rfl rfl (by decide)) ?_;rintro _ _ ⟨rfl,rfl⟩;refine⟨fun _=>by first|exact Ext.push _ _ _|assumption,?_⟩;refine eM 7 255 (by kernel_rfl) rfl (aA.bS underlying124 H.JT rfl rfl (hc2) rfl rfl (hw1) (by omega) (by decide) (by omega)) ?_;rintro v2 h2 ⟨ho2,hx2,hx2',hv2⟩;refine⟨fun _=>hx2'.mono (fun _ _ k=>.inl k),?_⟩;obtain⟨oa2,c2,rfl,_⟩:=ho2.open;refine eM 8 511 (by kernel_rfl) rfl (aj.bw (aM rfl)) ?_;rintro _ hq_ ⟨rfl,hqe_⟩;replace hqe_:=hqe_.symm;subst hqe_;refine⟨fun _=>Ext.refl _ _,?_⟩;refine bL 9 1023 (by kernel_rfl) rfl (fun h' e=>af (off:=0) underlying126 rfl rfl H.gZ rfl) ?_;refine mN 10 2047 (by kernel_rfl) rfl (aA.bB H.gZ rfl rfl (hn1.blk.ext hx2 (fun k=>by have:=hown nb k.symm;omega)) (by first|decide|exact of_decide_eq_true rfl|(simp;done)|(simp;omega)) rfl) ?_;rintro _ h3 ⟨rfl,hk3,hx3,hz3⟩;refine⟨fun hk=>(nomatch hk),?_⟩;refine br (by kernel_rfl) ?_;refine xu [0,1,3,4] rfl ?_;refine bq func49 2 rfl ?_;refine xp rfl (af (off:=0) underlying126 rfl rfl H.gZ rfl) ?_;have hxs:Fl.R h1 (fun b=>dB v.ownBlock b\/b=nb\/O b) (EH x.kind x.set w x.rule) x:=Fl.mv hx ⟨he1.size,fun b hb hn=>⟨he1.block b hb (fun k=>k),fun k=>hn (by rcases k with k|k|k;(exact .inl (.inr k));(exact .inl (.inl k));exact .inr k)⟩⟩;have hrow2:dH Fl (fun b=>b=nb\/O b) h2 (nb+1) 138 (.slice oa2 (ss.length+1) c2) (ss++[x]):=dH.gF hc1 hc3 ho2 hx2 hv2 hxs;have hrow3:dH Fl (fun b=>b=nb\/O b) h3 (nb+1) 138 (.slice oa2 (ss.length+1) c2) (ss++[x]):=hrow2.pV hx3 (fun b hb (k:b=nb)=>by have:=hv2 b hb;rcases this with k'|k';(have:=hown b k';omega);omega) (fun b _ k=>.inl k) (fun b _ k=>k);have hk3:bp h3 nb 126 [.slice oa2 (ss.length+1) c2,.int .i64 (st:Nat)]:=hk3;refine xp rfl (ai H.jh rfl (hk3.cell (i:=0) rfl)) ?_;refine xp rfl (aj.aJ underlying124 rfl) ?_;refine xp rfl (aj.jt rfl rfl ⟨by omega,by omega⟩) ?_;refine aS 1 [0,1,3,4] rfl ?_;refine G.ret func49 rfl rfl ?_;refine⟨_,rfl,_,?_,⟨hk3,hrow3⟩,⟨by have:=he1.size;have:=hx2.size;omega,fun b hb hn=>by rw[hx3.block b (by have:=hx2.size;omega) (fun k=>hn (.inl k)),hx2.block b (by omega) (fun k=>hn (.inr k)),he1.block b hb (fun k=>k)]⟩,fun b hb=>?_⟩
 · show Value.int _ _=_
   congr 1;omega
 · rcases hv2 b hb with k|k
   · exact .inl k
   · exact .inr (by omega)
theorem tY {l cap:Nat}{oa:Option Addr}{c:Nat}{J:Nat->az->Prop}(hn:n<=1000000)
 (hread:∀j h,J j h->cellAt h ⟨cap,0,none⟩=some (.slice oa n c)) (hy:∀j h,J (j+1) h->j<n->∃(b o k s:Nat) (w:Value),oa=some ⟨b,o,none⟩/\Lw.rowAt h b (o+j*6) (ey k s w) /\
  mI Tryz.prog l #[.int .i64 (j:Nat),.agg (ey k s w).toArray] h (dh fun r h'=>r= .bool true/\J j h')) (h0:J n h) :
 ah Tryz.prog 140 #[.func (.yield l) #[] #[],.pointer (some ⟨cap,0,none⟩)] h (dh fun _ h'=>J 0 h'):=by
 refine ah.of func140 rfl rfl ?_;refine xr func140 rfl ?_;refine xp rfl (ai H.wG rfl (hread _ _ h0)) ?_;refine xp rfl (aj.aJ underlying130 rfl) ?_;refine xp rfl (aj.jt rfl rfl ⟨by omega,by omega⟩) ?_;refine aS 1 [0,1,3] rfl ?_;refine G.block rfl rfl ?_;refine bG (σ:=Nat) (fun j=>[(0,.func (.yield l) #[] #[]),(1,.pointer (some ⟨cap,0,none⟩)),(3,.int .i64 ((j:Int)-1))]) (fun j h'=>J j h'/\j<=n) (fun j=>j) (n) rfl ⟨rfl,rfl,rfl,trivial⟩ ⟨h0,Nat.le_refl _⟩ ?_;rintro j h1 ⟨hJ,hj⟩ ih;refine av rfl ?_;refine aZ func140 2 [0,1,3,8] rfl ?_;refine aO rfl rfl (fun hge=>?_) (fun hge=>?_)
 · obtain⟨i,rfl⟩:∃i,j=i+1:=⟨j-1,by omega⟩
   obtain⟨b,o,k,s,w,ha,hrow,hyy⟩:=hy i h1 hJ (by omega);have hji:((i+1:Nat):Int)-1=((i:Nat):Int):=by omega
   rw[hji];refine aC rfl ?_;refine av rfl ?_;refine G.block rfl rfl ?_;refine av rfl ?_;refine G.Lh func140 rfl ?_;refine iz.au rfl rfl rfl rfl rfl (aL rfl) ?_;refine iz.au rfl rfl rfl rfl rfl (aL rfl) ?_;refine iz.au rfl rfl rfl rfl rfl (ai H.wG rfl (hread _ _ hJ)) ?_;refine iz.au rfl rfl rfl rfl rfl (aL rfl) ?_;refine iz.au rfl rfl rfl rfl rfl (aj.ay underlying130 H.cy rfl rfl i rfl ha (by omega)) ?_;refine iz.au rfl rfl rfl rfl rfl (aj.aH H.fA H.cy rfl hrow (by first|rfl|(simp;done)|(simp;omega))) ?_;refine yG (vs:=[_,_]) rfl rfl rfl rfl rfl rfl rfl (hyy) ?_;rintro _ h2 ⟨rfl,hJ2⟩;refine iz.au rfl rfl rfl rfl rfl (aj.Iy rfl) ?_;refine lK rfl ?_;refine xu [0,1,3,8,18] rfl ?_;refine aI rfl rfl (fun hc=>absurd hc (by decide)) (fun _=>?_);refine aC rfl ?_;refine G.aR ?_;refine G.cz func140 rfl ?_;refine cD 1 rfl rfl (aj.jt rfl rfl ⟨by omega,by omega⟩) ?_;refine aS 1 [0,1,3,8,18] rfl ?_;exact ih i _ _ ⟨rfl,rfl,rfl,trivial⟩ ⟨hJ2,by omega⟩ (by omega)
 · obtain rfl:j=0:=by omega
   refine bA rfl rfl ?_;refine G.vS func140 rfl ?_;exact⟨_,rfl,hJ⟩
theorem wv (v:Value) (hv:v.oneCell'=true):ah Tryz.prog 95 #[v] h (dh fun r h'=>r= .func (.func 140) #[] #[.pointer (some ⟨h.size,0,none⟩)]/\h'=h.push (.cells #[v] 130)):=by
 have hcells:v.cells= #[v]:=by cases v<;>simp[Value.oneCell'] at hv<;>rfl
 refine ah.of func95 rfl rfl ?_;refine xr func95 rfl ?_;refine xo rfl (aA.box rfl) ?_;rintro _ _ ⟨rfl,rfl⟩;refine aS 1 [0,1,2] rfl ?_;refine xr func95 rfl ?_;refine xp rfl (aj.makeFunc (vs:=[_]) rfl) ?_;refine aS 1 [0,1,2] rfl ?_;refine G.ret func95 rfl rfl ?_;exact⟨_,rfl,rfl,by rw[hcells]⟩
structure Nx (O:Nat->Prop) (nb:Nat) (h:az) (v:Value) (h':az) (v':Value):Prop where
 ext:Ext (fun b=>fq nb v b\/O b) h h'
 own:∀b,v'.ownBlock=some b->v.ownBlock=some b\/h.size<=b
theorem Nx.refl {O:Nat->Prop}{nb:Nat}{h:az}{v:Value}:Nx O nb h v h v:=⟨Ext.refl _ _,fun _ k=>.inl k⟩
theorem Nx.K0 (e:aD h h'):Nx O nb h v h' v:=⟨e.mono fun _ _ k=>k.elim,fun _ k=>.inl k⟩
theorem Nx.mono {O O':Nat->Prop}{nb:Nat}{h h':az}{v v':Value}(k:Nx O nb h v h' v') (hO:∀b,b<h.size->O b->O' b):Nx O' nb h v h' v':=⟨k.ext.mono fun b hb k=>k.imp id (hO b hb),k.own⟩
theorem Nx.trans {O':Nat->Prop}{h1 h2:az}{v1 v2:Value}(k:Nx O nb h v h1 v1) (k':Nx O' nb h1 v1 h2 v2) (hO:∀b,b<h.size->O' b->O b):Nx O nb h v h2 v2:=by
 refine⟨⟨Nat.le_trans k.ext.size k'.ext.size,fun b hb hn=>?_⟩,fun b hb=>?_⟩
 · rw[k'.ext.block b (Nat.lt_of_lt_of_le hb k.ext.size) ?_,k.ext.block b hb hn];rintro((k1|k1)|k1)
   · exact hn (.inl (.inl k1))
   · rcases k.own b k1.symm with k2|k2
     · exact hn (.inl (.inr k2.symm))
     · omega
   · exact hn (.inr (hO b hb k1))
 · have:=k.ext.size
   rcases k'.own b hb with k2|k2
   · exact k.own b k2
   · exact .inr (by omega)
theorem Nx.mv {v':Value}(k:Nx O nb h v h' v'):Mv (fun b=>fq nb v b\/O b) (fun b=>fq nb v' b\/O b) h h' :=
 ⟨k.ext.size,fun b hb hn=>⟨k.ext.block b hb hn,by
  rintro((k1|k1)|k1)
  · exact hn (.inl (.inl k1))
  · rcases k.own b k1.symm with k2|k2
    · exact hn (.inl (.inr k2.symm))
    · omega
  · exact hn (.inr k1)⟩⟩
theorem Nx.K1 {v':Value}(k:Nx (fun _=>False) nb h v h' v'):Mv (fq nb v) (fq nb v') h h' :=
 ⟨k.ext.size,fun b hb hn=>⟨k.ext.block b hb (fun k=>k.elim hn id),fun k1=>by
  rcases k1 with k1|k1
  · exact hn (.inl k1)
  · rcases k.own b k1.symm with k2|k2
    · exact hn (.inr k2.symm)
    · omega⟩⟩
def Jj (O:Nat->Prop) (nb:Nat) (h:az) (v:Value) (st:Nat) (out:List bT×Nat) (r:Value) (h':az):Prop:=∃v',r= .int .i64 (out.2:Nat)/\cF h' O nb v' out.1 st/\Nx (fun _=>False) nb h v h' v'
def HZ (n:Nat):Prop:=∀{x:Nd}{h:az}{O:Nat->Prop}{nb:Nat}{v w:Value}{ss:List bT}{st to:Nat},oI x<=n->cF h O nb v ss st->(∀b,O b->b<h.size)->ct h (fq nb v) (ey x.kind x.set w) x->uB x=true->ss.length+oI x<=1000000 ->
 ah Tryz.prog 48 #[.pointer (some ⟨nb,0,none⟩),.agg (ey x.kind x.set w).toArray,.int .i64 (to:Nat)] h (dh (Jj O nb h v st (lay x ss to)))
theorem An {ss:List bT}{x:bT}(hn:cF h O nb v ss st) (hO:∀b,O b->b<h.size) (hx:HW h (fun b=>fq nb v b\/O b) (EH x.kind x.set w x.rule) x) (hl:ss.length<=1000000) :
 ah Tryz.prog 49 #[.pointer (some ⟨nb,0,none⟩),.agg (EH x.kind x.set w x.rule).toArray] h (dh (Jj O nb h v st (ss++[x],ss.length))) :=
 (FC hn hO hx hl).mono fun e h' r=>by
  obtain⟨u,he,v',hu,hn',hx',ho⟩:=r;exact⟨u,he,v',hu,hn',hx'.mono fun _ _ k=>.inl k,ho⟩
theorem JS (i:Nat):fy 0 i= .int .u64 0:=by simp[fy,Cn]
theorem n7 {ss:List bT}{to:List Nat}(hn:cF h O nb v ss st) (hO:∀b,O b->b<h.size) (hx:bX jm h (fun b=>fq nb v b\/O b) w to) (hl:ss.length<=1000000) :
 ah Tryz.prog 49 #[.pointer (some ⟨nb,0,none⟩),.agg #[.int .i64 0,.int .u64 0,.int .u64 0,.int .u64 0,.int .u64 0,w,.int .i64 0]] h (dh (Jj O nb h v st (ss++[⟨0,0,to,0⟩],ss.length))):=by
 have h1:=An (x:=⟨0,0,to,0⟩) hn hO ⟨w,rfl,hx⟩ hl;simp only[EH,JS] at h1;exact h1
theorem NY (t:TypeId) (a:Nat) (ho:¬O h.size):bX jm (h.push (.cells #[.int .i64 (a:Nat)] t)) O (.slice (some ⟨h.size,0,none⟩) 1 1) [a]:=bX.oU (e:=jm) (cs:=[eS a]) rfl ho
theorem MV (t:TypeId) (a b:Nat) (ho:¬O h.size):bX jm (h.push (.cells #[.int .i64 (a:Nat),.int .i64 (b:Nat)] t)) O (.slice (some ⟨h.size,0,none⟩) 2 2) [a,b] :=
 ⟨_,2,2,rfl,rfl,Nat.le_refl _,by simp[maxLen],fun i x hx=>by
  refine⟨h.size,0,[eS x],rfl,ho,?_,rfl⟩;have hr:=qL h [.int .i64 (a:Nat),.int .i64 (b:Nat)] t;intro j u hj;have h0:j=0:=by have:=(List.getElem?_eq_some_iff.1 hj).1;simp at this;omega
  subst h0;simp only[List.getElem?_cons_zero,Option.some.injEq] at hj;subst hj
  match i with
  | 0=>simp at hx;subst hx;exact hr 0 _ rfl
  | 1=>simp at hx;subst hx;exact hr 1 _ rfl
  |i+2=>simp at hx⟩
theorem tj:∀(l:List Nd) (x:Nd) (ss:List bT) (to:Nat),bC (l++[x]) ss to=((lay x (bC l ss to).1 to).1,(bC l ss to).2++[(lay x (bC l ss to).1 to).2])
 | [],x,ss,to=>by simp[bC]
 |y::l,x,ss,to=>by
  rw[List.cons_append,bC,tj l x,bC];simp
theorem tg {l:List Nd}{x:Nd}(hx:l[i]? =some x) (ss:List bT) (to:Nat):bC (l.take (i+1)) ss to=((lay x (bC (l.take i) ss to).1 to).1,(bC (l.take i) ss to).2++[(lay x (bC (l.take i) ss to).1 to).2]):=by
 rw[List.take_add_one,hx,Option.toList_some,tj]
def Jq (nb b5 cap d:Nat) (r0:Loop) (hL:az) (v sl:Value) (O:Nat->Prop) (kids:List Nd) (ss:List bT) (st to j:Nat) (g:az):Prop :=
 ∃v',eH g (d+1) r0/\g[d]? =some (.deferred (some []))/\bp g cap 130 [sl]/\cF g (fun b=>O b\/(b5<=b/\b<hL.size)) nb v' (bN (kids.drop j) ss to).1 st /\
  bp g b5 3 [.int .i64 ((bN (kids.drop j) ss to).2:Nat)]/\Nx (fun b=>b5<=b/\b<hL.size) nb hL v g v'
theorem kk {k j:Nat}(h:¬((k:Nat):Int)=(j:Nat)):¬k=j:=fun e=>h (by rw[e])
theorem G6 (ih:HZ n):HZ (n+1):=by
 intro x h O nb v w ss st to hsz hn hO hx hw hl;obtain⟨k,s,kids⟩:=x;simp only[oI] at hsz hl;have hown:=hn.own;have hnb:=hn.blk.lt;obtain⟨w',hw',hkids⟩:=hx.open;have hww:w=w':=by simpa [ey] using hw'
 subst hww
 show ah _ _ #[_,.agg (ey k s w).toArray,_] h _
 replace hkids:bX tA h (fq nb v) w kids:=hkids;obtain⟨oa,kn,kc,rfl,hsl⟩:=hkids.open;refine ah.of func48 rfl rfl ?_;refine xr func48 rfl ?_;refine xo rfl (aA.gP rfl) ?_;rintro _ h1 ⟨rfl,q3,e1,z1⟩;refine xo rfl (aA.gP rfl) ?_;rintro _ h2 ⟨rfl,q4,e2,z2⟩;refine xo rfl (aA.gP rfl) ?_;rintro _ h3 ⟨rfl,q5,e3,z3⟩;have q3:bp h1 h.size 84 [.pointer (some ⟨nb,0,none⟩)]:=q3;have q4:bp h2 h1.size 132 (ey k s (.slice oa kn kc)):=q4;have q5:bp h3 h2.size 3 [.int .i64 (to:Nat)]:=q5;have q3:=(q3.ax e2).ax e3;have q4:=q4.ax e3;have e03:aD h h3:=(e1.trans e2).trans e3;have hn3:cF h3 O nb v ss st:=hn.ax e03 (fun _ _ k=>k);have hO3:∀b,O b->b<h3.size:=fun b hb=>by have:=hO b hb;have:=e03.size;omega
 have nx3:Nx (fun _=>False) nb h v h3 v:=Nx.K0 e03;have hsl3:bX tA h3 (fq nb v) (.slice oa kn kc) kids:=hkids.mv nx3.K1
 have hnew3:∀b,h3.size<=b->¬(fq nb v b\/O b):=by
  have hz:=e03.size;rintro b hb ((k1|k1)|k1)
  · omega
  · have:=hown b k1.symm;omega
  · have:=hO b k1;omega
 have hnM:∀b,h.size<=b->¬(fq nb v b\/False):=by
  rintro b hb ((k1|k1)|k1)
  · omega
  · have:=hown b k1.symm;omega
  · exact k1
 have hkn:kids.length=kn:=hsl.len;have hwl:uC kids=true:=by simp only[uB,Bool.and_eq_true] at hw;exact hw.2
 have hklen:=DE kids;refine aS 1 [0,1,2,3,4,5,6] rfl ?_;refine av rfl ?_;refine xr func48 rfl ?_;refine xp rfl (af (off:=0) underlying132 rfl rfl H.cA rfl) ?_;refine xp rfl (ai H.de rfl (q4.cell (i:=0) rfl)) ?_;refine xd [0,1,2,3,4,5,6,15] rfl ?_;refine G.block rfl rfl ?_;refine aZ func48 2 [0,1,2,3,4,5,6,15,16] rfl ?_;refine aO rfl rfl (fun h1k=>?_) (fun h1k=>?_)
 · obtain rfl:k=1:=by omega
   have hlay:lay (.mk 1 s kids) ss to=(ss++[⟨1,s,[to],0⟩],ss.length):=by rw[lay];simp
   rw[hlay];refine xr func48 rfl ?_;refine xp rfl (ai H.tZ rfl (q3.cell (i:=0) rfl)) ?_;refine xp rfl (af (off:=1) underlying132 rfl rfl H.mP rfl) ?_;refine xp rfl (aj.aH H.J2 H.mP rfl (q4.part 1 (ds:=[fy s 0,fy s 1,fy s 2,fy s 3]) (by intro j v hv;match j with| 0=>exact hv| 1=>exact hv| 2=>exact hv| 3=>exact hv|j+4=>simp at hv)) (by first|rfl|(simp;done)|(simp;omega))) ?_;refine xp rfl (ai H.de rfl (q5.cell (i:=0) rfl)) ?_;refine xo rfl (aA.aX (us:=[_]) underlying127 H.rq rfl rfl (by decide) (by simp[Value.oneCell'])) ?_;rintro _ _ ⟨rfl,rfl⟩;refine xp rfl (aN (H.B2 _ _ _ _ _ _ _ _) rfl) ?_;refine xo rfl (aq (vs:=[_,_]) func49 rfl H.CK rfl (ah.bw (An (O:=O) (x:=⟨1,s,[to],0⟩) (hn3.ax (Ext.push _ _ _) (fun _ _ k=>k)) (fun b hb=>by have:=hO3 b hb;simp;omega) ⟨_,rfl,NY _ to (hnew3 _ (Nat.le_refl _))⟩ (by omega)))) ?_;rintro _ h5 ⟨v',rfl,hn5,nx5⟩;refine aS 1 [0,1,2,3,4,5,6,15,16] rfl ?_;refine G.ret func48 rfl rfl ?_;exact⟨_,rfl,v',rfl,hn5,(nx3.trans (Nx.K0 (Ext.push _ _ _)) (fun _ _ k=>k)).trans nx5 (fun _ _ k=>k)⟩
 · have h1k':¬k=1:=kk h1k;refine aZ func48 2 [0,1,2,3,4,5,6,15,16,25] rfl ?_;refine aO rfl rfl (fun h2k=>?_) (fun h2k=>?_)
   · obtain rfl:k=2:=by omega
     have hlay:lay (.mk 2 s kids) ss to=bN kids ss to:=by rw[lay];simp
     rw[hlay];have hz0:=e03.size;refine av rfl ?_;refine xr func48 rfl ?_;refine xp rfl (af (off:=5) underlying132 rfl rfl H.AP rfl) ?_;refine xp rfl (ai H.wG rfl (q4.cell (i:=5) rfl)) ?_;refine xo rfl (aq (vs:=[_]) func95 rfl H.M6 rfl (ah.bw (wv (.slice oa kn kc) rfl))) ?_;rintro _ h4 ⟨rfl,hh4⟩;have e4:aD h3 h4:=by rw[hh4];exact Ext.push _ _ _
     have q6:bp h4 h3.size 130 [.slice oa kn kc]:=by rw[hh4];exact Er _ _ _
     have z4:h4.size=h3.size+1:=by rw[hh4];simp
     clear hh4;refine xd [0,1,2,3,4,5,6,15,16,25,29] rfl ?_;refine G.block rfl rfl ?_;refine G.rangeFunc rfl rfl func140 rfl (by decide +kernel) ?_;intro fid tmps hfits;obtain⟨r0,hr0⟩:∃r0,r0=mj fid tmps #[30,31] (NO (Lw.sub (aK f48) [0,1,0,0,1,1,1,0,1,0,1])) (NN (Lw.sub (aK f48) [0,1,0,0,1,1,1,0,1,0,1])) h4.size:=⟨_,rfl⟩
     obtain⟨hL,hhL⟩:∃hL,hL=(h4.push (.deferred (some []))).push (.loop r0):=⟨_,rfl⟩
     suffices hmain:ah Tryz.prog 140 #[.func (.yield (h4.size+1)) #[] #[],.pointer (some ⟨h3.size,0,none⟩)] hL _ by rw[hhL,hr0] at hmain;exact hmain
     have hst:r0.state= .ready:=by rw[hr0];rfl
     have hpn:r0.pending=none:=by rw[hr0];rfl
     have hps:r0.params= #[30,31]:=by rw[hr0];rfl
     have htm:r0.tmps=tmps:=by rw[hr0];rfl
     have eL:aD h4 hL:=by rw[hhL];exact(Ext.push _ _ _).trans (Ext.push _ _ _)
     have hLz:hL.size=h4.size+2:=by rw[hhL];simp
     have hloop0:eH hL (h4.size+1) r0:=by
      have hz:h4.size+1=(h4.push (.deferred (some []))).size:=by simp
      rw[eH,hhL,hz];exact Array.getElem?_push_size
     have hdef0:hL[h4.size]? =some (.deferred (some [])):=by
      rw[hhL,(Ext.push (fun _=>False) (h4.push (.deferred (some []))) _).block h4.size (by simp) (fun k=>k)];exact Array.getElem?_push_size
     clear hhL;have e0L:aD h hL:=(e03.trans e4).trans eL;have q3L:=(q3.ax e4).ax eL;have q5L:=(q5.ax e4).ax eL;have q6L:=q6.ax eL;have hnL:cF hL (fun b=>O b\/(h2.size<=b/\b<hL.size)) nb v ss st:=hn.ax e0L (fun b hb k=>k.elim id (fun k=>by omega));have hkL:bX tA hL (fun b=>fq nb v b\/(h2.size<=b/\b<hL.size)) (.slice oa kn kc) kids:=hkids.mv ⟨e0L.size,fun b hb hn=>⟨e0L.block b hb (fun k=>k),fun k=>k.elim hn (fun k=>by omega)⟩⟩;have hdropn:kids.drop kn=[]:=List.drop_of_length_le (by omega);have hJ0:Jq nb h2.size h3.size h4.size r0 hL v (.slice oa kn kc) O kids ss st to kn hL:=⟨v,hloop0,hdef0,q6L,by rw[hdropn,bN];exact hnL,by rw[hdropn,bN];exact q5L,Nx.refl⟩
     have hvM:∀{v':Value}{g:az},Nx (fun b=>h2.size<=b/\b<hL.size) nb hL v g v'->∀b,h.size<=b->b<hL.size->¬fq nb v' b:=by
      rintro v' g nx b hb hb' (k1|k1)
      · omega
      · rcases nx.own b k1.symm with k2|k2
        · have:=hown b k2;omega
        · omega
     refine suff (p:=∀j g,Jq nb h2.size h3.size h4.size r0 hL v (.slice oa kn kc) O kids ss st to (j+1) g->j<kn->∃(b o k s:Nat) (w:Value),oa=some ⟨b,o,none⟩/\Lw.rowAt g b (o+j*6) (ey k s w)/\mI Tryz.prog (h4.size+1) #[.int .i64 (j:Nat),.agg (ey k s w).toArray] g (dh fun r h'=>r= .bool true/\Jq nb h2.size h3.size h4.size r0 hL v (.slice oa kn kc) O kids ss st to j h')) ?_ fun hy=>?_
     · intro j g ⟨v',hlp,hdf,hcap,hng,hb5,nxg⟩ hj;obtain⟨x,hx⟩:∃x,kids[j]? =some x:=⟨_,List.getElem?_eq_getElem (by omega)⟩
       have hkg:=hkL.mv nxg.mv;obtain⟨oa',n',c',hv',_,_,_,hget⟩:=id hkg;cases hv';obtain⟨b,o,cs,ha,hob,hrow,hnd⟩:=hget j x hx;obtain⟨w2,rfl,-⟩:=hnd.open;refine⟨b,o,x.kind,x.set,w2,ha,hrow,?_⟩;have hcatd:=BG hx ss to;have hszx:=F3 hx;have hbl:=jU (kids.drop (j+1)) ss to;have hfit:=BL (p1:=30) (p2:=31) (v1:=.int .i64 (j:Nat)) (v2:=.agg (ey x.kind x.set w2).toArray) hfits rfl rfl;rw[<-hps,<-htm] at hfit;have hvg:=hvM nxg;have hzg:=nxg.ext.size;have q3g:=q3L.ext nxg.ext (fun k=>k.elim (hvM Nx.refl (v':=v) (g:=hL) _ (Nat.le_refl _) (by omega)) (fun k=>by omega));refine mI.of hlp hst (by rw[hps];rfl) hfit ((congrArg Loop.assign hr0).trans rfl) ((congrArg Loop.body hr0).trans rfl) ?_;refine iz.FH rfl rfl rfl rfl rfl (aA.aY H.kQ) ?_;rintro _ g1 ⟨rfl,k8,e1',zz1⟩;refine iz.cu rfl rfl rfl rfl (aA.aB H.cy rfl rfl k8 (by first|rfl|(simp;done)|(simp;omega)) (by first|decide|exact of_decide_eq_true rfl|(simp;done)|(simp;omega)) (ct.one hnd)) ?_;rintro _ g2 ⟨rfl,k8',e2',zz2⟩;refine lK rfl ?_;have e12:aD g g2:=e1'.only e2' (Nat.le_refl _);have k8':bp g2 g.size 132 (ey x.kind x.set w2):=k8';refine⟨(e12.block _ hlp.lt (fun k=>k)).trans hlp,?_⟩;obtain⟨g3,hg3⟩:∃g3,g3=Lw.fo g2 (h4.size+1) (.loop { r0 with state:=.busy }):=⟨_,rfl⟩
       rw[<-hg3];have hlz:=hlp.lt;have hz2:=e12.size;have e23:Ext (fun b=>b=h4.size+1) g2 g3:=by rw[hg3];exact Ext.fo _ _ _ rfl
       have hlp3:eH g3 (h4.size+1) { r0 with state:=.busy }:=by rw[eH,hg3];exact ou (by omega)
       have hz3:=e23.size;have e13:Ext (fun b=>b=h4.size+1) g g3:=(e12.mono fun _ _ k=>k.elim).trans e23;have l3:¬h.size=h4.size+1:=by omega
       have l5:¬h2.size=h4.size+1:=by omega
       have l6:¬h3.size=h4.size+1:=by omega
       have l8:¬g.size=h4.size+1:=by omega
       have ld:¬h4.size=h4.size+1:=by omega
       have q33:=q3g.ext e13 l3;have b53:=hb5.ext e13 l5;have cap3:=hcap.ext e13 l6;have k83:=k8'.ext e23 l8;have hown':∀b,v'.ownBlock=some b->¬b=h4.size+1:=fun b hb k=>hvg b (by omega) (by omega) (.inr hb.symm)
       have hn3g:cF g3 (fun b=>O b\/(h2.size<=b/\b<hL.size)) nb v' (bN (kids.drop (j+1)) ss to).1 st:=hng.ext e13 (by omega) hown' (fun b _ k=>.inr (by omega)) (fun b _ k=>k);have hnd3:ct g3 (fq nb v') (ey x.kind x.set w2) x:=hnd.mv ⟨e13.size,fun b hb hn=>⟨e13.block b hb (fun k=>hn (.inr (by omega))),fun k=>hn (.inl k)⟩⟩;refine iz.au rfl rfl rfl rfl rfl (ai H.tZ rfl (q33.cell (i:=0) rfl)) ?_;refine iz.au rfl rfl rfl rfl rfl (aj.aH H.fA H.cy rfl k83.row (by first|rfl|(simp;done)|(simp;omega))) ?_;refine iz.au rfl rfl rfl rfl rfl (ai H.de rfl (b53.cell (i:=0) rfl)) ?_;refine iz.FH rfl rfl rfl rfl rfl (aq (vs:=[_,_,_]) func48 rfl H.EZ rfl (ah.bw (ih (x:=x) (O:=fun b=>O b\/(h2.size<=b/\b<hL.size)) (to:=(bN (kids.drop (j+1)) ss to).2) (by omega) hn3g (fun b hb=>by rcases hb with k|k;(have:=hO b k;omega);omega) hnd3 (yQ hwl hx) (by omega)))) ?_;rintro _ g4 ⟨v4,rfl,hn4,nx4⟩;have hM4:∀b,h.size<=b->b<hL.size->¬(fq nb v' b\/False):=fun b h1 h2 k=>k.elim (hvg b h1 h2) id
       have b54:=b53.ext nx4.ext (hM4 _ (by omega) (by omega));refine iz.cu rfl rfl rfl rfl (aA.bB H.cA rfl rfl b54 (by first|decide|exact of_decide_eq_true rfl|(simp;done)|(simp;omega)) rfl) ?_;rintro _ g5 ⟨rfl,b55,e5',zz5⟩;refine lK rfl ?_;have b55:bp g5 h2.size 3 [.int .i64 ((lay x (bN (kids.drop (j+1)) ss to).1 (bN (kids.drop (j+1)) ss to).2).2:Nat)]:=b55;have hz4:=nx4.ext.size;have nx45:Nx (fun b=>h2.size<=b/\b<hL.size) nb g3 v' g5 v4:=⟨⟨by omega,fun b hb hn=>by rw[e5'.block b (by omega) (fun k=>hn (.inr (by omega))),nx4.ext.block b hb (fun k=>hn (k.elim .inl (fun k=>k.elim)))]⟩,nx4.own⟩
       have hlp5:eH g5 (h4.size+1) { r0 with state:=.busy }:=(hlp3.ext nx4.ext (hM4 _ (by omega) (by omega))).ext e5' (fun k=>by omega);have hr2:({ ({ r0 with state:=.busy }:Loop) with state:=.ready,pending:=none }:Loop)=r0:=by cases r0;simp at hst hpn;simp[hst,hpn]
       refine⟨_,hlp5,rfl,?_⟩;rw[hr2];have e56:Ext (fun b=>b=h4.size+1) g5 (Lw.fo g5 (h4.size+1) (.loop r0)):=Ext.fo _ _ _ rfl
       have hown4:∀b,v4.ownBlock=some b->¬b=h4.size+1/\¬b=h2.size:=fun b hb=>by
        rcases nx4.own b hb with k|k
        · exact⟨hown' b k,fun k'=>hvg b (by omega) (by omega) (.inr k.symm)⟩
        · omega
       have hdf5:g5[h4.size]? =some (.deferred (some [])):=by
        rw[e5'.block h4.size (by omega) (by omega),nx4.ext.block h4.size (by omega) (hM4 _ (by omega) (by omega)),e13.block h4.size (by omega) (by omega)];exact hdf
       have cap5:=(cap3.ext nx4.ext (hM4 _ (by omega) (by omega))).ext e5' (by omega);refine⟨v4,ou (by omega),by rw[e56.block h4.size (by omega) (by omega)];exact hdf5,cap5.ext e56 l6,?_,?_,?_⟩
       · rw[hcatd];have hn5:cF g5 (fun b=>O b\/(h2.size<=b/\b<hL.size)) nb v4 (lay x (bN (kids.drop (j+1)) ss to).1 (bN (kids.drop (j+1)) ss to).2).1 st:=hn4.ext e5' (by omega) (fun b hb=>(hown4 b hb).2) (fun b _ k=>.inr (by omega)) (fun _ _ k=>k);exact hn5.ext e56 (by omega) (fun b hb=>(hown4 b hb).1) (fun b _ k=>.inr (by omega)) (fun _ _ k=>k)
       · rw[hcatd];exact b55.ext e56 l5
       · exact((nxg.trans ⟨e13.mono (fun b _ k=>.inr (by omega)),fun b k=>.inl k⟩ (fun b _ k=>k)).trans nx45 (fun b _ k=>k)).trans ⟨e56.mono (fun b _ k=>.inr (by omega)),fun b k=>.inl k⟩ (fun b _ k=>k)
     · refine(tY (l:=h4.size+1) (cap:=h3.size) (n:=kn) (c:=kc) (J:=Jq nb h2.size h3.size h4.size r0 hL v (.slice oa kn kc) O kids ss st to) (by omega) (fun j g hJ=>by obtain⟨_,_,_,k,_⟩:=hJ;exact k.cell (i:=0) rfl) hy hJ0).mono fun e g hJ=>?_
       obtain⟨u,rfl,v',hlp,hdf,hcap,hng,hb5,nxg⟩:=hJ;rw[List.drop_zero] at hng hb5;refine⟨_,rfl,r0,hlp,by rw[hst];decide,hpn,?_⟩;have hzg:=nxg.ext.size;have hlz:=hlp.lt;have e1:Ext (fun b=>b=h4.size+1) g (Lw.fo g (h4.size+1) (.loop { r0 with state:=.exhausted })):=Ext.fo _ _ _ rfl;have b5e:=hb5.ext e1 (by omega);have hdfe:=(e1.block h4.size (by omega) (by omega)).trans hdf;have hvg:=hvM nxg;refine GD.aR ?_;refine qw rfl ?_;refine GD.cz func48 rfl ?_;refine j9.au rfl rfl rfl rfl (ai H.de rfl (b5e.cell (i:=0) rfl)) ?_;refine j9.au rfl rfl rfl rfl (aj.assign rfl) ?_;refine lM rfl ?_;refine GD.sub (ρ':=[(0,_),(1,_),(2,_),(3,_),(4,_),(5,_),(6,_),(15,_),(16,_),(25,_),(29,_)]) ⟨rfl,rfl,rfl,rfl,rfl,rfl,rfl,rfl,rfl,rfl,rfl,trivial⟩ ?_;refine GD.DP func48 rfl hdfe rfl ?_;have e2:Ext (fun b=>b=h4.size) (Lw.fo g (h4.size+1) (.loop { r0 with state:=.exhausted })) (Lw.fo (Lw.fo g (h4.size+1) (.loop { r0 with state:=.exhausted })) h4.size (.deferred none)):=Ext.fo _ _ _ rfl;have e12:Ext (fun b=>b=h4.size+1\/b=h4.size) g _:=(e1.mono fun _ _ k=>.inl k).trans (e2.mono fun _ _ k=>.inr k);have hownv:∀b,v'.ownBlock=some b->¬(b=h4.size+1\/b=h4.size):=fun b hb k=>hvg b (by omega) (by omega) (.inr hb.symm)
       refine⟨_,rfl,v',rfl,hng.ext e12 (by omega) hownv (fun b _ k=>.inr (by omega)) (fun b _ k=>.inl k),?_⟩;have nxe:Nx (fun b=>h2.size<=b) nb h v _ v':=((Nx.K0 e0L).trans nxg (fun b _ k=>k.1)).trans ⟨e12.mono (fun b _ k=>.inr k),fun b k=>.inl k⟩ (fun b hb k=>by omega);exact nxe.mono (fun b hb k=>by omega)
   · have h2k':¬k=2:=kk h2k;refine aZ func48 2 [0,1,2,3,4,5,6,15,16,25,37] rfl ?_;refine aO rfl rfl (fun h3k=>?_) (fun h3k=>?_)
     · obtain rfl:k=3:=by omega
       have hlay:lay (.mk 3 s kids) ss to=((bC kids ss to).1++[⟨0,0,(bC kids ss to).2,0⟩],(bC kids ss to).1.length):=by rw[lay];simp
       rw[hlay];refine aZ func48 1 [0,1,2,3,4,5,6,9,15,16,25,37] rfl ?_;refine av rfl ?_;refine xr func48 rfl ?_;refine xp rfl (af (off:=5) underlying132 rfl rfl H.AP rfl) ?_;refine xp rfl (ai H.wG rfl (q4.cell (i:=5) rfl)) ?_;refine xp rfl (aj.aJ underlying130 rfl) ?_;refine aS 1 [0,1,2,3,4,5,6,9,15,16,25,37,40,41,42] rfl ?_;refine G.block rfl rfl ?_;refine bG (σ:=Nat×Value) (fun p=>[(3,.pointer (some ⟨h.size,0,none⟩)),(5,.pointer (some ⟨h2.size,0,none⟩)),(9,p.2),(40,.slice oa kn kc),(41,.int .i64 (kn:Nat)),(42,.int .i64 (p.1:Nat))]) (fun p h'=>p.1<=kn/\∃v',cF h' (fun b=>O b\/dB p.2.ownBlock b) nb v' (bC (kids.take p.1) ss to).1 st/\dH jm (fun _=>True) h' h3.size 3 p.2 (bC (kids.take p.1) ss to).2/\Nx (fun _=>False) nb h3 v h' v'/\(∀b,p.2.ownBlock=some b->v'.ownBlock≠some b)) (fun p=>kn-p.1) ((0,.slice none 0 0)) rfl ⟨rfl,rfl,rfl,rfl,rfl,rfl,trivial⟩ ⟨Nat.zero_le _,v,by simpa [bC] using hn3.ax (Ext.refl _ _) (fun b _ k=>k.elim id (fun k=>by cases k)),by simpa [bC] using dH.nil jm (fun _=>True) h3 h3.size 3,Nx.refl,fun b hb=>by cases hb⟩ ?_;rintro⟨i,t9⟩ gh ⟨hi,v',hnH,htH,nxH,hdist⟩ ih2
       try dsimp only
       dsimp only at hi hnH htH nxH hdist;have hzH:=nxH.ext.size;have hz0:=e03.size;have q3H:=q3.ext nxH.ext (hnM _ (Nat.le_refl _));have q5H:=q5.ext nxH.ext (hnM _ (by omega));have hslH:bX tA gh (fq nb v') (.slice oa kn kc) kids:=hsl3.mv nxH.K1;have ht9:∀b,t9.ownBlock=some b->h3.size<=b/\b<gh.size:=fun b hb=>by obtain⟨_,_,k,_⟩:=id htH;exact k.lt hb
       have hlenT:(bC (kids.take i) ss to).2.length=i:=by rw[nM,List.length_take];omega
       refine aZ func48 1 [3,5,9,40,41,42,43] rfl ?_;refine av rfl ?_;refine aO rfl rfl (fun hlt=>?_) (fun hlt=>?_)
       · have hik:i<kids.length:=by omega
         obtain⟨x,hx⟩:∃x,kids[i]? =some x:=⟨_,List.getElem?_eq_getElem hik⟩
         obtain⟨oa',n',c',hv',_,_,_,hget⟩:=id hslH;cases hv';obtain⟨b,o,cs,ha,hob,hrow,hnd⟩:=hget i x hx;obtain⟨w2,rfl,-⟩:=hnd.open;have hszx:=F2 hx;have hbl:=fT (kids.take i) ss to;refine aC rfl ?_;refine av rfl ?_;refine G.block rfl rfl ?_;refine xr func48 rfl ?_;refine xp rfl (aj.ay underlying130 H.cy rfl rfl i rfl ha (by omega)) ?_;refine xp rfl (aj.aH H.fA H.cy rfl hrow (by first|rfl|(simp;done)|(simp;omega))) ?_;refine xo rfl (aA.aY H.kQ) ?_;rintro _ h5 ⟨rfl,q11,e5,z5⟩;refine RW.cu rfl rfl rfl (aA.aB H.cy rfl rfl q11 (by first|rfl|(simp;done)|(simp;omega)) (by first|decide|exact of_decide_eq_true rfl|(simp;done)|(simp;omega)) (ct.one hnd)) ?_;rintro _ h6 ⟨rfl,q11',e6,z6⟩;have e56:aD gh h6:=e5.only e6 (Nat.le_refl _);have q11':bp h6 gh.size 132 (ey x.kind x.set w2):=q11';have hn6:cF h6 (fun b=>O b\/dB t9.ownBlock b) nb v' (bC (kids.take i) ss to).1 st:=hnH.ax e56 (fun _ _ k=>k);have nx6:Nx (fun _=>False) nb gh v' h6 v':=Nx.K0 e56;have hz6:=e56.size;have hnd6:=hnd.mv nx6.K1;refine xd [3,5,9,11,40,41,42,43] rfl ?_;refine G.cz func48 rfl ?_;refine cD 1 rfl rfl (ai H.tZ rfl ((q3H.ax e56).cell (i:=0) rfl)) ?_;refine xp rfl (aj.aH H.fA H.cy rfl q11'.row (by first|rfl|(simp;done)|(simp;omega))) ?_;refine xp rfl (ai H.de rfl ((q5H.ax e56).cell (i:=0) rfl)) ?_;refine xo rfl (aq (vs:=[_,_,_]) func48 rfl H.EZ rfl (ah.bw (ih (x:=x) (O:=fun b=>O b\/dB t9.ownBlock b) (to:=to) (by omega) hn6 (fun b hb=>by rcases hb with k|k;(have:=hO3 b k;omega);(have:=ht9 b k.symm;omega)) hnd6 (yQ hwl hx) (by omega)))) ?_;rintro _ h7 ⟨v7,rfl,hn7,nx7⟩
         have ht7:dH jm (fun _=>True) h7 h3.size 3 t9 (bC (kids.take i) ss to).2:=(htH.ax e56).pV nx7.ext (fun b hb=>by
          rintro((k1|k1)|k1)
          · have:=ht9 b hb;omega
          · exact hdist b hb k1.symm
          · exact k1) (fun _ _ _=>trivial) (fun _ _ _=>trivial)
         obtain⟨css,hc1,hc2,hc3⟩:=id ht7;have hz7:=nx7.ext.size;refine xo rfl (aA.aX (us:=[_]) underlying127 H.rq rfl rfl (by decide) (by simp[Value.oneCell'])) ?_;rintro _ _ ⟨rfl,rfl⟩;refine xo rfl (aA.bS underlying127 H.rq rfl rfl (hc2) rfl rfl (by first|decide|simp[Value.oneCell']) (by omega) (by decide) (by omega)) ?_;rintro t9' h8 ⟨ho8,hx8,-,hv8⟩;refine aS 1 [3,5,9,11,40,41,42,43] rfl ?_;refine G.aR ?_;refine G.cz func48 rfl ?_;refine xp rfl (aj.bE rfl rfl ⟨by omega,by omega⟩) ?_;refine aS 1 [3,5,9,11,40,41,42,43] rfl ?_;have ht8:dH jm (fun _=>True) h8 h3.size 3 t9' ((bC (kids.take i) ss to).2++[(lay x (bC (kids.take i) ss to).1 to).2]):=dH.gF hc1 hc3 ho8 hx8 hv8 rfl
         have hn8:cF h8 (fun b=>O b\/dB t9'.ownBlock b) nb v7 (lay x (bC (kids.take i) ss to).1 to).1 st:=hn7.ext hx8 (fun k=>by have:=ht9 nb k.symm;omega) (fun b hb k=>by
          rcases nx7.own b hb with k'|k'
          · exact hdist b k.symm k'
          · have:=ht9 b k.symm;omega) (fun b _ k=>.inr k) (fun b hb k=>k.imp id (fun k=>by
            rcases hv8 b k.symm with k'|k'
            · exact k'.symm
            · omega))
         have hd8:∀b,t9'.ownBlock=some b->v7.ownBlock≠some b:=fun b hb k=>by
          rcases hv8 b hb with k'|k'
          · rcases nx7.own b k with k2|k2
            · exact hdist b k' k2
            · have:=ht9 b k';omega
          · have:=(hn7.own b k).2;omega
         exact ih2 (i+1,t9') _ _ ⟨rfl,rfl,rfl,rfl,rfl,rfl,trivial⟩ ⟨by show i+1<=kn;omega,v7,by rw[tg hx];exact hn8,by rw[tg hx];exact ht8,⟨⟨by have:=hx8.size;omega,fun b hb hn=>by rw[hx8.block b (by omega) (fun k=>by have:=ht9 b k.symm;omega)];exact((nxH.trans nx6 (fun _ _ k=>k)).trans nx7 (fun _ _ k=>k)).ext.block b hb hn⟩,((nxH.trans nx6 (fun _ _ k=>k)).trans nx7 (fun _ _ k=>k)).own⟩,hd8⟩ (by show kn-(i+1)<kn-i;omega)
       · obtain rfl:i=kn:=by omega
         have hall:kids.take i=kids:=List.take_of_length_le (by omega);rw[hall] at hnH htH hlenT;have hbl:=fT kids ss to
         have hrd:bX jm gh (fun b=>fq nb v' b\/O b) t9 (bC kids ss to).2:=htH.DQ (fun b hb=>by
          rintro((k1|k1)|k1)
          · have:=ht9 b hb;omega
          · exact hdist b hb k1.symm
          · have:=ht9 b hb;have:=hO3 b k1;omega) (fun _ _ _=>trivial)
         obtain⟨oa9,n9,c9,rfl,_⟩:=id hrd;refine bA rfl rfl ?_;refine xr func48 rfl ?_;refine xp rfl (ai H.tZ rfl (q3H.cell (i:=0) rfl)) ?_;refine cD 1 rfl rfl (aN (H.Aj _ _ _) rfl) ?_;refine xo rfl (aq (vs:=[_,_]) func49 rfl H.CK rfl (ah.bw (n7 (O:=O) (hnH.ax (Ext.refl _ _) (fun b _ k=>.inl k)) (fun b hb=>by have:=hO3 b hb;omega) hrd (by omega)))) ?_;rintro _ h5 ⟨v5,rfl,hn5,nx5⟩;refine aS 1 [3,5,6,9,40,41,42,43] rfl ?_;refine G.ret func48 rfl rfl ?_;exact⟨_,rfl,v5,rfl,hn5,(nx3.trans nxH (fun _ _ k=>k)).trans nx5 (fun _ _ k=>k)⟩
     · have h3k':¬k=3:=kk h3k;refine aZ func48 2 [0,1,2,3,4,5,6,15,16,25,37,58] rfl ?_;refine aO rfl rfl (fun h6k=>?_) (fun h6k=>?_)
       · obtain rfl:k=6:=by omega
         have hone:kids.length=1:=by simp[uB] at hw;exact hw.1
         obtain⟨x,rfl⟩:∃x,kids=[x]:=by match kids,hone with| [x],_=>exact⟨x,rfl⟩
         have hkn1:kn=1:=by simpa using hkn.symm
         have hszx:oI x<=gX [x]:=by simp[gX]
         have hwx:uB x=true:=by simpa [uC] using hwl
         have hlay:lay (.mk 6 s [x]) ss to=((lay x ss to).1++[⟨0,0,[(lay x ss to).2,to],0⟩],(lay x ss to).1.length):=by rw[lay];simp[cJ]
         rw[hlay];have hz0:=e03.size;obtain⟨oa',n',c',hv',_,_,_,hget⟩:=id hsl3;cases hv';obtain⟨b,o,cs,ha,hob,hrow,hnd⟩:=hget 0 x rfl;obtain⟨w2,rfl,-⟩:=hnd.open
         have hnM3:∀b,h.size<=b->b<h3.size->¬(fq nb v b\/h3.size<=b):=by
          rintro b hb hb' ((k1|k1)|k1)
          · omega
          · have:=hown b k1.symm;omega
          · omega
         have hbM:¬(fq nb v b\/h3.size<=b):=by
          rintro(k1|k1)
          · exact hob k1
          · have:=gV hrow (by simp[ey]);omega
         have m3:=hnM3 h.size (Nat.le_refl _) (by omega);have m4:=hnM3 h1.size (by omega) (by omega);have m5:=hnM3 h2.size (by omega) (by omega);have hlenx:=gw x ss to;refine av rfl ?_;refine b6 (fun b=>fq nb v b\/Array.size h3<=b) (fun i=>Nat.blt i 13) (sz:=13) (listed:= #[false,false,false,false,false,false,false,false,false,false,false,false,false]) func48 H.mixed rfl rfl rfl ?_;refine bL 0 1 (by kernel_rfl) rfl (fun h' e=>ai H.tZ rfl (e.cell m3 (q3.cell (i:=0) rfl))) ?_;refine bL 1 3 (by kernel_rfl) rfl (fun h' e=>ai H.tZ rfl (e.cell m3 (q3.cell (i:=0) rfl))) ?_;refine bL 2 7 (by kernel_rfl) rfl (fun h' e=>af (off:=5) underlying132 rfl rfl H.AP rfl) ?_;refine bL 3 15 (by kernel_rfl) rfl (fun h' e=>ai H.wG rfl (e.cell m4 (q4.cell (i:=5) rfl))) ?_;refine bL 4 31 (by kernel_rfl) rfl (fun h' e=>aj.ay underlying130 H.cy rfl rfl 0 rfl ha (by omega)) ?_;refine bL 5 63 (by kernel_rfl) rfl (fun h' e=>aj.aH H.fA H.cy rfl (e.rowAt hbM hrow) (by first|rfl|(simp;done)|(simp;omega))) ?_;refine bL 6 127 (by kernel_rfl) rfl (fun h' e=>ai H.de rfl (e.cell m5 (q5.cell (i:=0) rfl))) ?_;refine bL 8 383 (by kernel_rfl) rfl (fun h' e=>ai H.de rfl (e.cell m5 (q5.cell (i:=0) rfl))) ?_;refine eM 7 511 (by kernel_rfl) rfl (aq (vs:=[_,_,_]) func48 rfl H.EZ rfl (ah.bw (ih (x:=x) (O:=O) (to:=to) (by omega) hn3 hO3 hnd hwx (by omega)))) ?_;rintro _ h5 ⟨v5,rfl,hn5,nx5⟩;refine⟨fun _=>nx5.ext.mono (fun b _ k=>k.elim .inl (fun k=>k.elim)),?_⟩;have hz5:=nx5.ext.size;have hown5:=hn5.own
         have hnew5:∀t,bX jm (h5.push (.cells #[.int .i64 ((lay x ss to).2:Nat),.int .i64 (to:Nat)] t)) (fun b=>fq nb v5 b\/O b) (.slice (some ⟨h5.size,0,none⟩) 2 2) [(lay x ss to).2,to]:=fun t=>MV t _ _ (by
          rintro((k1|k1)|k1)
          · omega
          · have:=hown5 _ k1.symm;omega
          · have:=hO3 _ k1;omega)
         refine eM 9 1023 (by kernel_rfl) rfl (aA.aX (us:=[_,_]) underlying127 H.rq rfl rfl (by decide) (by simp[Value.oneCell'])) ?_;rintro _ _ ⟨rfl,rfl⟩;refine⟨fun _=>by first|exact Ext.push _ _ _|assumption,?_⟩;refine bL 10 2047 (by kernel_rfl) rfl (fun h' e=>aN (H.Aj _ _ _) rfl) ?_;refine eM 11 4095 (by kernel_rfl) rfl (aq (vs:=[_,_]) func49 rfl H.CK rfl (ah.bw (n7 (O:=O) (hn5.ax (Ext.push _ _ _) (fun _ _ k=>k)) (fun b hb=>by have:=hO3 b hb;simp;omega) (hnew5 _) (by omega)))) ?_;rintro _ h6 ⟨v6,rfl,hn6,nx6⟩;refine⟨fun _=>nx6.ext.mono (fun b _ k=>by rcases k with (k1|k1)|k1;(exact .inl (.inl k1));(rcases nx5.own b k1.symm with k2|k2;(exact .inl (.inr k2.symm));exact .inr k2);exact k1.elim),?_⟩;refine cg 12 8191 (by kernel_rfl) rfl ?_;refine br (by kernel_rfl) ?_;refine xu [0,1,2,3,4,5,6,15,16,25,37,58] rfl ?_;refine G.ret func48 rfl rfl ?_;exact⟨_,rfl,v6,rfl,hn6,((nx3.trans nx5 (fun _ _ k=>k)).trans (Nx.K0 (Ext.push _ _ _)) (fun _ _ k=>k)).trans nx6 (fun _ _ k=>k)⟩
       · have h6k':¬k=6:=kk h6k;refine av rfl ?_;refine aZ func48 2 [0,1,2,3,4,5,6,15,16,25,37,58,72] rfl ?_;refine aO rfl rfl (fun h4k=>?_) (fun h4k=>?_)
         · obtain rfl:k=4:=by omega
           have hone:kids.length=1:=by simp[uB] at hw;exact hw.1
           obtain⟨x,rfl⟩:∃x,kids=[x]:=by match kids,hone with| [x],_=>exact⟨x,rfl⟩
           have hkn1:kn=1:=by simpa using hkn.symm
           have hszx:oI x<=gX [x]:=by simp[gX]
           have hwx:uB x=true:=by simpa [uC] using hwl
           have hlay:lay (.mk 4 s [x]) ss to=((lay x (ss++[⟨0,0,[],0⟩]) ss.length).1.set ss.length ⟨0,0,[(lay x (ss++[⟨0,0,[],0⟩]) ss.length).2,to],0⟩,ss.length):=by rw[lay];simp[cJ]
           rw[hlay];refine aC rfl ?_;refine aI rfl rfl (fun _=>?_) (fun hc=>absurd hc (by simp));refine xr func48 rfl ?_;refine xp rfl (ai H.tZ rfl (q3.cell (i:=0) rfl)) ?_;refine xp rfl (aN (H.HL ) rfl) ?_;refine xo rfl (aq (vs:=[_,_]) func49 rfl H.CK rfl (ah.bw (n7 (O:=O) (to:=[]) hn3 hO3 (bX.nil _ _ _) (by omega)))) ?_;rintro _ h5 ⟨v5,rfl,hn5,nx5⟩;have hz5:=nx5.ext.size;have hz0:=e03.size;have q3':=q3.ext nx5.ext (hnM _ (Nat.le_refl _));have q4':=q4.ext nx5.ext (hnM _ (by omega));have q5':=q5.ext nx5.ext (hnM _ (by omega));have hsl5:bX tA h5 (fq nb v5) (.slice oa kn kc) [x]:=hsl3.mv nx5.K1;obtain⟨oa',n',c',hv',_,_,_,hget⟩:=id hsl5;cases hv';obtain⟨b,o,cs,ha,hob,hrow,hnd⟩:=hget 0 x rfl;obtain⟨w2,rfl,-⟩:=hnd.open;have hown5:=hn5.own
           have hnM5:∀b,h.size<=b->b<h3.size->¬(fq nb v5 b\/h5.size<=b):=by
            rintro b hb hb' ((k1|k1)|k1)
            · omega
            · rcases nx5.own b k1.symm with k2|k2
              · have:=hown b k2;omega
              · omega
            · omega
           have hbM:¬(fq nb v5 b\/h5.size<=b):=by
            rintro(k1|k1)
            · exact hob k1
            · have:=gV hrow (by simp[ey]);omega
           have m3:=hnM5 h.size (Nat.le_refl _) (by omega);have m4:=hnM5 h1.size (by omega) (by omega);refine aS 1 [0,1,2,3,4,5,6,12,15,16,25,37,58,72] rfl ?_;refine av rfl ?_;refine b6 (fun b=>fq nb v5 b\/Array.size h5<=b) (fun i=>Nat.blt i 8) (sz:=8) (listed:= #[false,false,false,false,false,false,false,false]) func48 H.mixed rfl rfl rfl ?_;refine bL 0 1 (by kernel_rfl) rfl (fun h' e=>ai H.tZ rfl (e.cell m3 (q3'.cell (i:=0) rfl))) ?_;refine bL 1 3 (by kernel_rfl) rfl (fun h' e=>af (off:=5) underlying132 rfl rfl H.AP rfl) ?_;refine bL 2 7 (by kernel_rfl) rfl (fun h' e=>ai H.wG rfl (e.cell m4 (q4'.cell (i:=5) rfl))) ?_;refine bL 3 15 (by kernel_rfl) rfl (fun h' e=>aj.ay underlying130 H.cy rfl rfl 0 rfl ha (by omega)) ?_;refine bL 4 31 (by kernel_rfl) rfl (fun h' e=>aj.aH H.fA H.cy rfl (e.rowAt hbM hrow) (by first|rfl|(simp;done)|(simp;omega))) ?_;refine cg 5 63 (by kernel_rfl) rfl ?_;refine eM 6 127 (by kernel_rfl) rfl (aq (vs:=[_,_,_]) func48 rfl H.EZ rfl (ah.bw (ih (x:=x) (O:=O) (to:=ss.length) (by omega) hn5 (fun b hb=>by have:=hO3 b hb;omega) hnd hwx (by simp;omega)))) ?_;rintro _ h6 ⟨v6,rfl,hn6,nx6⟩;refine⟨fun _=>nx6.ext.mono (fun b _ k=>k.elim .inl (fun k=>k.elim)),?_⟩;have hz6:=nx6.ext.size;have nx36:=nx5.trans nx6 (fun _ _ k=>k);have q3':=q3.ext nx36.ext (hnM _ (Nat.le_refl _));have q4':=q4.ext nx36.ext (hnM _ (by omega));have q5':=q5.ext nx36.ext (hnM _ (by omega));have hown6:=hn6.own;have hlen6:=gw x (ss++[⟨0,0,[],0⟩]) ss.length;rw[List.length_append,List.length_singleton] at hlen6;have hpre:(lay x (ss++[⟨0,0,[],0⟩]) ss.length).1[ss.length]? =some ⟨0,0,[],0⟩:=by rw[mu x _ _ _ (by simp)];simp
           have hn6c:=hn6.blk.cell (i:=0) rfl
           have hnM6:∀b,h.size<=b->b<h3.size->¬(fq nb v6 b\/h6.size<=b):=by
            rintro b hb hb' ((k1|k1)|k1)
            · omega
            · rcases nx36.own b k1.symm with k2|k2
              · have:=hown b k2;omega
              · omega
            · omega
           have hnew6:∀t,bX jm (h6.push (.cells #[.int .i64 ((lay x (ss++[⟨0,0,[],0⟩]) ss.length).2:Nat),.int .i64 (to:Nat)] t)) (fun b=>dB v6.ownBlock b\/b=nb\/O b) (.slice (some ⟨h6.size,0,none⟩) 2 2) [(lay x (ss++[⟨0,0,[],0⟩]) ss.length).2,to]:=fun t=>MV t _ _ (by
            rintro(k1|k1|k1)
            · have:=hown6 _ k1.symm;omega
            · omega
            · have:=hO3 _ k1;omega)
           generalize hout:lay x (ss++[⟨0,0,[],0⟩]) ss.length=out at *;have hn7:cF (h6.push (.cells #[.int .i64 (out.2:Nat),.int .i64 (to:Nat)] 3)) O nb v6 out.1 st:=hn6.ax (Ext.push _ _ _) (fun _ _ k=>k);obtain⟨g,c6,cs6,hv6,hg1,hg2,hg3,hg4,hg5,hg6⟩:=hn7.row.put hpre;obtain⟨w6,rfl,_⟩:=hg5;subst hv6;have hput:=hg6 5 (.slice (some ⟨h6.size,0,none⟩) 2 2) ⟨0,0,[out.2,to],0⟩ (by decide) ⟨_,rfl,hnew6 _⟩;have hgb:h6.size=g\/g<h6.size:=by have:=hown6 g rfl;omega
           have hg6':g<h6.size:=(hown6 g rfl).2;have hcell7:cellAt (h6.push (.cells #[.int .i64 (out.2:Nat),.int .i64 (to:Nat)] 3)) ⟨g,0+ss.length*7+5,none⟩=some w6:=hg3 5 _ rfl;have m6:=hnM6 h1.size (by omega) (by omega);have j4:¬h1.size=g:=fun k=>m6 (.inl (.inr (by rw[k];rfl)))
           have j3:¬h6.size<=h.size:=by omega
           have j0:¬h6.size<=nb:=by omega
           have j5:¬h6.size<=h2.size:=by omega
           refine cg 7 255 (by kernel_rfl) rfl ?_;refine br (by kernel_rfl) ?_;refine xu [0,1,2,3,4,5,6,12,13,15,16,25,37,58,72] rfl ?_;refine av rfl ?_;refine b6 (fun b=>Array.size h6<=b) (fun i=>Nat.blt i 10) (sz:=11) (listed:= #[false,false,false,false,false,false,false,false,false,false,false]) func48 H.mixed rfl rfl rfl ?_;refine bL 0 1 (by kernel_rfl) rfl (fun h' e=>ai H.tZ rfl (e.cell j3 (q3'.cell (i:=0) rfl))) ?_;refine cg 1 3 (by kernel_rfl) rfl ?_;refine bL 2 7 (by kernel_rfl) rfl (fun h' e=>af (off:=0) underlying126 rfl rfl H.gZ rfl) ?_;refine bL 3 15 (by kernel_rfl) rfl (fun h' e=>ai H.jh rfl (e.cell j0 hn6c)) ?_;refine cg 4 31 (by kernel_rfl) rfl ?_;refine cg 5 63 (by kernel_rfl) rfl ?_;refine bL 6 127 (by kernel_rfl) rfl (fun h' e=>ai H.de rfl (e.cell j5 (q5'.cell (i:=0) rfl))) ?_;refine eM 7 255 (by kernel_rfl) rfl (aA.aX (us:=[_,_]) underlying127 H.rq rfl rfl (by decide) (by simp[Value.oneCell'])) ?_;rintro _ _ ⟨rfl,rfl⟩;refine⟨fun _=>by first|exact Ext.push _ _ _|assumption,?_⟩;refine eM 8 511 (by kernel_rfl) rfl (aj.bw (aj.ay underlying124 H.mO rfl rfl ss.length rfl rfl (by omega))) ?_;rintro _ hq_ ⟨rfl,hqe_⟩;replace hqe_:=hqe_.symm;subst hqe_;refine⟨fun _=>Ext.refl _ _,?_⟩;refine bL 9 1023 (by kernel_rfl) rfl (fun h' e=>af (off:=5) underlying138 rfl rfl H.iB rfl) ?_;refine mN 10 2047 (by kernel_rfl) rfl (cL H.iB rfl rfl rfl hcell7 (hg4 _)) ?_;rintro _ _ ⟨rfl,rfl⟩;refine⟨fun hk=>(nomatch hk),?_⟩;refine br (by kernel_rfl) ?_;refine xu [0,1,2,3,4,5,6,12,13,15,16,25,37,58,72] rfl ?_;refine av rfl ?_;refine xr func48 rfl ?_;refine xp rfl (af (off:=0) underlying132 rfl rfl H.cA rfl) ?_;have hz7:∀u,(eJ (h6.push (.cells #[.int .i64 (out.2:Nat),.int .i64 (to:Nat)] 3)) ⟨g,0+ss.length*7+5,none⟩ u).size=h6.size+1:=fun u=>by rw[jI];simp
           have ex7:∀u,Ext (fun b=>b=g) h6 (eJ (h6.push (.cells #[.int .i64 (out.2:Nat),.int .i64 (to:Nat)] 3)) ⟨g,0+ss.length*7+5,none⟩ u):=fun u=>⟨by rw[hz7];omega,fun b hb hn=>by rw[(Ext.eJ (M:=fun b=>b=g) _ _ u rfl).block b (by simp;omega) hn,(Ext.push (fun _=>False) h6 _).block b hb (fun k=>k)]⟩
           refine xp rfl (ai H.de rfl ((q4'.ext (ex7 _) j4).cell (i:=0) rfl)) ?_;refine aS 1 [0,1,2,3,4,5,6,12,13,15,16,25,37,58,72,97] rfl ?_;refine aI rfl rfl (fun hc=>absurd hc (by decide)) (fun _=>?_);refine aC rfl ?_;refine aZ func48 2 [0,1,2,3,4,5,6,12,13,15,16,25,37,58,72,97] rfl ?_;refine G.ret func48 rfl rfl ?_;exact⟨_,rfl,_,rfl,⟨hn6.blk.ext (ex7 _) (by have:=hown6 g rfl;omega),hput⟩,((nx3.trans nx36 (fun _ _ k=>k)).trans ⟨(ex7 _).mono (fun b _ k=>.inl (.inr (by rw[k];rfl))),fun b k=>.inl k⟩ (fun _ _ k=>k))⟩
         · have h4k':¬k=4:=kk h4k;refine G.cz func48 rfl ?_;refine aS 2 [0,1,2,3,4,5,6,15,16,25,37,58,72] rfl ?_;refine aO rfl rfl (fun h5k=>?_) (fun h5k=>?_)
           · obtain rfl:k=5:=by omega
             have hone:kids.length=1:=by simp[uB] at hw;exact hw.1
             obtain⟨x,rfl⟩:∃x,kids=[x]:=by match kids,hone with| [x],_=>exact⟨x,rfl⟩
             have hkn1:kn=1:=by simpa using hkn.symm
             have hszx:oI x<=gX [x]:=by simp[gX]
             have hwx:uB x=true:=by simpa [uC] using hwl
             have hlay:lay (.mk 5 s [x]) ss to=((lay x (ss++[⟨0,0,[],0⟩]) ss.length).1.set ss.length ⟨0,0,[(lay x (ss++[⟨0,0,[],0⟩]) ss.length).2,to],0⟩,(lay x (ss++[⟨0,0,[],0⟩]) ss.length).2):=by rw[lay];simp[cJ]
             rw[hlay];refine xr func48 rfl ?_;refine xp rfl (ai H.tZ rfl (q3.cell (i:=0) rfl)) ?_;refine xp rfl (aN (H.HL ) rfl) ?_;refine xo rfl (aq (vs:=[_,_]) func49 rfl H.CK rfl (ah.bw (n7 (O:=O) (to:=[]) hn3 hO3 (bX.nil _ _ _) (by omega)))) ?_;rintro _ h5 ⟨v5,rfl,hn5,nx5⟩;have hz5:=nx5.ext.size;have hz0:=e03.size;have q3':=q3.ext nx5.ext (hnM _ (Nat.le_refl _));have q4':=q4.ext nx5.ext (hnM _ (by omega));have q5':=q5.ext nx5.ext (hnM _ (by omega));have hsl5:bX tA h5 (fq nb v5) (.slice oa kn kc) [x]:=hsl3.mv nx5.K1;obtain⟨oa',n',c',hv',_,_,_,hget⟩:=id hsl5;cases hv';obtain⟨b,o,cs,ha,hob,hrow,hnd⟩:=hget 0 x rfl;obtain⟨w2,rfl,-⟩:=hnd.open;have hown5:=hn5.own
             have hnM5:∀b,h.size<=b->b<h3.size->¬(fq nb v5 b\/h5.size<=b):=by
              rintro b hb hb' ((k1|k1)|k1)
              · omega
              · rcases nx5.own b k1.symm with k2|k2
                · have:=hown b k2;omega
                · omega
              · omega
             have hbM:¬(fq nb v5 b\/h5.size<=b):=by
              rintro(k1|k1)
              · exact hob k1
              · have:=gV hrow (by simp[ey]);omega
             have m3:=hnM5 h.size (Nat.le_refl _) (by omega);have m4:=hnM5 h1.size (by omega) (by omega);refine aS 1 [0,1,2,3,4,5,6,12,15,16,25,37,58,72] rfl ?_;refine av rfl ?_;refine b6 (fun b=>fq nb v5 b\/Array.size h5<=b) (fun i=>Nat.blt i 8) (sz:=8) (listed:= #[false,false,false,false,false,false,false,false]) func48 H.mixed rfl rfl rfl ?_;refine bL 0 1 (by kernel_rfl) rfl (fun h' e=>ai H.tZ rfl (e.cell m3 (q3'.cell (i:=0) rfl))) ?_;refine bL 1 3 (by kernel_rfl) rfl (fun h' e=>af (off:=5) underlying132 rfl rfl H.AP rfl) ?_;refine bL 2 7 (by kernel_rfl) rfl (fun h' e=>ai H.wG rfl (e.cell m4 (q4'.cell (i:=5) rfl))) ?_;refine bL 3 15 (by kernel_rfl) rfl (fun h' e=>aj.ay underlying130 H.cy rfl rfl 0 rfl ha (by omega)) ?_;refine bL 4 31 (by kernel_rfl) rfl (fun h' e=>aj.aH H.fA H.cy rfl (e.rowAt hbM hrow) (by first|rfl|(simp;done)|(simp;omega))) ?_;refine cg 5 63 (by kernel_rfl) rfl ?_;refine eM 6 127 (by kernel_rfl) rfl (aq (vs:=[_,_,_]) func48 rfl H.EZ rfl (ah.bw (ih (x:=x) (O:=O) (to:=ss.length) (by omega) hn5 (fun b hb=>by have:=hO3 b hb;omega) hnd hwx (by simp;omega)))) ?_;rintro _ h6 ⟨v6,rfl,hn6,nx6⟩;refine⟨fun _=>nx6.ext.mono (fun b _ k=>k.elim .inl (fun k=>k.elim)),?_⟩;have hz6:=nx6.ext.size;have nx36:=nx5.trans nx6 (fun _ _ k=>k);have q3':=q3.ext nx36.ext (hnM _ (Nat.le_refl _));have q4':=q4.ext nx36.ext (hnM _ (by omega));have q5':=q5.ext nx36.ext (hnM _ (by omega));have hown6:=hn6.own;have hlen6:=gw x (ss++[⟨0,0,[],0⟩]) ss.length;rw[List.length_append,List.length_singleton] at hlen6;have hpre:(lay x (ss++[⟨0,0,[],0⟩]) ss.length).1[ss.length]? =some ⟨0,0,[],0⟩:=by rw[mu x _ _ _ (by simp)];simp
             have hn6c:=hn6.blk.cell (i:=0) rfl
             have hnM6:∀b,h.size<=b->b<h3.size->¬(fq nb v6 b\/h6.size<=b):=by
              rintro b hb hb' ((k1|k1)|k1)
              · omega
              · rcases nx36.own b k1.symm with k2|k2
                · have:=hown b k2;omega
                · omega
              · omega
             have hnew6:∀t,bX jm (h6.push (.cells #[.int .i64 ((lay x (ss++[⟨0,0,[],0⟩]) ss.length).2:Nat),.int .i64 (to:Nat)] t)) (fun b=>dB v6.ownBlock b\/b=nb\/O b) (.slice (some ⟨h6.size,0,none⟩) 2 2) [(lay x (ss++[⟨0,0,[],0⟩]) ss.length).2,to]:=fun t=>MV t _ _ (by
              rintro(k1|k1|k1)
              · have:=hown6 _ k1.symm;omega
              · omega
              · have:=hO3 _ k1;omega)
             generalize hout:lay x (ss++[⟨0,0,[],0⟩]) ss.length=out at *;have hn7:cF (h6.push (.cells #[.int .i64 (out.2:Nat),.int .i64 (to:Nat)] 3)) O nb v6 out.1 st:=hn6.ax (Ext.push _ _ _) (fun _ _ k=>k);obtain⟨g,c6,cs6,hv6,hg1,hg2,hg3,hg4,hg5,hg6⟩:=hn7.row.put hpre;obtain⟨w6,rfl,_⟩:=hg5;subst hv6;have hput:=hg6 5 (.slice (some ⟨h6.size,0,none⟩) 2 2) ⟨0,0,[out.2,to],0⟩ (by decide) ⟨_,rfl,hnew6 _⟩;have hgb:h6.size=g\/g<h6.size:=by have:=hown6 g rfl;omega
             have hg6':g<h6.size:=(hown6 g rfl).2;have hcell7:cellAt (h6.push (.cells #[.int .i64 (out.2:Nat),.int .i64 (to:Nat)] 3)) ⟨g,0+ss.length*7+5,none⟩=some w6:=hg3 5 _ rfl;have m6:=hnM6 h1.size (by omega) (by omega);have j4:¬h1.size=g:=fun k=>m6 (.inl (.inr (by rw[k];rfl)))
             have j3:¬h6.size<=h.size:=by omega
             have j0:¬h6.size<=nb:=by omega
             have j5:¬h6.size<=h2.size:=by omega
             refine cg 7 255 (by kernel_rfl) rfl ?_;refine br (by kernel_rfl) ?_;refine xu [0,1,2,3,4,5,6,12,13,15,16,25,37,58,72] rfl ?_;refine av rfl ?_;refine b6 (fun b=>Array.size h6<=b) (fun i=>Nat.blt i 10) (sz:=11) (listed:= #[false,false,false,false,false,false,false,false,false,false,false]) func48 H.mixed rfl rfl rfl ?_;refine bL 0 1 (by kernel_rfl) rfl (fun h' e=>ai H.tZ rfl (e.cell j3 (q3'.cell (i:=0) rfl))) ?_;refine cg 1 3 (by kernel_rfl) rfl ?_;refine bL 2 7 (by kernel_rfl) rfl (fun h' e=>af (off:=0) underlying126 rfl rfl H.gZ rfl) ?_;refine bL 3 15 (by kernel_rfl) rfl (fun h' e=>ai H.jh rfl (e.cell j0 hn6c)) ?_;refine cg 4 31 (by kernel_rfl) rfl ?_;refine cg 5 63 (by kernel_rfl) rfl ?_;refine bL 6 127 (by kernel_rfl) rfl (fun h' e=>ai H.de rfl (e.cell j5 (q5'.cell (i:=0) rfl))) ?_;refine eM 7 255 (by kernel_rfl) rfl (aA.aX (us:=[_,_]) underlying127 H.rq rfl rfl (by decide) (by simp[Value.oneCell'])) ?_;rintro _ _ ⟨rfl,rfl⟩;refine⟨fun _=>by first|exact Ext.push _ _ _|assumption,?_⟩;refine eM 8 511 (by kernel_rfl) rfl (aj.bw (aj.ay underlying124 H.mO rfl rfl ss.length rfl rfl (by omega))) ?_;rintro _ hq_ ⟨rfl,hqe_⟩;replace hqe_:=hqe_.symm;subst hqe_;refine⟨fun _=>Ext.refl _ _,?_⟩;refine bL 9 1023 (by kernel_rfl) rfl (fun h' e=>af (off:=5) underlying138 rfl rfl H.iB rfl) ?_;refine mN 10 2047 (by kernel_rfl) rfl (cL H.iB rfl rfl rfl hcell7 (hg4 _)) ?_;rintro _ _ ⟨rfl,rfl⟩;refine⟨fun hk=>(nomatch hk),?_⟩;refine br (by kernel_rfl) ?_;refine xu [0,1,2,3,4,5,6,12,13,15,16,25,37,58,72] rfl ?_;refine av rfl ?_;refine xr func48 rfl ?_;refine xp rfl (af (off:=0) underlying132 rfl rfl H.cA rfl) ?_;have hz7:∀u,(eJ (h6.push (.cells #[.int .i64 (out.2:Nat),.int .i64 (to:Nat)] 3)) ⟨g,0+ss.length*7+5,none⟩ u).size=h6.size+1:=fun u=>by rw[jI];simp
             have ex7:∀u,Ext (fun b=>b=g) h6 (eJ (h6.push (.cells #[.int .i64 (out.2:Nat),.int .i64 (to:Nat)] 3)) ⟨g,0+ss.length*7+5,none⟩ u):=fun u=>⟨by rw[hz7];omega,fun b hb hn=>by rw[(Ext.eJ (M:=fun b=>b=g) _ _ u rfl).block b (by simp;omega) hn,(Ext.push (fun _=>False) h6 _).block b hb (fun k=>k)]⟩
             refine xp rfl (ai H.de rfl ((q4'.ext (ex7 _) j4).cell (i:=0) rfl)) ?_;refine aS 1 [0,1,2,3,4,5,6,12,13,15,16,25,37,58,72,97] rfl ?_;refine aI rfl rfl (fun _=>?_) (fun hc=>absurd hc (by decide));refine aZ func48 2 [0,1,2,3,4,5,6,12,13,15,16,25,37,58,72,97] rfl ?_;refine G.ret func48 rfl rfl ?_;exact⟨_,rfl,_,rfl,⟨hn6.blk.ext (ex7 _) (by have:=hown6 g rfl;omega),hput⟩,((nx3.trans nx36 (fun _ _ k=>k)).trans ⟨(ex7 _).mono (fun b _ k=>.inl (.inr (by rw[k];rfl))),fun b k=>.inl k⟩ (fun _ _ k=>k))⟩
           · have h5k':¬k=5:=kk h5k;have hlay:lay (.mk k s kids) ss to=(ss,to):=by rw[lay];simp[h1k',h2k',h3k',h4k',h5k',h6k']
             rw[hlay];refine aC rfl ?_;refine G.aR ?_;refine xr func48 rfl ?_;refine xp rfl (ai H.de rfl (q5.cell (i:=0) rfl)) ?_;refine aS 1 [0,1,2,3,4,5,6,15,16,25,37,58,72] rfl ?_;refine G.ret func48 rfl rfl ?_;exact⟨_,rfl,v,rfl,hn3,nx3⟩
theorem G5:∀n,HZ n
 | 0=>by
  intro hs;have:=DD ‹Nd›;omega
 |n+1=>G6 (G5 n)
def oB:iA By:=.flat (fun s=>.string (bs s)) fun _=>rfl
def yH (h h':az) (rules:List By) (r:Value):Prop :=
 match fH rules with
 |.inl e=>r= .tuple #[.pointer none,.int .i64 e]
 |.inr (ss,st)=>∃nb v,r= .tuple #[.pointer (some ⟨nb,0,none⟩),.int .i64 0]/\h.size<=nb/\cF h' (fun b=>b<h.size) nb v ss st
theorem HT {ss:List bT}(i:Nat) (hn:cF h O nb v ss st) (hO:∀b,O b->b<h.size) (hl:ss.length<=1000000) :
 ah Tryz.prog 49 #[.pointer (some ⟨nb,0,none⟩),.agg #[.int .i64 2,.int .u64 0,.int .u64 0,.int .u64 0,.int .u64 0,.slice none 0 0,.int .i64 (i:Nat)]] h (dh (Jj O nb h v st (ss++[⟨2,0,[],i⟩],ss.length))):=by
 have h1:=An (x:=⟨2,0,[],i⟩) hn hO ⟨.slice none 0 0,rfl,bX.nil _ _ _⟩ hl;simp only[EH,JS] at h1;exact h1
theorem CR {lim:Nat}(hg:Sg h lim) (hlim:lim<=h.size){rv:Value}{rules:List By}(hr:bX oB h (fun _=>False) rv rules) (hrl:∀s∈rules,s.length<=1000000) :
 ah Tryz.prog 27 #[rv] h (dh fun r h'=>yH h h' rules r/\aD h h'):=by
 obtain⟨oa,kn,kc,rfl,hsl⟩:=id hr.open;have hkn:=hsl.len;have hkc:=hsl.le;have hcap:=hsl.cap;generalize htgt:lz 0 rules [] []=tgt;refine ah.of func27 rfl rfl ?_;refine aZ func27 2 [0,2,3] rfl ?_;refine av rfl ?_;refine av rfl ?_;refine G.bF [(18,.bool (decide (kn=0\/64<kn)))] [(0,_),(2,_),(3,_)] ⟨rfl,rfl,rfl,trivial⟩ func27 rfl ?_ ?_
 · refine cD 1 rfl rfl (aj.aJ underlying87 rfl) ?_;refine bh 2 rfl ?_;refine aP (d:=14) rfl (fun hg=>?_) (fun hg=>?_)
   · refine bh 4 rfl ?_;refine aE rfl ?_;exact⟨rfl,aF rfl (by have:=of_decide_eq_true hg;simp;omega),rfl,rfl,rfl,trivial⟩
   · refine cD 1 rfl rfl (aj.aJ underlying87 rfl) ?_;refine bh 2 rfl ?_;refine aE rfl ?_;exact⟨rfl,aF rfl (by have:=of_decide_eq_false hg;simp only[decide_eq_decide];omega),rfl,rfl,rfl,trivial⟩
 · refine aO rfl rfl (fun hbig=>?_) (fun hbig=>?_)
   · refine aZ func27 2 [0,2,3,18] rfl ?_;refine G.ret func27 rfl rfl ?_;refine⟨_,rfl,?_,Ext.refl _ _⟩;have:fH rules= .inl 2:=by unfold fH;rw[if_pos (show rules.length=0\/64<rules.length by omega)]
     rw[yH,this];rfl
   · have hmk:fH rules=match lz 0 rules [] [] with|.inl e=>.inl e|.inr (ss,t)=>if 2000<xj rules then .inl 70 else .inr (ss++[⟨0,0,t,0⟩],ss.length):=by unfold fH;rw[if_neg (show ¬(rules.length=0\/64<rules.length) by omega)]<;>rfl
     rw[htgt] at hmk;refine aC rfl ?_;refine xr func27 rfl ?_;refine xp rfl (aN (H.KQ ) rfl) ?_;refine xo rfl (aA.gP rfl) ?_;rintro _ h1 ⟨rfl,q4,e1,z1⟩;have q4:bp h1 h.size 126 [.slice none 0 0,.int .i64 (0:Nat)]:=q4;have hn1:cF h1 (fun b=>b<h.size) h.size (.slice none 0 0) [] 0:=⟨q4,dH.nil _ _ _ _ _⟩
     refine aS 1 [0,2,3,4,18] rfl ?_;refine aZ func27 1 [0,2,3,4,5,18] rfl ?_;refine aZ func27 1 [0,2,3,4,5,6,18] rfl ?_;refine av rfl ?_;refine bq func27 1 rfl ?_;refine xp rfl (aj.aJ underlying87 rfl) ?_;refine aS 1 [0,2,3,4,5,6,18,21,22,23] rfl ?_;refine G.block rfl rfl ?_;refine bG (σ:=Nat×Value) (fun p=>[(4,.pointer (some ⟨h.size,0,none⟩)),(5,p.2),(6,.int .i64 (xj (rules.take p.1):Nat)),(21,.slice oa kn kc),(22,.int .i64 (kn:Nat)),(23,.int .i64 (p.1:Nat))]) (fun p h'=>p.1<=kn/\∃v ss t,cF h' (fun b=>b<h.size\/dB p.2.ownBlock b) h.size v ss 0/\dH jm (fun _=>True) h' h1.size 3 p.2 t/\Nx (fun _=>False) h.size h1 (.slice none 0 0) h' v/\(∀b,p.2.ownBlock=some b->v.ownBlock≠some b)/\(ss.length<=402*p.1/\xj (rules.take p.1)<=200*p.1/\t.length=p.1)/\lz p.1 (rules.drop p.1) ss t=tgt) (fun p=>kn-p.1) ((0,.slice none 0 0)) rfl ⟨rfl,rfl,rfl,rfl,rfl,rfl,trivial⟩ ⟨Nat.zero_le _,_,[],[],hn1.ax (Ext.refl _ _) (fun b _ k=>k.elim id (fun k=>by cases k)),dH.nil _ _ _ _ _,Nx.refl,fun b hb=>(by cases hb),⟨Nat.zero_le _,by simp[xj],rfl⟩,htgt⟩ ?_;rintro⟨i,tv⟩ g0 ⟨hi,v,ss,t,hng,htg,nxg,hdist,⟨hss,htot,htl⟩,hcon⟩ ih
     try dsimp only
     dsimp only at hi hng htg nxg hdist hss htot htl hcon;have hz0:=nxg.ext.size;have htv:∀b,tv.ownBlock=some b->h1.size<=b/\b<g0.size:=fun b hb=>by obtain⟨_,_,k,_⟩:=id htg;exact k.lt hb
     have e0g:aD h g0:=⟨by omega,fun b hb _=>(nxg.ext.block b (by omega) (by
      rintro((k|k)|k)
      · omega
      · cases k
      · exact k)).trans (e1.block b hb (fun k=>k))⟩
     have hown:=hng.own;have hnlt:=hng.blk.lt;refine aZ func27 1 [4,5,6,21,22,23,24] rfl ?_;refine av rfl ?_;refine aO rfl rfl (fun hlt=>?_) (fun hlt=>?_)
     · obtain⟨s,hs⟩:∃s,rules[i]? =some s:=⟨_,List.getElem?_eq_getElem (by omega)⟩
       have hdr:rules.drop i=s::rules.drop (i+1):=by
        obtain⟨hi',rfl⟩:=List.getElem?_eq_some_iff.1 hs;exact List.drop_eq_getElem_cons hi'
       rw[hdr,lz] at hcon;obtain⟨oa',n',c',hv',_,_,_,hget⟩:=id (hr.ax e0g);cases hv';obtain⟨b,o,cs,ha,hob,hrow,rfl⟩:=hget i s hs;refine aC rfl ?_;refine av rfl ?_;refine G.block rfl rfl ?_;refine bq func27 1 rfl ?_;refine xp rfl (aj.ay underlying87 H.fL rfl rfl i rfl ha (by omega)) ?_;refine xp rfl (ai H.gj rfl (hrow 0 _ rfl)) ?_;refine aS 2 [4,5,6,7,8,21,22,23,24] rfl ?_;refine bq func27 1 rfl ?_;refine xo rfl (aq (vs:=[_]) func47 rfl H.Np rfl (ah.bw (Bf (hg.ext e0g (fun _ k=>k.elim)) (by omega) s (hrl s (List.mem_of_getElem? hs))))) ?_;rintro _ g1 ⟨⟨w,rfl,hnd⟩,e01⟩;refine bh 3 rfl ?_;refine xo rfl (aA.aY H.kQ) ?_;rintro _ g2 ⟨rfl,k9,e12,z12⟩;refine RW.cu rfl rfl rfl (aA.aB H.cy rfl rfl k9 (by first|rfl|(simp;done)|(simp;omega)) (by first|decide|exact of_decide_eq_true rfl|(simp;done)|(simp;omega)) (ct.one hnd)) ?_;rintro _ g3 ⟨rfl,k9',e23,z23⟩;refine aS 1 [4,5,6,7,8,9,10,21,22,23,24] rfl ?_;refine av rfl ?_;refine aZ func27 2 [4,5,6,7,8,9,10,21,22,23,24,34] rfl ?_;have k9':bp g3 g1.size 132 (ey (bZ s).1.kind (bZ s).1.set w):=k9';refine aO rfl rfl (fun herr=>?_) (fun herr=>?_)
       · rw[if_pos (by exact herr)] at hcon;refine aZ func27 3 [2,3,4,5,6,7,8,9,10,21,22,23,24,34] rfl ?_;refine G.ret func27 rfl rfl ?_;have e3:aD h g3:=(e0g.trans e01).trans (e12.only e23 (Nat.le_refl _));refine⟨_,rfl,?_,e3⟩;rw[<-hcon] at hmk;rw[yH,hmk];rfl
       · have h0:(bZ s).2=0:=by simpa using herr
         rw[if_neg (by simpa using h0)] at hcon;have hsmall:=qP h0;have hbs:=bD s;have ecc:aD g1 g3:=e12.only e23 (Nat.le_refl _);have e03:aD g0 g3:=e01.trans ecc;have hz1:=e01.size;have hz3:=ecc.size;have hz13:g1.size<g3.size:=by omega
         refine aC rfl ?_;refine av rfl ?_;refine G.bF [(6,.int .i64 (xj (rules.take (i+1)):Nat))] [(4,_),(5,_),(7,_),(8,_),(9,_),(10,_),(21,_),(22,_),(23,_),(24,_),(34,_)] ⟨rfl,rfl,rfl,rfl,rfl,rfl,rfl,rfl,rfl,rfl,rfl,trivial⟩ func27 rfl ?_ ?_
         · refine cD 2 rfl rfl (aj.bM underlying9 rfl) ?_;refine xp rfl (aj.bE rfl rfl ⟨by omega,by omega⟩) ?_;refine bh 1 rfl ?_;refine aE rfl ?_;exact⟨rfl,(by show some (Value.int _ _)=some (Value.int _ _);rw[xM hs];congr 2),rfl,rfl,rfl,rfl,rfl,rfl,rfl,rfl,rfl,rfl,rfl,trivial⟩
         · have hn3:cF g3 (fun b=>b<h.size\/dB tv.ownBlock b) h.size v ss 0:=hng.ax e03 (fun _ _ k=>k);have hO3:∀b,(b<h.size\/dB tv.ownBlock b)->b<g3.size:=fun b hb=>by rcases hb with k|k;omega;(have:=htv b k.symm;omega)
           have hnd3:ct g3 (fq h.size v) (ey (bZ s).1.kind (bZ s).1.set w) (bZ s).1:=hnd.mv ⟨ecc.size,fun b hb hn=>⟨ecc.block b hb (fun k=>k),by
            rintro(k|k)
            · exact hn (by show b<g0.size;omega)
            · exact hn (by show b<g0.size;exact(hown b k.symm).2)⟩⟩
           have hK1:¬(fq h.size v g1.size\/False):=by
            rintro((k|k)|k)
            · omega
            · have:=hown _ k.symm;omega
            · exact k
           refine b6 (fun b=>¬b=Array.size g1) (fun i=>Nat.blt i 11) (sz:=11) (listed:= #[false,false,false,false,false,false,false,false,false,false,false]) func27 H.mixed rfl rfl rfl ?_;refine cg 0 1 (by kernel_rfl) rfl ?_;refine cg 1 3 (by kernel_rfl) rfl ?_;refine bL 2 7 (by kernel_rfl) rfl (fun h' e=>aj.aH H.fA H.cy rfl (e.rowAt (fun k=>k rfl) k9'.row) (by first|rfl|(simp;done)|(simp;omega))) ?_;refine cg 3 15 (by kernel_rfl) rfl ?_;refine cg 4 31 (by kernel_rfl) rfl ?_;refine bL 5 63 (by kernel_rfl) rfl (fun h' e=>aN (H.Fw _ _) rfl) ?_;refine eM 6 127 (by kernel_rfl) rfl (aq (vs:=[_,_]) func49 rfl H.CK rfl (ah.bw (HT i hn3 hO3 (by omega)))) ?_;rintro _ g4 ⟨v4,rfl,hn4,nx4⟩;refine⟨fun _=>nx4.ext.mono (fun b _ k e=>hK1 (e▸k)),?_⟩;have hz4:=nx4.ext.size
           have hK2:¬(fq h.size v4 g1.size\/False):=by
            rintro((k|k)|k)
            · omega
            · rcases nx4.own _ k.symm with k2|k2
              · exact hK1 (.inl (.inr k2.symm))
              · omega
            · exact k
           refine eM 7 255 (by kernel_rfl) rfl (aq (vs:=[_,_,_]) func48 rfl H.EZ rfl (ah.bw (G5 401 (x:=(bZ s).1) (to:=ss.length) hsmall.1 hn4 (fun b hb=>by have:=hO3 b hb;omega) (hnd3.mv nx4.K1) hsmall.2.1 (by have:=hsmall.1;simp only[List.length_append,List.length_singleton];omega)))) ?_;rintro _ g5 ⟨v5,rfl,hn5,nx5⟩;refine⟨fun _=>nx5.ext.mono (fun b _ k e=>hK2 (e▸k)),?_⟩;have hz5:=nx5.ext.size;have nx45:Nx (fun _=>False) h.size g3 v g5 v5:=nx4.trans nx5 (fun _ _ k=>k)
           have ht5:dH jm (fun _=>True) g5 h1.size 3 tv t:=(htg.ax e03).pV nx45.ext (fun b hb=>by
            rintro((k1|k1)|k1)
            · have:=htv b hb;omega
            · exact hdist b hb k1.symm
            · exact k1) (fun _ _ _=>trivial) (fun _ _ _=>trivial)
           obtain⟨css,hc1,hc2,hc3⟩:=id ht5;have hKt:¬dB tv.ownBlock g1.size:=fun k=>by have:=htv _ k.symm;omega
           refine eM 8 511 (by kernel_rfl) rfl (aA.aX (us:=[_]) underlying127 H.rq rfl rfl (by decide) (by simp[Value.oneCell'])) ?_;rintro _ _ ⟨rfl,rfl⟩;refine⟨fun _=>by first|exact Ext.push _ _ _|assumption,?_⟩;refine eM 9 1023 (by kernel_rfl) rfl (aA.bS underlying127 H.rq rfl rfl (hc2) rfl rfl (by first|decide|simp[Value.oneCell']) (by omega) (by decide) (by omega)) ?_;rintro t6 g6 ⟨ho6,hx6,hx6',hv6⟩;refine⟨fun _=>hx6'.mono (fun b _ k e=>hKt (e▸k)),?_⟩;refine cg 10 2047 (by kernel_rfl) rfl ?_;refine br (by kernel_rfl) ?_;refine xu [4,5,6,7,8,9,10,21,22,23,24,34] rfl ?_;refine G.aR ?_;refine G.cz func27 rfl ?_;refine xp rfl (aj.bE rfl rfl ⟨by omega,by omega⟩) ?_;refine aS 1 [4,5,6,7,8,9,10,21,22,23,24,34] rfl ?_;have ht6:=dH.gF hc1 hc3 ho6 hx6 hv6 (y:=(lay (bZ s).1 (ss++[(⟨2,0,[],i⟩:bT)]) ss.length).2) rfl
           have hn6:cF g6 (fun b=>b<h.size\/dB t6.ownBlock b) h.size v5 (lay (bZ s).1 (ss++[⟨2,0,[],i⟩]) ss.length).1 0:=hn5.ext hx6 (fun k=>by have:=htv _ k.symm;omega) (fun b hb k=>by
            rcases nx45.own b hb with k'|k'
            · exact hdist b k.symm k'
            · have:=htv b k.symm;omega) (fun b _ k=>.inr k) (fun b hb k=>k.imp id (fun k=>by
              rcases hv6 b k.symm with k'|k'
              · exact k'.symm
              · omega))
           have hd6:∀b,t6.ownBlock=some b->v5.ownBlock≠some b:=fun b hb k=>by
            rcases hv6 b hb with k'|k'
            · rcases nx45.own b k with k2|k2
              · exact hdist b k' k2
              · have:=htv b k';omega
            · have:=(hn5.own b k).2;omega
           have nx05:Nx (fun _=>False) h.size h1 (.slice none 0 0) g5 v5:=(nxg.trans (Nx.K0 e03) (fun _ _ k=>k)).trans nx45 (fun _ _ k=>k);have nx06:Nx (fun _=>False) h.size h1 (.slice none 0 0) g6 v5:=⟨⟨by have:=hx6.size;omega,fun b hb hn=>by rw[hx6.block b (by omega) (fun k=>by have:=htv b k.symm;omega)];exact nx05.ext.block b hb hn⟩,nx05.own⟩
           have hlenl:=(gw (bZ s).1 (ss++[⟨2,0,[],i⟩]) ss.length).2;rw[List.length_append,List.length_singleton] at hlenl;have htt:=xM hs;exact ih (i+1,t6) _ _ ⟨rfl,rfl,rfl,rfl,rfl,rfl,trivial⟩ ⟨by show i+1<=kn;omega,v5,_,_,hn6,ht6,nx06,hd6,⟨by have:=hsmall.1;show _<=402*(i+1);omega,by have:=hsmall.2.2;show xj (rules.take (i+1))<=200*(i+1);omega,by simp[htl]⟩,hcon⟩ (by show kn-(i+1)<kn-i;omega)
     · obtain rfl:i=kn:=by omega
       have hall:rules.take i=rules:=List.take_of_length_le (by omega);have hnil:rules.drop i=[]:=List.drop_of_length_le (by omega);rw[hnil,lz] at hcon;rw[<-hcon] at hmk;rw[hall] at htot;simp only[hall];refine bA rfl rfl ?_;refine av rfl ?_;refine aZ func27 2 [4,5,6,21,22,23,24,52] rfl ?_;refine aO rfl rfl (fun hbig2=>?_) (fun hbig2=>?_)
       · refine aZ func27 2 [2,3,4,5,6,21,22,23,24,52] rfl ?_;refine G.ret func27 rfl rfl ?_;refine⟨_,rfl,?_,e0g⟩;have:fH rules= .inl 70:=by rw[hmk];exact if_pos (by omega)
         rw[yH,this];rfl
       · have hmk2:fH rules= .inr (ss++[⟨0,0,t,0⟩],ss.length):=by rw[hmk];exact if_neg (by omega)
         have hrd:bX jm g0 (fun b=>fq h.size v b\/b<h.size) tv t:=htg.DQ (fun b hb=>by
          rintro((k1|k1)|k1)
          · have:=htv b hb;omega
          · exact hdist b hb k1.symm
          · have:=htv b hb;omega) (fun _ _ _=>trivial)
         obtain⟨oa9,n9,c9,rfl,_⟩:=id hrd;refine aC rfl ?_;refine bq func27 3 rfl ?_;refine xp rfl (aN (H.Aj _ _ _) rfl) ?_;refine xo rfl (aq (vs:=[_,_]) func49 rfl H.CK rfl (ah.bw (n7 (O:=fun b=>b<h.size) (to:=t) (hng.ax (Ext.refl _ _) (fun b _ k=>.inl k)) (fun b hb=>by omega) hrd (by omega)))) ?_;rintro _ g4 ⟨v4,rfl,hn4,nx4⟩;refine cD 1 rfl rfl (af (off:=1) underlying126 rfl rfl H.cA rfl) ?_;refine RW.cu rfl rfl rfl (aA.bB H.cA rfl rfl hn4.blk (by first|decide|exact of_decide_eq_true rfl|(simp;done)|(simp;omega)) rfl) ?_;rintro _ g5 ⟨rfl,hk5,hx5,hz5⟩;refine xd [4,5,6,21,22,23,24,52] rfl ?_;refine aZ func27 3 [2,3,4,5,6,21,22,23,24,52] rfl ?_;refine G.ret func27 rfl rfl ?_;have hn5:cF g5 (fun b=>b<h.size) h.size v4 (ss++[⟨0,0,t,0⟩]) ss.length:=⟨hk5,hn4.row.pV hx5 (fun b hb k=>by have:=(hn4.own b hb).1;omega) (fun b _ k=>.inl k) (fun b _ k=>k)⟩
         have e4:aD h g5:=⟨by have:=hx5.size;have:=nx4.ext.size;omega,fun b hb _=>by
          rw[hx5.block b (by have:=nx4.ext.size;omega) (by omega),nx4.ext.block b (by omega) ?_]
          · exact e0g.block b hb (fun k=>k)
          · rintro((k|k)|k)
            · omega
            · rcases nxg.own b k.symm with k2|k2
              · cases k2
              · omega
            · exact k⟩
         refine⟨_,rfl,?_,e4⟩;rw[yH,hmk2];exact⟨h.size,v4,rfl,Nat.le_refl _,hn5⟩
theorem pT {ss:List bT}(hn:cF h O nb v ss st):ah Tryz.prog 97 #[.pointer (some ⟨nb,0,none⟩)] h (dh fun r h'=>r= .bool (decide (ss.length=0))/\h'=h):=by
 obtain⟨css,hc1,hc2,hc3⟩:=id hn.row;obtain⟨oa,c,rfl,_⟩:=hc2.open;refine ah.of func97 rfl rfl ?_;refine aZ func97 1 [0,2] rfl ?_;refine av rfl ?_;refine G.bF [(2,.bool (decide (ss.length=0)))] [(0,_)] ⟨rfl,trivial⟩ func97 rfl ?_ ?_
 · refine cD 1 rfl rfl (aj.sr underlying84 rfl rfl) ?_;refine bh 1 rfl ?_;refine RW.dw (d:=5) (b':=false) rfl (rfl) ?_;refine cD 2 rfl rfl (af (off:=0) underlying126 rfl rfl H.gZ rfl) ?_;refine xp rfl (ai H.jh rfl (hn.blk.cell (i:=0) rfl)) ?_;refine xp rfl (aj.aJ underlying124 rfl) ?_;refine bh 3 rfl ?_;refine aE rfl ?_;exact⟨rfl,aF rfl (by simp only[decide_eq_decide];omega),rfl,trivial⟩
 · refine G.ret func97 rfl rfl ?_;exact⟨_,rfl,rfl,rfl⟩
theorem Gz {base:Nat}{t:TypeId}{m:Nat}(k:cZ eS h base t v todo) (hm:todo.length=m+1) :
 ∃g c x,v= .slice (some ⟨g,0,none⟩) (m+1) c/\m+1<=c/\g<h.size/\base<=g/\cellAt h ⟨g,0+m*1,none⟩=some (.int .i64 (x:Nat))/\todo=todo.dropLast++[x] /\
  cZ eS h base t (.slice (dy (some ⟨g,0,none⟩) 0 1 c) m c) todo.dropLast/\(Value.slice (dy (some ⟨g,0,none⟩) 0 1 c) m c).ownBlock=some g:=by
 have k':aQ h base t 1 v todo.length (todo.map eS):=k;obtain⟨oa,c,rfl,ho⟩:=k'.open;have hne:todo≠[]:=by intro e;rw[e] at hm;cases hm
 have hlast:todo=todo.dropLast++[todo.getLast hne]:=(List.dropLast_concat_getLast hne).symm
 have hx:(todo.map eS)[m]? =some (eS (todo.getLast hne)):=by
  rw[List.getElem?_map,List.getLast_eq_getElem,List.getElem?_eq_getElem (by omega)];simp[hm]
 obtain⟨g,rfl,hb,hlt,hc,_⟩:=ho.at hx;have ht:=ho.take (m:=m) (by omega) 1
 have hd:(todo.map eS).take (m*1)=todo.dropLast.map eS:=by
  rw[Nat.mul_one,List.dropLast_eq_take,hm,Nat.add_sub_cancel,List.map_take]
 rw[hd] at ht;refine⟨g,c,todo.getLast hne,by rw[hm],by have:=ho.le;omega,hlt,hb,hc,hlast,?_,?_⟩
 · have hl:todo.dropLast.length=m:=by simp[hm]
   unfold cZ;rw[hl];exact ht
 · unfold dy;split<;>simp[Value.ownBlock,Addr.add]
theorem cF.get {ss:List bT}{x:bT}(k:cF h O nb v ss st) (hx:ss[i]? =some x) :
 ∃g c w,v= .slice (some ⟨g,0,none⟩) ss.length c/\g<h.size/\Lw.rowAt h g (0+i*7) (EH x.kind x.set w x.rule)/\bX jm h (fun b=>dB v.ownBlock b\/b=nb\/O b) w x.to:=by
 obtain⟨g,c,cs,rfl,_,hg,hrow,_,⟨w,rfl,hw⟩,_⟩:=k.row.put hx;exact⟨g,c,w,rfl,hg,hrow,hw⟩
theorem B8 {oa:Option Addr}{c:Nat}{xs:List Nat}(k:bX jm h O (.slice oa n c) xs):xs.length=n/\(n=0\/∃b o,oa=some ⟨b,o,none⟩/\Lw.rowAt h b o (xs.map eS))/\n<=maxLen:=by
 obtain⟨oa',n',c',hv,hl,hc,hm,hg⟩:=k;cases hv;have hs:Sl jm h O oa n c xs:=⟨hl,hc,hm,hg⟩
 exact⟨hl,Sl.row hs,by omega⟩
theorem Da {ss:List bT}(ht:todo.getLast? =some i) (hs:seen[i]? =some true):jz ss (n+1) todo seen=jz ss n todo.dropLast seen:=by
 rw[jz,ht];simp[hs]
theorem Fq {ss:List bT}{x:bT}(ht:todo.getLast? =some i) (hs:seen[i]? =some false) (hx:ss[i]? =some x):jz ss (n+1) todo seen=jz ss n (if x.kind=0 then todo.dropLast++x.to else todo.dropLast) (seen.set i true):=by
 rw[jz,ht];simp[hs,hx]
theorem Fp {ss:List bT}:jz ss n [] seen=seen:=by cases n<;>simp[jz]
def FG (ss:List bT) (seen:List Bool) (i:Nat):Bool:=seen[i]? ==some true && (ss[i]?.map (·.kind)) !=some 0
theorem rB {tv:Value}{ss:List bT}{base:Nat}{tb:Option Nat}(hn:cF h O nb v ss st) (hgood:Good ss) (hss:ss.length<=1000000) (htd:cZ eS h base 3 tv todo) (htb:tv.ownBlock=tb)
 (hbase:base<=h.size) (hOt:∀b,tb=some b->O b/\b≠nb/\v.ownBlock≠some b) (hlt:∀j∈todo,j<ss.length) (hpot:todo.length+sX ss (List.replicate ss.length false)<=1000000) :
 ah Tryz.prog 98 #[.pointer (some ⟨nb,0,none⟩),tv] h (dh fun r h'=>cZ eS h' h.size 3 r (closed ss todo)/\Ext (dB tb) h h'):=by
 obtain⟨css,hc1,hc2,hc3⟩:=id hn.row;obtain⟨va,vc,rfl,_⟩:=hc2.open
 have htl:tb=none\/∃b,tb=some b/\b<h.size:=by
  cases tb with
  |none=>exact .inl rfl
  |some b=>exact .inr ⟨b,rfl,(aQ.lt htd htb).2⟩
 obtain⟨oa,c,rfl,_⟩:=(show aQ h base 3 1 tv todo.length (todo.map eS) from htd).open;generalize htgt:jz ss (todo.length+sX ss (List.replicate ss.length false)) todo (List.replicate ss.length false)=tgt;refine ah.of func98 rfl rfl ?_;refine aZ func98 1 [0,1,4] rfl ?_;refine av rfl ?_;refine bq func98 1 rfl ?_;refine xp rfl (aj.aJ underlying127 rfl) ?_;refine aS 1 [0,1,4,12] rfl ?_;refine aO rfl rfl (fun hz=>?_) (fun hz=>?_)
 · refine aZ func98 1 [0,1,4,12] rfl ?_;refine G.ret func98 rfl rfl ?_;have:closed ss todo=[]:=by unfold closed;rw[if_pos (by omega)]
   rw[this];exact⟨_,rfl,cZ.nil _ _ _ _,Ext.refl _ _⟩
 · refine aC rfl ?_;refine bq func98 2 rfl ?_;refine xp rfl (af (off:=0) underlying126 rfl rfl H.gZ rfl) ?_;refine xp rfl (ai H.jh rfl (hn.blk.cell (i:=0) rfl)) ?_;refine xp rfl (aj.aJ underlying124 rfl) ?_;refine xo rfl (aA.qT underlying157 H.NS H.NM rfl rfl rfl (by omega) (by decide)) ?_;rintro _ h1 ⟨rfl,hk1,e1⟩;refine aS 1 [0,1,4,5,12] rfl ?_;refine av rfl ?_;refine G.block rfl rfl ?_;refine bG (σ:=Nat×Value×List Nat×List Bool) (fun q=>[(0,.pointer (some ⟨nb,0,none⟩)),(1,q.2.1),(5,.slice (some ⟨h.size,0,none⟩) ss.length ss.length)]) (fun q h'=>Ext (dB tb) h h'/\cZ eS h' base 3 q.2.1 q.2.2.1/\(∀b,q.2.1.ownBlock=some b->tb=some b\/h1.size<=b)/\aQ h' h.size 4 1 (.slice (some ⟨h.size,0,none⟩) ss.length ss.length) ss.length (q.2.2.2.map .bool)/\q.2.2.2.length=ss.length/\(∀j∈q.2.2.1,j<ss.length)/\(q.2.2.1.length+sX ss q.2.2.2<=q.1/\q.1<=1000000/\h1.size<=h'.size)/\jz ss q.1 q.2.2.1 q.2.2.2=tgt) (fun q=>q.1) ((todo.length+sX ss (List.replicate ss.length false),.slice oa todo.length c,todo,List.replicate ss.length false)) rfl ⟨rfl,rfl,rfl,trivial⟩ ⟨e1.mono fun _ _ k=>k.elim,aQ.pq htd e1,fun b hb=>.inl (htb.symm.trans hb),by simpa using hk1,by simp,hlt,⟨Nat.le_refl _,hpot,Nat.le_refl _⟩,htgt⟩ ?_;rintro⟨n,dv,td,seen⟩ g ⟨eg,hd,hdo,hs,hsl,hlt',⟨hp,hn1,hgz⟩,hcon⟩ ih
   try dsimp only
   dsimp only at hd hdo hs hsl hlt' hp hn1 hcon;have hz1:h.size<h1.size:=by have:=(aQ.lt hk1 rfl).2;exact this
   have hsow:=hs.open;obtain⟨sa,sc,hsv,hsow⟩:=hsow;cases hsv
   rcases Nat.eq_zero_or_pos td.length with hpos|hpos
   · obtain rfl:td=[]:=List.eq_nil_of_length_eq_zero hpos;obtain⟨oad,cd,rfl,_⟩:=(show aQ g base 3 1 dv ([]:List Nat).length (([]:List Nat).map eS) from hd).open;rw[Fp] at hcon;refine av rfl ?_;refine bq func98 1 rfl ?_;refine xp rfl (aj.aJ underlying127 rfl) ?_;refine aS 1 [0,1,5,21] rfl ?_;refine aI rfl rfl (fun hc=>absurd hc (by simp)) (fun _=>?_);have hnc:∀{h':az},Ext (dB tb) h h'->cF h' O nb (.slice va ss.length vc) ss st:=fun e=>hn.ext e (fun k=>(hOt nb k.symm).2.1 rfl) (fun b hb k=>(hOt b k.symm).2.2 hb) (fun b _ k=>(hOt b k.symm).1) (fun _ _ k=>k)
     have hcl:closed ss todo=(List.range ss.length).filter (FG ss seen):=by
      unfold closed;rw[if_neg (by omega),htgt,<-hcon];rfl
     refine bA rfl rfl ?_;refine aZ func98 1 [0,1,5,7,21] rfl ?_;refine av rfl ?_;refine bq func98 1 rfl ?_;refine xp rfl (aj.aJ underlying157 rfl) ?_;refine aS 1 [0,1,5,7,21,59,60,61] rfl ?_;refine G.block rfl rfl ?_;refine bG (σ:=Nat×Value) (fun q=>[(0,.pointer (some ⟨nb,0,none⟩)),(7,q.2),(59,.slice (some ⟨h.size,0,none⟩) ss.length ss.length),(60,.int .i64 (ss.length:Nat)),(61,.int .i64 (q.1:Nat))]) (fun q h'=>q.1<=ss.length/\aD g h'/\cZ eS h' g.size 3 q.2 ((List.range q.1).filter (FG ss seen))) (fun q=>ss.length-q.1) ((0,.slice none 0 0)) rfl ⟨rfl,rfl,rfl,rfl,rfl,trivial⟩ ⟨Nat.zero_le _,Ext.refl _ _,cZ.nil _ _ _ _⟩ ?_;rintro⟨i,ov⟩ g2 ⟨hi,e2,ho2⟩ ih2
     try dsimp only
     dsimp only at hi ho2;have eg2:Ext (dB tb) h g2:=eg.trans (e2.mono fun _ _ k=>k.elim);have hn2:=hnc eg2;have hz2:=e2.size;refine aZ func98 1 [0,7,59,60,61,62] rfl ?_;refine av rfl ?_;refine aO rfl rfl (fun hlti=>?_) (fun hlti=>?_)
     · have hil:i<ss.length:=by omega
       obtain⟨bx,hbx⟩:∃bx,seen[i]? =some bx:=⟨_,List.getElem?_eq_getElem (by omega)⟩
       obtain⟨y,hy⟩:∃y,ss[i]? =some y:=⟨_,List.getElem?_eq_getElem hil⟩
       obtain⟨sa2,sc2,hsv2,hsow2⟩:=(aQ.pq hs e2).open;cases hsv2;obtain⟨g',hg',_,hsg,hscell,hsnf⟩:=hsow2.at (i:=i) (x:=.bool bx) (by rw[List.getElem?_map,hbx];rfl);cases hg';obtain⟨gs,cs,ws,hvs,hgs,hrow,hws⟩:=hn2.get hy;cases hvs;have hlen2:((List.range i).filter (FG ss seen)).length<=i:=by have:=List.length_filter_le (FG ss seen) (List.range i);simpa using this
       have hnext:(List.range (i+1)).filter (FG ss seen)=(List.range i).filter (FG ss seen)++(if FG ss seen i then [i] else []):=by
        rw[List.range_succ,List.filter_append];cases hpr:FG ss seen i<;>simp[hpr]
       refine aC rfl ?_;refine av rfl ?_;refine G.block rfl rfl ?_;refine bq func98 1 rfl ?_;refine xp rfl (aj.ay underlying157 H.mX rfl rfl i rfl rfl (by omega)) ?_;refine xp rfl (ai H.wE rfl hscell) ?_;refine aS 2 [0,7,8,9,59,60,61,62] rfl ?_;refine av rfl ?_;refine G.bF [(77,.bool (FG ss seen i))] [(0,_),(7,_),(8,_),(9,_),(59,_),(60,_),(61,_),(62,_)] ⟨rfl,rfl,rfl,rfl,rfl,rfl,rfl,rfl,trivial⟩ func98 rfl ?_ ?_
       · refine bh 2 rfl ?_;refine aP (d:=67) rfl (fun hg=>?_) (fun hg=>?_)
         · refine cD 2 rfl rfl (af (off:=0) underlying126 rfl rfl H.gZ rfl) ?_;refine xp rfl (ai H.jh rfl (hn2.blk.cell (i:=0) rfl)) ?_;refine cD 1 rfl rfl (aj.ay underlying124 H.mO rfl rfl i rfl rfl hil) ?_;refine xp rfl (af (off:=0) underlying138 rfl rfl H.cA rfl) ?_;refine xp rfl (ai H.de rfl (hrow 0 _ rfl)) ?_;refine bh 2 rfl ?_;refine aE rfl ?_;exact⟨rfl,aF rfl (by subst hg;simp[FG,hbx,hy];by_cases hk0:y.kind=0<;>simp[hk0]),rfl,rfl,rfl,rfl,rfl,rfl,rfl,rfl,trivial⟩
         · refine bh 10 rfl ?_;refine aE rfl ?_;exact⟨rfl,aF rfl (by subst hg;simp[FG,hbx]),rfl,rfl,rfl,rfl,rfl,rfl,rfl,rfl,trivial⟩
       · refine aI rfl rfl (fun hb=>?_) (fun hb=>?_)
         · rw[if_pos hb] at hnext;refine G.cz func98 rfl ?_;refine bh 2 rfl ?_;refine xo rfl (aA.aX (us:=[_]) underlying127 H.rq rfl rfl (by decide) (by simp[Value.oneCell'])) ?_;rintro _ _ ⟨rfl,rfl⟩;refine xo rfl (aA.bS underlying127 H.rq rfl rfl (ho2) rfl rfl (by first|decide|simp[Value.oneCell']) (by omega) (by decide) (by omega)) ?_;rintro ov3 g3 ⟨ho3,hx3,-,hv3⟩;refine aS 1 [0,7,8,9,59,60,61,62,77] rfl ?_;refine G.aR ?_;refine G.cz func98 rfl ?_;refine xp rfl (aj.bE rfl rfl ⟨by omega,by omega⟩) ?_;refine aS 1 [0,7,8,9,59,60,61,62,77] rfl ?_;have ho3':cZ eS g3 g.size 3 ov3 ((List.range (i+1)).filter (FG ss seen)):=by rw[hnext];exact cZ.of (ys:=[i]) ho3 rfl rfl rfl
           have e3:aD g g3:=cZ.grown e2 ho2 (Nat.le_refl _) hx3;exact ih2 (i+1,ov3) _ _ ⟨rfl,rfl,rfl,rfl,rfl,trivial⟩ ⟨by show i+1<=_;omega,e3,ho3'⟩ (by show ss.length-(i+1)<ss.length-i;omega)
         · rw[if_neg (by rw[hb];decide)] at hnext;rw[List.append_nil] at hnext;rw[<-hnext] at ho2;refine aC rfl ?_;refine G.aR ?_;refine G.cz func98 rfl ?_;refine xp rfl (aj.bE rfl rfl ⟨by omega,by omega⟩) ?_;refine aS 1 [0,7,8,9,59,60,61,62,77] rfl ?_;exact ih2 (i+1,ov) _ _ ⟨rfl,rfl,rfl,rfl,rfl,trivial⟩ ⟨by show i+1<=_;omega,e2,ho2⟩ (by show ss.length-(i+1)<ss.length-i;omega)
     · obtain rfl:i=ss.length:=by omega
       refine bA rfl rfl ?_;refine aZ func98 2 [0,4,7,59,60,61,62] rfl ?_;refine G.ret func98 rfl rfl ?_;rw[hcl];exact⟨_,rfl,aQ.lower ho2 (by omega),eg2⟩
   · obtain⟨m,hm⟩:∃m,td.length=m+1:=⟨td.length-1,by omega⟩
     obtain⟨gd,cd,x,rfl,hcd,hgd,hbd,hcell,hlast,hcut,hcb⟩:=Gz hd hm;have hgl:td.getLast? =some x:=by rw[hlast];simp
     have hxl:x<ss.length:=hlt' x (by rw[hlast];simp);have hltd:∀j∈td.dropLast,j<ss.length:=fun j hj=>hlt' j (List.dropLast_subset _ hj)
     have hdl:td.dropLast.length=m:=by simp[hm]
     obtain⟨n,rfl⟩:∃n',n=n'+1:=⟨n-1,by omega⟩
     obtain⟨bx,hbx⟩:∃bx,seen[x]? =some bx:=⟨_,List.getElem?_eq_getElem (by omega)⟩
     obtain⟨y,hy⟩:∃y,ss[x]? =some y:=⟨_,List.getElem?_eq_getElem hxl⟩
     obtain⟨g',hg',_,hsg,hscell,hsnf⟩:=hsow.at (i:=x) (x:=.bool bx) (by rw[List.getElem?_map,hbx];rfl);cases hg';refine av rfl ?_;refine bq func98 1 rfl ?_;refine xp rfl (aj.aJ underlying127 rfl) ?_;refine aS 1 [0,1,5,21] rfl ?_;refine aI rfl rfl (fun _=>?_) (fun hc=>absurd hc (by simp only[decide_eq_false_iff_not];omega));refine aC rfl ?_;refine G.block rfl rfl ?_;refine bq func98 2 rfl ?_;refine xp rfl (aj.aJ underlying127 rfl) ?_;refine xp rfl (aj.jt rfl rfl ⟨by omega,by omega⟩) ?_;refine xp rfl (aj.ay underlying127 H.cA rfl rfl m (by omega) rfl (by omega)) ?_;refine xp rfl (ai H.de rfl hcell) ?_;refine aS 1 [0,1,5,6,21] rfl ?_;refine bq func98 2 rfl ?_;refine xp rfl (aj.aJ underlying127 rfl) ?_;refine xp rfl (aj.jt rfl rfl ⟨by omega,by omega⟩) ?_;refine xp rfl (aj.lW underlying127 H.cA rfl rfl m (by omega) (by omega)) ?_;refine aS 1 [0,1,5,6,21] rfl ?_;refine av rfl ?_;refine bq func98 2 rfl ?_;refine xp rfl (aj.ay underlying157 H.mX rfl rfl x rfl rfl (by omega)) ?_;refine xp rfl (ai H.wE rfl hscell) ?_;refine xd [0,1,5,6,21,36] rfl ?_;refine aI rfl rfl (fun hb=>?_) (fun hb=>?_)
     · subst hb;rw[Da hgl hbx] at hcon;refine bA rfl rfl ?_;exact ih (n,_,td.dropLast,seen) _ _ ⟨rfl,rfl,rfl,trivial⟩ ⟨eg,hcut,fun b hb=>hdo b (by rw[<-hb];exact hcb▸rfl),hs,hsl,hltd,⟨by show td.dropLast.length+sX ss seen<=n;omega,by show n<=_;omega,hgz⟩,hcon⟩ (by show n<n+1;omega)
     · subst hb;rw[Fq hgl hbx hy] at hcon;have hpt:=zi ss seen x y hy hbx
       have hgne:¬gd=h.size:=fun k=>by
        rcases hdo gd rfl with k2|k2
        · rcases htl with k3|⟨b3,k3,k4⟩
          · rw[k3] at k2;cases k2
          · rw[k3] at k2;cases k2;omega
        · omega
       refine aC rfl ?_;refine bq func98 2 rfl ?_;refine xp rfl (aj.ay underlying157 H.mX rfl rfl x rfl rfl (by omega)) ?_;refine RW.cu rfl rfl rfl (cL H.mX rfl rfl rfl hscell hsnf) ?_;rintro _ g2 ⟨rfl,hg2⟩;have x2:Ext (fun b=>b=h.size) g g2:=by rw[hg2];exact Ext.eJ _ _ _ rfl
       have hz2:=x2.size;have eg2:Ext (dB tb) h g2:=⟨by omega,fun b hb hn=>by rw[x2.block b (by omega) (by omega)];exact eg.block b hb hn⟩
       have hs2:aQ g2 h.size 4 1 (.slice (some ⟨h.size,0,none⟩) ss.length ss.length) ss.length ((seen.set x true).map .bool):=by
        have k:=(hsow.set (i:=x) rfl hxl (.bool true)).own;rw[<-hg2] at k;rw[List.map_set];exact k
       have hcut2:aQ g2 base 3 1 _ td.dropLast.length (td.dropLast.map eS):=aQ.ext x2 hcut (fun b hb k=>hgne (by have:=hcb.symm.trans hb;cases this;exact k));have hn2:cF g2 O nb _ ss st:=hn.ext eg2 (fun k=>(hOt nb k.symm).2.1 rfl) (fun b hb k=>(hOt b k.symm).2.2 hb) (fun b _ k=>(hOt b k.symm).1) (fun _ _ k=>k);obtain⟨gs,cs,ws,hvs,hgs,hrow,hws⟩:=hn2.get hy;cases hvs;have hsl2:(seen.set x true).length=ss.length:=by simpa using hsl
       refine xd [0,1,5,6,21,36] rfl ?_;refine bq func98 2 rfl ?_;refine xp rfl (af (off:=0) underlying126 rfl rfl H.gZ rfl) ?_;refine xp rfl (ai H.jh rfl (hn2.blk.cell (i:=0) rfl)) ?_;refine cD 1 rfl rfl (aj.ay underlying124 H.mO rfl rfl x rfl rfl hxl) ?_;refine xp rfl (af (off:=0) underlying138 rfl rfl H.cA rfl) ?_;refine xp rfl (ai H.de rfl (hrow 0 _ rfl)) ?_;refine aS 1 [0,1,5,6,21,36,48] rfl ?_;refine aO rfl rfl (fun hk=>?_) (fun hk=>?_)
       · rw[if_pos (by omega)] at hcon;obtain⟨wa,wn,wc,rfl,_⟩:=id hws;obtain⟨hwl,hwn,hwm⟩:=B8 hws;rw[hdl] at hcut2;refine G.cz func98 rfl ?_;refine cD 3 rfl rfl (af (off:=0) underlying126 rfl rfl H.gZ rfl) ?_;refine xp rfl (ai H.jh rfl (hn2.blk.cell (i:=0) rfl)) ?_;refine cD 1 rfl rfl (aj.ay underlying124 H.mO rfl rfl x rfl rfl hxl) ?_;refine xp rfl (af (off:=5) underlying138 rfl rfl H.iB rfl) ?_;refine xp rfl (ai H.pG rfl (hrow 5 _ rfl)) ?_;refine xo rfl (aA.append underlying127 H.rq rfl rfl hcut2 (by simp[hwl]) hwn (by intro u hu;simp at hu;obtain⟨j,_,rfl⟩:=hu;rfl) (by simp only[maxLen];omega) (by omega) (by omega)) ?_;rintro dv3 g3 ⟨hd3,ex3,-,ho3⟩;refine aS 1 [0,1,5,6,21,36,48] rfl ?_;refine G.aR ?_;have hz3:=ex3.size;rw[hcb] at ex3 ho3
         have hd3':cZ eS g3 base 3 dv3 (td.dropLast++y.to):=by
          unfold cZ;rw[List.length_append,hdl,hwl,List.map_append];exact hd3
         have hdo3:∀b,dv3.ownBlock=some b->tb=some b\/h1.size<=b:=fun b hb=>by
          rcases ho3 b hb with k|k
          · exact hdo b k
          · exact .inr (by omega)
         have eg3:Ext (dB tb) h g3:=⟨by omega,fun b hb hn=>by
          rw[ex3.block b (by omega) ?_]
          · exact eg2.block b hb hn
          · intro k;cases k
            rcases hdo gd rfl with k2|k2
            · exact hn k2.symm
            · omega⟩
         have hgood':∀j∈td.dropLast++y.to,j<ss.length:=fun j hj=>by
          rcases List.mem_append.1 hj with k|k
          · exact hltd j k
          · exact hgood y (List.mem_of_getElem? hy) j k
         exact ih (n,dv3,td.dropLast++y.to,seen.set x true) _ _ ⟨rfl,rfl,rfl,trivial⟩ ⟨eg3,hd3',hdo3,aQ.ext ex3 hs2 (fun b hb k=>by cases k;cases hb;exact hgne rfl),hsl2,hgood',⟨by show (td.dropLast++y.to).length+sX ss (seen.set x true)<=n;rw[List.length_append];omega,by show n<=_;omega,by show h1.size<=g3.size;omega⟩,hcon⟩ (by show n<n+1;omega)
       · rw[if_neg (by omega)] at hcon;refine aC rfl ?_;refine G.aR ?_;exact ih (n,_,td.dropLast,seen.set x true) _ _ ⟨rfl,rfl,rfl,trivial⟩ ⟨eg2,hcut2,fun b hb=>hdo b (by rw[<-hb];exact hcb▸rfl),hs2,hsl2,hltd,⟨by show td.dropLast.length+sX ss (seen.set x true)<=n;omega,by show n<=_;omega,by show h1.size<=g2.size;omega⟩,hcon⟩ (by show n<n+1;omega)
theorem AR {ss:List bT}(hn:cF h O nb v ss st) (hgood:Good ss) (hss:ss.length<=1000000) (hst:ss.length=0\/st<ss.length) (hpot:1+sX ss (List.replicate ss.length false)<=1000000) :
 ah Tryz.prog 51 #[.pointer (some ⟨nb,0,none⟩)] h (dh fun r h'=>cZ eS h' h.size 3 r (cG ss st)/\aD h h'):=by
 have hown:=hn.own;have hnlt:=hn.blk.lt;refine ah.of func51 rfl rfl ?_;refine aZ func51 1 [0,2] rfl ?_;refine av rfl ?_;refine bq func51 1 rfl ?_;refine xo rfl (aq (vs:=[_]) func97 rfl H.Kq rfl (ah.bw (pT hn))) ?_;rintro _ h0 ⟨rfl,hh0⟩;refine xd [0,2,4] rfl ?_;subst hh0;refine aO rfl rfl (fun hz=>?_) (fun hz=>?_)
 · refine aZ func51 1 [0,2,4] rfl ?_;refine G.ret func51 rfl rfl ?_;rw[cG,if_pos hz];exact⟨_,rfl,cZ.nil _ _ _ _,Ext.refl _ _⟩
 · have hn1:cF (h0.push (.cells #[.int .i64 (st:Nat)] 3)) (fun b=>O b\/b=h0.size) nb v ss st:=hn.ax (Ext.push _ _ _) (fun b hb k=>k.elim id (fun k=>by omega));have ho1:cZ eS (h0.push (.cells #[.int .i64 (st:Nat)] 3)) h0.size 3 (.slice (some ⟨h0.size,0,none⟩) 1 1) [st]:=lN eS h0 3 [st] 1 rfl (by simp[maxLen]) h0.size (Nat.le_refl _) rfl;refine aC rfl ?_;refine bq func51 3 rfl ?_;refine xp rfl (af (off:=1) underlying126 rfl rfl H.cA rfl) ?_;refine xp rfl (ai H.de rfl (hn.blk.cell (i:=1) rfl)) ?_;refine xo rfl (aA.aX (us:=[_]) underlying127 H.rq rfl rfl (by decide) (by simp[Value.oneCell'])) ?_;rintro _ _ ⟨rfl,rfl⟩;refine xo rfl (aq (vs:=[_,_]) func98 rfl H.Lr rfl (ah.bw (rB (tb:=some h0.size) hn1 hgood hss ho1 rfl (by simp) (fun b hb=>by cases hb;exact⟨.inr rfl,by omega,fun k=>by have:=(hown _ k).2;omega⟩) (fun j hj=>by simp at hj;omega) hpot))) ?_;rintro _ h2 ⟨ho2,hx2⟩;refine aS 1 [0,2,4] rfl ?_;refine G.ret func51 rfl rfl ?_;rw[cG,if_neg hz];have hps:(h0.push (.cells #[.int .i64 (st:Nat)] 3)).size=h0.size+1:=by simp
   refine⟨_,rfl,aQ.lower ho2 (by omega),⟨by have:=hx2.size;omega,fun b hb _=>?_⟩⟩;rw[hx2.block b (by omega) (fun k=>by cases k;omega)];exact(Ext.push (fun _=>False) h0 _).block b hb (fun k=>k)
theorem xF {nv:Value}{ss:List bT}{now:List Nat}(hn:cF h O nb v ss st) (_hss:ss.length<=1000000) (hnow:bX jm h (fun _=>False) nv now) (hlt:∀j∈now,j<ss.length) (hnn:now.length<=1000000) :
 ah Tryz.prog 54 #[.pointer (some ⟨nb,0,none⟩),nv] h (dh fun r h'=>r= .int .i64 (bg ss now)/\h'=h):=by
 obtain⟨css,hc1,hc2,hc3⟩:=id hn.row;obtain⟨va,vc,rfl,_⟩:=hc2.open;obtain⟨na,nn,nc,rfl,hnl,hnc,hnm,hget⟩:=id hnow;generalize htgt:rG ss now (-1)=tgt;refine ah.of func54 rfl rfl ?_;refine aZ func54 1 [0,1,4] rfl ?_;refine aZ func54 1 [0,1,4,5] rfl ?_;refine av rfl ?_;refine bq func54 1 rfl ?_;refine xo rfl (aq (vs:=[_]) func97 rfl H.Kq rfl (ah.bw (pT hn))) ?_;rintro _ h0 ⟨rfl,hh0⟩;refine xd [0,1,4,5,9] rfl ?_;subst hh0;refine aO rfl rfl (fun hz=>?_) (fun hz=>?_)
 · refine aZ func54 2 [0,1,4,5,9] rfl ?_;refine G.ret func54 rfl rfl ?_;rw[bg,if_pos hz];exact⟨_,rfl,rfl,rfl⟩
 · refine aC rfl ?_;refine av rfl ?_;refine bq func54 1 rfl ?_;refine xp rfl (aj.aJ underlying127 rfl) ?_;refine aS 1 [0,1,4,5,9,11,12,13] rfl ?_;refine G.block rfl rfl ?_;refine bG (σ:=Nat×Int) (fun q=>[(0,.pointer (some ⟨nb,0,none⟩)),(5,.int .i64 q.2),(11,.slice na nn nc),(12,.int .i64 (nn:Nat)),(13,.int .i64 (q.1:Nat))]) (fun q h'=>h'=h0/\q.1<=nn/\rG ss (now.drop q.1) q.2=tgt) (fun q=>nn-q.1) ((0,-1)) rfl ⟨rfl,rfl,rfl,rfl,rfl,trivial⟩ ⟨rfl,Nat.zero_le _,htgt⟩ ?_;rintro⟨i,b⟩ h1 ⟨rfl,hi,hcon⟩ ih
   try dsimp only
   dsimp only at hi hcon;refine aZ func54 1 [0,5,11,12,13,14] rfl ?_;refine av rfl ?_;refine aO rfl rfl (fun hlti=>?_) (fun hlti=>?_)
   · obtain⟨j,hj⟩:∃j,now[i]? =some j:=⟨_,List.getElem?_eq_getElem (by omega)⟩
     obtain⟨bb,o,cs,ha,_,hrow,rfl⟩:=hget i j hj;have hjl:j<ss.length:=hlt j (List.mem_of_getElem? hj);obtain⟨y,hy⟩:∃y,ss[j]? =some y:=⟨_,List.getElem?_eq_getElem hjl⟩
     obtain⟨gs,cs,ws,hvs,hgs,hrw,hws⟩:=hn.get hy;cases hvs
     have hdr:now.drop i=j::now.drop (i+1):=by
      obtain⟨hi',rfl⟩:=List.getElem?_eq_some_iff.1 hj;exact List.drop_eq_getElem_cons hi'
     rw[hdr,rG,hy] at hcon;simp only at hcon;refine aC rfl ?_;refine av rfl ?_;refine G.block rfl rfl ?_;refine xr func54 rfl ?_;refine xp rfl (aj.ay underlying127 H.cA rfl rfl i rfl ha (by omega)) ?_;refine xp rfl (ai H.de rfl (hrow 0 _ rfl)) ?_;refine aS 1 [0,5,7,11,12,13,14] rfl ?_;refine av rfl ?_;refine G.bF [(54,.bool (rF y b))] [(0,_),(5,_),(7,_),(11,_),(12,_),(13,_),(14,_)] ⟨rfl,rfl,rfl,rfl,rfl,rfl,rfl,trivial⟩ func54 rfl ?_ ?_
     · refine bh 3 rfl ?_;refine RW.dw (d:=19) (b':=true) rfl (decide_eq_true (by omega)) ?_;refine cD 3 rfl rfl (af (off:=0) underlying126 rfl rfl H.gZ rfl) ?_;refine xp rfl (ai H.jh rfl (hn.blk.cell (i:=0) rfl)) ?_;refine xp rfl (aj.aJ underlying124 rfl) ?_;refine bh 3 rfl ?_;refine RW.dw (d:=28) (b':=true) rfl (decide_eq_true (by omega)) ?_;refine cD 2 rfl rfl (af (off:=0) underlying126 rfl rfl H.gZ rfl) ?_;refine xp rfl (ai H.jh rfl (hn.blk.cell (i:=0) rfl)) ?_;refine cD 1 rfl rfl (aj.ay underlying124 H.mO rfl rfl j rfl rfl hjl) ?_;refine xp rfl (af (off:=0) underlying138 rfl rfl H.cA rfl) ?_;refine xp rfl (ai H.de rfl (hrw 0 _ rfl)) ?_;refine bh 3 rfl ?_;refine aP (d:=39) rfl (fun hk=>?_) (fun hk=>?_)
       · have hk':=of_decide_eq_true hk;refine bh 3 rfl ?_;refine aP (d:=42) rfl (fun hb=>?_) (fun hb=>?_)
         · have hb':=of_decide_eq_true hb;refine bh 12 rfl ?_;refine aE rfl ?_;exact⟨rfl,aF rfl (by simp[rF];omega),rfl,rfl,rfl,rfl,rfl,rfl,rfl,trivial⟩
         · have hb':=of_decide_eq_false hb;refine cD 2 rfl rfl (af (off:=0) underlying126 rfl rfl H.gZ rfl) ?_;refine xp rfl (ai H.jh rfl (hn.blk.cell (i:=0) rfl)) ?_;refine cD 1 rfl rfl (aj.ay underlying124 H.mO rfl rfl j rfl rfl hjl) ?_;refine xp rfl (af (off:=6) underlying138 rfl rfl H.cA rfl) ?_;refine xp rfl (ai H.de rfl (hrw 6 _ rfl)) ?_;refine bh 4 rfl ?_;refine aE rfl ?_;exact⟨rfl,aF rfl (by simp only[rF,decide_eq_decide];omega),rfl,rfl,rfl,rfl,rfl,rfl,rfl,trivial⟩
       · have hk':=of_decide_eq_false hk;refine bh 15 rfl ?_;refine aE rfl ?_;exact⟨rfl,aF rfl (by simp[rF];omega),rfl,rfl,rfl,rfl,rfl,rfl,rfl,trivial⟩
     · refine aI rfl rfl (fun hb=>?_) (fun hb=>?_)
       · rw[if_pos hb] at hcon;refine G.cz func54 rfl ?_;refine cD 2 rfl rfl (af (off:=0) underlying126 rfl rfl H.gZ rfl) ?_;refine xp rfl (ai H.jh rfl (hn.blk.cell (i:=0) rfl)) ?_;refine cD 1 rfl rfl (aj.ay underlying124 H.mO rfl rfl j rfl rfl hjl) ?_;refine xp rfl (af (off:=6) underlying138 rfl rfl H.cA rfl) ?_;refine xp rfl (ai H.de rfl (hrw 6 _ rfl)) ?_;refine aS 1 [0,5,7,11,12,13,14,54] rfl ?_;refine G.aR ?_;refine G.cz func54 rfl ?_;refine xp rfl (aj.bE rfl rfl ⟨by omega,by omega⟩) ?_;refine aS 1 [0,5,7,11,12,13,14,54] rfl ?_;exact ih (i+1,(y.rule:Int)) _ _ ⟨rfl,rfl,rfl,rfl,rfl,trivial⟩ ⟨rfl,by show i+1<=nn;omega,hcon⟩ (by show nn-(i+1)<nn-i;omega)
       · rw[if_neg (by rw[hb];decide)] at hcon;refine aC rfl ?_;refine G.aR ?_;refine G.cz func54 rfl ?_;refine xp rfl (aj.bE rfl rfl ⟨by omega,by omega⟩) ?_;refine aS 1 [0,5,7,11,12,13,14,54] rfl ?_;exact ih (i+1,b) _ _ ⟨rfl,rfl,rfl,rfl,rfl,trivial⟩ ⟨rfl,by show i+1<=nn;omega,hcon⟩ (by show nn-(i+1)<nn-i;omega)
   · have hnil:now.drop i=[]:=List.drop_of_length_le (by omega);rw[hnil,rG] at hcon;refine bA rfl rfl ?_;refine aZ func54 2 [0,4,5,11,12,13,14] rfl ?_;refine G.ret func54 rfl rfl ?_;rw[bg,if_neg hz,htgt];exact⟨_,rfl,by rw[hcon];rfl,rfl⟩
theorem Cy {nv:Value}{ss:List bT}{now:List Nat}(c:UInt8) (hn:cF h O nb v ss st) (hgood:Good ss) (hss:ss.length<=1000000) (hnow:bX jm h (fun _=>False) nv now) (hlt:∀j∈now,j<ss.length) (hnn:now.length<=1000000)
 (hpot:(stepG ss c now []).length+sX ss (List.replicate ss.length false)<=1000000) :
 ah Tryz.prog 53 #[.pointer (some ⟨nb,0,none⟩),nv,.int .u8 (c.toNat:Nat)] h (dh fun r h'=>cZ eS h' h.size 3 r (cB ss c now)/\aD h h'):=by
 have hown:=hn.own;have hnlt:=hn.blk.lt;obtain⟨css,hc1,hc2,hc3⟩:=id hn.row;obtain⟨va,vc,rfl,_⟩:=hc2.open;obtain⟨na,nn,nc,rfl,hnl,hnc,hnm,hget⟩:=id hnow;generalize htgt:stepG ss c now []=tgt at *;refine ah.of func53 rfl rfl ?_;refine aZ func53 1 [0,1,2,6] rfl ?_;refine av rfl ?_;refine bq func53 1 rfl ?_;refine xo rfl (aq (vs:=[_]) func97 rfl H.Kq rfl (ah.bw (pT hn))) ?_;rintro _ h0 ⟨rfl,hh0⟩;refine xd [0,1,2,6,11] rfl ?_;subst hh0;refine aO rfl rfl (fun hz=>?_) (fun hz=>?_)
 · refine aZ func53 1 [0,1,2,6,11] rfl ?_;refine G.ret func53 rfl rfl ?_;rw[cB,if_pos hz];exact⟨_,rfl,cZ.nil _ _ _ _,Ext.refl _ _⟩
 · refine aC rfl ?_;refine aZ func53 1 [0,1,2,6,7,11] rfl ?_;refine av rfl ?_;refine bq func53 1 rfl ?_;refine xp rfl (aj.aJ underlying127 rfl) ?_;refine aS 1 [0,1,2,6,7,11,12,13,14] rfl ?_;refine G.block rfl rfl ?_;refine bG (σ:=Nat×Value×List Nat) (fun q=>[(0,.pointer (some ⟨nb,0,none⟩)),(2,.int .u8 (c.toNat:Nat)),(7,q.2.1),(12,.slice na nn nc),(13,.int .i64 (nn:Nat)),(14,.int .i64 (q.1:Nat))]) (fun q h'=>aD h0 h'/\q.1<=nn/\cZ eS h' h0.size 3 q.2.1 q.2.2/\(∀j∈q.2.2,j<ss.length)/\stepG ss c (now.drop q.1) q.2.2=tgt) (fun q=>nn-q.1) ((0,.slice none 0 0,[])) rfl ⟨rfl,rfl,rfl,rfl,rfl,rfl,trivial⟩ ⟨Ext.refl _ _,Nat.zero_le _,cZ.nil _ _ _ _,(fun j hj=>by cases hj),htgt⟩ ?_;rintro⟨i,ov,acc⟩ h1 ⟨e1,hi,ho,hal,hcon⟩ ih
   try dsimp only
   dsimp only at hi ho hal hcon;have hz1:=e1.size;have hn1:cF h1 O nb (.slice va ss.length vc) ss st:=hn.ax e1 (fun _ _ k=>k);have hacc:acc.length<=tgt.length:=by rw[<-hcon];exact rS _ _ _ _
   refine aZ func53 1 [0,2,7,12,13,14,15] rfl ?_;refine av rfl ?_;refine aO rfl rfl (fun hlti=>?_) (fun hlti=>?_)
   · obtain⟨j,hj⟩:∃j,now[i]? =some j:=⟨_,List.getElem?_eq_getElem (by omega)⟩
     obtain⟨bb,o,cs,ha,_,hrow,rfl⟩:=hget i j hj;have hjl:j<ss.length:=hlt j (List.mem_of_getElem? hj);obtain⟨y,hy⟩:∃y,ss[j]? =some y:=⟨_,List.getElem?_eq_getElem hjl⟩
     obtain⟨gs,cs,ws,hvs,hgs,hrw,hws⟩:=hn1.get hy;cases hvs
     have hdr:now.drop i=j::now.drop (i+1):=by
      obtain⟨hi',rfl⟩:=List.getElem?_eq_some_iff.1 hj;exact List.drop_eq_getElem_cons hi'
     rw[hdr,stepG,hy] at hcon;simp only at hcon;have hrow1:Lw.rowAt h1 bb (o+i*1) [eS j]:=e1.rowAt (fun k=>k) hrow
     have hset:Lw.rowAt h1 gs (0+j*7+1) (vV y.set):=fun q u hu=>by
      have hq:(EH y.kind y.set ws y.rule)[1+q]? =some u:=by
       match q with
       | 0=>exact hu
       | 1=>exact hu
       | 2=>exact hu
       | 3=>exact hu
       |q+4=>simp[vV] at hu
      have:=hrw (1+q) u hq
      rwa [<-Nat.add_assoc] at this
     refine aC rfl ?_;refine av rfl ?_;refine G.block rfl rfl ?_;refine xr func53 rfl ?_;refine xp rfl (aj.ay underlying127 H.cA rfl rfl i rfl ha (by omega)) ?_;refine xp rfl (ai H.de rfl (hrow1 0 _ rfl)) ?_;refine aS 1 [0,2,7,9,12,13,14,15] rfl ?_;refine av rfl ?_;refine G.uU (fun(_u:Unit) (h':az)=>aD h1 h') (fun(_u:Unit)=>[(51,.bool (jM y c))]) [(0,_),(2,_),(7,_),(9,_),(12,_),(13,_),(14,_),(15,_)] ⟨rfl,rfl,rfl,rfl,rfl,rfl,rfl,rfl,trivial⟩ func53 rfl ?_ ?_
     · refine bh 3 rfl ?_;refine RW.dw (d:=20) (b':=true) rfl (decide_eq_true (by omega)) ?_;refine cD 3 rfl rfl (af (off:=0) underlying126 rfl rfl H.gZ rfl) ?_;refine xp rfl (ai H.jh rfl (hn1.blk.cell (i:=0) rfl)) ?_;refine xp rfl (aj.aJ underlying124 rfl) ?_;refine bh 3 rfl ?_;refine RW.dw (d:=29) (b':=true) rfl (decide_eq_true (by omega)) ?_;refine cD 2 rfl rfl (af (off:=0) underlying126 rfl rfl H.gZ rfl) ?_;refine xp rfl (ai H.jh rfl (hn1.blk.cell (i:=0) rfl)) ?_;refine cD 1 rfl rfl (aj.ay underlying124 H.mO rfl rfl j rfl rfl hjl) ?_;refine xp rfl (af (off:=0) underlying138 rfl rfl H.cA rfl) ?_;refine xp rfl (ai H.de rfl (hrw 0 _ rfl)) ?_;refine bh 3 rfl ?_;refine aP (d:=40) rfl (fun hk=>?_) (fun hk=>?_)
       · have hk':=of_decide_eq_true hk;have hk2:y.kind=1:=by omega
         refine cD 2 rfl rfl (af (off:=0) underlying126 rfl rfl H.gZ rfl) ?_;refine xp rfl (ai H.jh rfl (hn1.blk.cell (i:=0) rfl)) ?_;refine cD 1 rfl rfl (aj.ay underlying124 H.mO rfl rfl j rfl rfl hjl) ?_;refine xp rfl (af (off:=1) underlying138 rfl rfl H.mP rfl) ?_;refine xp rfl (aj.aH H.J2 H.mP rfl hset (by first|rfl|(simp;done)|(simp;omega))) ?_;refine bh 1 rfl ?_;refine xo rfl (aq (vs:=[_,_]) func103 rfl H.L4 rfl (ah.bw (Fi y.set c))) ?_;rintro _ h2 ⟨rfl,e2⟩;refine bh 1 rfl ?_;refine aE rfl ?_;exact⟨(),e2,aF rfl (by simp[jM,hk2]),rfl,rfl,rfl,rfl,rfl,rfl,rfl,rfl,trivial⟩
       · have hk':=of_decide_eq_false hk;have hk2:¬y.kind=1:=by omega
         refine bh 11 rfl ?_;refine aE rfl ?_;exact⟨(),Ext.refl _ _,aF rfl (by simp[jM,hk2]),rfl,rfl,rfl,rfl,rfl,rfl,rfl,rfl,trivial⟩
     · rintro _ h2 e2;have e02:=e1.trans e2;have ho2:cZ eS h2 h0.size 3 ov acc:=cZ.ax ho e2;have hn2:cF h2 O nb _ ss st:=hn.ax e02 (fun _ _ k=>k);have hz2:=e02.size;refine aI rfl rfl (fun hb=>?_) (fun hb=>?_)
       · rw[if_pos hb] at hcon;have hacc2:(acc++y.to).length<=tgt.length:=by rw[<-hcon];exact rS _ _ _ _
         rw[List.length_append] at hacc2;obtain⟨gs,cs,ws,hvs,hgs,hrw2,hws2⟩:=hn2.get hy;cases hvs;obtain⟨wa,wn,wc,rfl,_⟩:=id hws2;obtain⟨hwl,hwn,hwm⟩:=B8 hws2;refine G.cz func53 rfl ?_;refine cD 3 rfl rfl (af (off:=0) underlying126 rfl rfl H.gZ rfl) ?_;refine xp rfl (ai H.jh rfl (hn2.blk.cell (i:=0) rfl)) ?_;refine cD 1 rfl rfl (aj.ay underlying124 H.mO rfl rfl j rfl rfl hjl) ?_;refine xp rfl (af (off:=5) underlying138 rfl rfl H.iB rfl) ?_;refine xp rfl (ai H.pG rfl (hrw2 5 _ rfl)) ?_;refine xo rfl (aA.append underlying127 H.rq rfl rfl ho2 (by simp[hwl]) hwn (by intro u hu;simp at hu;obtain⟨j,_,rfl⟩:=hu;rfl) (by simp only[maxLen];omega) (by omega) (by omega)) ?_;rintro ov3 h3 ⟨ho3,hx3,-,hv3⟩;refine aS 1 [0,2,7,9,12,13,14,15,51] rfl ?_;refine G.aR ?_;refine G.cz func53 rfl ?_;refine xp rfl (aj.bE rfl rfl ⟨by omega,by omega⟩) ?_;refine aS 1 [0,2,7,9,12,13,14,15,51] rfl ?_
         have ho3':cZ eS h3 h0.size 3 ov3 (acc++y.to):=by
          unfold cZ;rw[List.length_append,hwl,List.map_append];exact ho3
         have e3:aD h0 h3:=cZ.grown e02 ho2 (Nat.le_refl _) hx3
         have hal3:∀j∈acc++y.to,j<ss.length:=fun j hj=>by
          rcases List.mem_append.1 hj with k|k
          · exact hal j k
          · exact hgood y (List.mem_of_getElem? hy) j k
         exact ih (i+1,ov3,acc++y.to) _ _ ⟨rfl,rfl,rfl,rfl,rfl,rfl,trivial⟩ ⟨e3,by show i+1<=nn;omega,ho3',hal3,hcon⟩ (by show nn-(i+1)<nn-i;omega)
       · rw[if_neg (by rw[hb];decide)] at hcon;refine aC rfl ?_;refine G.aR ?_;refine G.cz func53 rfl ?_;refine xp rfl (aj.bE rfl rfl ⟨by omega,by omega⟩) ?_;refine aS 1 [0,2,7,9,12,13,14,15,51] rfl ?_;exact ih (i+1,ov,acc) _ _ ⟨rfl,rfl,rfl,rfl,rfl,rfl,trivial⟩ ⟨e02,by show i+1<=nn;omega,ho2,hal,hcon⟩ (by show nn-(i+1)<nn-i;omega)
   · have hnil:now.drop i=[]:=List.drop_of_length_le (by omega);rw[hnil,stepG] at hcon;subst hcon;have hol:∀b,ov.ownBlock=some b->h0.size<=b/\b<h1.size:=fun b hb=>aQ.lt ho hb
     have hn':cF h1 (fun b=>O b\/dB ov.ownBlock b) nb (.slice va ss.length vc) ss st:=hn.ax e1 (fun b hb k=>k.elim id (fun k=>by have:=(hol b k.symm).1;omega));refine bA rfl rfl ?_;refine bq func53 2 rfl ?_;refine xo rfl (aq (vs:=[_,_]) func98 rfl H.Lr rfl (ah.bw (rB (tb:=ov.ownBlock) hn' hgood hss ho rfl (by omega) (fun b hb=>⟨.inr hb.symm,by have:=hol b hb;omega,fun k=>by have:=hol b hb;have:=(hown b k).2;omega⟩) hal hpot))) ?_;rintro _ h2 ⟨ho2,hx2⟩;refine aS 1 [0,2,6,7,12,13,14,15] rfl ?_;refine G.ret func53 rfl rfl ?_;rw[cB,if_neg hz,htgt];refine⟨_,rfl,aQ.lower ho2 (by omega),⟨by have:=hx2.size;omega,fun b hb _=>?_⟩⟩;rw[hx2.block b (by omega) (fun k=>by have:=hol b k.symm;omega)];exact e1.block b hb (fun k=>k)
theorem rI {α:Type}{e:iA α}{Q Q':Nat->Prop}{xs:List α}(k:bX e h Q v xs) (hq:∀b,Q' b->Q b):bX e h Q' v xs:=k.mv ⟨Nat.le_refl _,fun b _ hn=>⟨rfl,fun k=>hn (hq b k)⟩⟩
end
end Go.Proofs.YtmehdcdbeafljaaGreatDoor
