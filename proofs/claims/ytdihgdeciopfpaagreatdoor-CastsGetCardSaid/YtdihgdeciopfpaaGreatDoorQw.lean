/- What the proof of the statement leans on (part 23). -/
import Derived.Test.YtdihgdeciopfpaaGreatDoorRows
import Derived.Test.YtdihgdeciopfpaaGreatDoorQv

namespace Go.Proofs.YtdihgdeciopfpaaGreatDoor.H
open Go Go.Lw
theorem iL:aZ Tryz.prog 101=some false:=by kernel_rfl
theorem AR:aZ Tryz.prog 103=some true:=by kernel_rfl
theorem vE:aZ Tryz.prog 109=some false:=by kernel_rfl
theorem pX:aZ Tryz.prog 110=some false:=by kernel_rfl
theorem Ke:aZ Tryz.prog 133=some false:=by kernel_rfl
theorem Dn:aZ Tryz.prog 135=some true:=by kernel_rfl
theorem No:aZ Tryz.prog 142=some false:=by kernel_rfl
theorem G6:aZ Tryz.prog 144=some true:=by kernel_rfl
theorem AQ:aZ Tryz.prog 147=some false:=by kernel_rfl
theorem Nn:aZ Tryz.prog 149=some false:=by kernel_rfl
theorem AP:aZ Tryz.prog 21=some false:=by kernel_rfl
theorem G5:aZ Tryz.prog 211=some true:=by kernel_rfl
theorem Kc:aZ Tryz.prog 213=some true:=by kernel_rfl
theorem vD:aZ Tryz.prog 214=some false:=by kernel_rfl
theorem tH:aZ Tryz.prog 215=some false:=by kernel_rfl
theorem Kb:aZ Tryz.prog 216=some false:=by kernel_rfl
theorem Nl:aZ Tryz.prog 220=some false:=by kernel_rfl
theorem j9:aZ Tryz.prog 223=some false:=by kernel_rfl
theorem G4:aZ Tryz.prog 236=some false:=by kernel_rfl
theorem AO:aZ Tryz.prog 281=some true:=by kernel_rfl
theorem gp:aZ Tryz.prog 285=some false:=by kernel_rfl
theorem Ka:aZ Tryz.prog 288=some true:=by kernel_rfl
theorem tG:aZ Tryz.prog 289=some false:=by kernel_rfl
theorem Nk:aZ Tryz.prog 29=some false:=by kernel_rfl
theorem dI:aZ Tryz.prog 291=some true:=by kernel_rfl
theorem Nj:aZ Tryz.prog 297=some true:=by kernel_rfl
theorem bU:aZ Tryz.prog 3=some false:=by kernel_rfl
theorem J9:aZ Tryz.prog 301=some false:=by kernel_rfl
theorem J8:aZ Tryz.prog 303=some true:=by kernel_rfl
theorem pW:aZ Tryz.prog 306=some false:=by kernel_rfl
theorem gC:aZ Tryz.prog 31=some false:=by kernel_rfl
theorem tF:aZ Tryz.prog 312=some true:=by kernel_rfl
theorem kF:aZ Tryz.prog 33=some true:=by kernel_rfl
theorem Dm:aZ Tryz.prog 331=some false:=by kernel_rfl
theorem K0:aZ Tryz.prog 38=some false:=by kernel_rfl
theorem Hv:aZ Tryz.prog 4=some false:=by kernel_rfl
theorem uy:aZ Tryz.prog 42=some false:=by kernel_rfl
theorem J7:aZ Tryz.prog 429=some false:=by kernel_rfl
theorem ux:aZ Tryz.prog 44=some true:=by kernel_rfl
theorem Cu:aZ Tryz.prog 47=some false:=by kernel_rfl
theorem AN:aZ Tryz.prog 49=some true:=by kernel_rfl
theorem O8:aZ Tryz.prog 5=some false:=by kernel_rfl
theorem G3:aZ Tryz.prog 59=some false:=by kernel_rfl
theorem oI:aZ Tryz.prog 75=some true:=by kernel_rfl
theorem uw:aZ Tryz.prog 77=some true:=by kernel_rfl
theorem Ct:aZ Tryz.prog 79=some true:=by kernel_rfl
theorem gr:aZ Tryz.prog 9=some false:=by kernel_rfl
theorem xU:aZ Tryz.prog 91=some true:=by kernel_rfl
theorem qm:aZ Tryz.prog 95=some true:=by kernel_rfl
theorem Ez (a0:Int) (a1:Int):Tryz.prog.built 103 [(0,.int .i64 a0),(1,.int .i32 a1)]=some #[.int .i64 a0,.int .i32 a1,.slice none 0 0,.int .u8 (0)]:=by kernel_rfl
theorem AI (a0:Int) (a2:Option Addr) (n2 c2:Nat) (a3:Int):Tryz.prog.built 103 [(0,.int .i64 a0),(2,.slice a2 n2 c2),(3,.int .u8 a3)]=some #[.int .i64 a0,.int .i32 (0),.slice a2 n2 c2,.int .u8 a3]:=by kernel_rfl
theorem IJ (t0:TypeId) (a0:Value):Tryz.prog.built 121 [(0,.iface t0 a0)]=some #[.iface t0 a0]:=by kernel_rfl
theorem j8 (a0:ByteArray) (a1:Option Addr) (n1 c1:Nat) (a2:Int) (a3:ByteArray) (a4:ByteArray):Tryz.prog.built 135 [(0,.string a0),(1,.slice a1 n1 c1),(2,.int .i64 a2),(3,.string a3),(4,.string a4)]=some #[.string a0,.slice a1 n1 c1,.int .i64 a2,.string a3,.string a4]:=by kernel_rfl
theorem II (a3:Int):Tryz.prog.built 144 [(3,.int .i64 a3)]=some #[.string ⟨#[]⟩,.int .i64 (0),.int .i64 (0),.int .i64 a3,.slice none 0 0,.slice none 0 0,.int .i64 (0),.string ⟨#[]⟩,.int .i64 (0),.int .i64 (0),.int .i64 (0),.string ⟨#[]⟩,.int .i64 (0),.string ⟨#[]⟩,.int .i64 (0),.int .i64 (0),.slice none 0 0,.slice none 0 0,.int .i64 (0)]:=by kernel_rfl
theorem uu (a0_0 a0_1 a0_2 a0_3 a0_4 a0_5 a0_6 a0_7 a0_8 a0_9 a0_10 a0_11 a0_12 a0_13 a0_14 a0_15 a0_16 a0_17 a0_18:Value) (a1:Option Addr) (a2:Option Addr) (a3:Option Addr):Tryz.prog.built 156 [(0,.agg #[a0_0,a0_1,a0_2,a0_3,a0_4,a0_5,a0_6,a0_7,a0_8,a0_9,a0_10,a0_11,a0_12,a0_13,a0_14,a0_15,a0_16,a0_17,a0_18]),(1,.pointer a1),(2,.pointer a2),(3,.pointer a3)]=some #[a0_0,a0_1,a0_2,a0_3,a0_4,a0_5,a0_6,a0_7,a0_8,a0_9,a0_10,a0_11,a0_12,a0_13,a0_14,a0_15,a0_16,a0_17,a0_18,.pointer a1,.pointer a2,.pointer a3,.int .i64 (0),.bool false,.int .i64 (0),.int .i32 (0)]:=by kernel_rfl
theorem IG (a0:Int):Tryz.prog.built 191 [(0,.int .i64 a0)]=some #[.int .i64 a0,.slice none 0 0]:=by kernel_rfl
theorem IF (a1:Int):Tryz.prog.built 198 [(1,.int .i64 a1)]=some #[.pointer none,.slice none 0 0,.int .i64 a1,.int .i64 (0),.bool false,.bool false,.bool false]:=by kernel_rfl
theorem Ey (a0:Option Addr) (a1:Int):Tryz.prog.built 206 [(0,.pointer a0),(1,.int .i64 a1)]=some #[.pointer a0,.int .i64 a1]:=by kernel_rfl
theorem IE (a0_0 a0_1:Value):Tryz.prog.built 209 [(0,.agg #[a0_0,a0_1])]=some #[a0_0,a0_1,.slice none 0 0,.slice none 0 0,.int .i64 (0)]:=by kernel_rfl
theorem GZ  : Tryz.prog.built 213 []=some #[.int .i64 (0),.int .i64 (0),.int .i64 (0)]:=by kernel_rfl
theorem Ex (a0:Int) (a1_0 a1_1:Value):Tryz.prog.built 213 [(0,.int .i64 a0),(1,.agg #[a1_0,a1_1])]=some #[.int .i64 a0,a1_0,a1_1]:=by kernel_rfl
theorem Ew (a0:Option Addr) (a5:Option Addr) (n5 c5:Nat):Tryz.prog.built 218 [(0,.pointer a0),(5,.slice a5 n5 c5)]=some #[.pointer a0,.string ⟨#[]⟩,.slice none 0 0,.slice none 0 0,.int .i64 (0),.int .i64 (0),.slice a5 n5 c5,.int .i64 (0)]:=by kernel_rfl
theorem KY  : Tryz.prog.built 222 []=some #[.slice none 0 0]:=by kernel_rfl
theorem Eu (a0:Bool) (a1:Option Addr) (n1 c1:Nat):Tryz.prog.built 276 [(0,.bool a0),(1,.slice a1 n1 c1)]=some #[.bool a0,.slice a1 n1 c1,.int .i64 (0)]:=by kernel_rfl
theorem KX  : Tryz.prog.built 287 []=some #[.slice none 0 0,.int .i64 (0)]:=by kernel_rfl
theorem Co  : Tryz.prog.built 291 []=some #[.int .i64 (0),.int .u64 (0),.int .u64 (0),.int .u64 (0),.int .u64 (0),.slice none 0 0]:=by kernel_rfl
theorem oD (a0:Int) (a2:Option Addr) (n2 c2:Nat):Tryz.prog.built 291 [(0,.int .i64 a0),(2,.slice a2 n2 c2)]=some #[.int .i64 a0,.int .u64 (0),.int .u64 (0),.int .u64 (0),.int .u64 (0),.slice a2 n2 c2]:=by kernel_rfl
theorem Dk (a0:Int):Tryz.prog.built 291 [(0,.int .i64 a0)]=some #[.int .i64 a0,.int .u64 (0),.int .u64 (0),.int .u64 (0),.int .u64 (0),.slice none 0 0]:=by kernel_rfl
theorem GY  : Tryz.prog.built 297 []=some #[.int .i64 (0),.int .u64 (0),.int .u64 (0),.int .u64 (0),.int .u64 (0),.slice none 0 0,.int .i64 (0)]:=by kernel_rfl
theorem AH (a0:Int) (a1_0 a1_1 a1_2 a1_3:Value) (a2:Option Addr) (n2 c2:Nat):Tryz.prog.built 297 [(0,.int .i64 a0),(1,.agg #[a1_0,a1_1,a1_2,a1_3]),(2,.slice a2 n2 c2)]=some #[.int .i64 a0,a1_0,a1_1,a1_2,a1_3,.slice a2 n2 c2,.int .i64 (0)]:=by kernel_rfl
theorem Et (a0:Int) (a3:Int):Tryz.prog.built 297 [(0,.int .i64 a0),(3,.int .i64 a3)]=some #[.int .i64 a0,.int .u64 (0),.int .u64 (0),.int .u64 (0),.int .u64 (0),.slice none 0 0,.int .i64 a3]:=by kernel_rfl
theorem xS (a2:Option Addr) (n2 c2:Nat):Tryz.prog.built 297 [(2,.slice a2 n2 c2)]=some #[.int .i64 (0),.int .u64 (0),.int .u64 (0),.int .u64 (0),.int .u64 (0),.slice a2 n2 c2,.int .i64 (0)]:=by kernel_rfl
theorem GX  : Tryz.prog.built 308 []=some #[.slice none 0 0,.slice none 0 0]:=by kernel_rfl
theorem Cn (a0:Int) (a1:Int) (a2:Option Addr) (n2 c2:Nat):Tryz.prog.built 33 [(0,.int .i64 a0),(1,.int .i64 a1),(2,.slice a2 n2 c2)]=some #[.int .i64 a0,.int .i64 a1,.slice a2 n2 c2,.int .i64 (0),.int .i64 (0)]:=by kernel_rfl
theorem ID (a0:ByteArray):Tryz.prog.built 351 [(0,.string a0)]=some #[.string a0,.slice none 0 0]:=by kernel_rfl
theorem fQ  : Tryz.prog.built 358 []=some #[]:=by kernel_rfl
theorem IC (a0:ByteArray):Tryz.prog.built 361 [(0,.string a0)]=some #[.string a0]:=by kernel_rfl
theorem Cm (a0:Option Addr) (a1:Option Addr) (a2_0 a2_1 a2_2 a2_3 a2_4:Value):Tryz.prog.built 37 [(0,.pointer a0),(1,.pointer a1),(2,.agg #[a2_0,a2_1,a2_2,a2_3,a2_4])]=some #[.pointer a0,.pointer a1,a2_0,a2_1,a2_2,a2_3,a2_4]:=by kernel_rfl
theorem lA  : Tryz.prog.built 44 []=some #[.int .i64 (0),.int .i64 (0),.slice none 0 0]:=by kernel_rfl
theorem GW (a0:Int) (a1:Int):Tryz.prog.built 44 [(0,.int .i64 a0),(1,.int .i64 a1)]=some #[.int .i64 a0,.int .i64 a1,.slice none 0 0]:=by kernel_rfl
theorem Cl (a0:Int) (a1:Int) (a2:Option Addr) (n2 c2:Nat):Tryz.prog.built 44 [(0,.int .i64 a0),(1,.int .i64 a1),(2,.slice a2 n2 c2)]=some #[.int .i64 a0,.int .i64 a1,.slice a2 n2 c2]:=by kernel_rfl
theorem Dj  : Tryz.prog.built 49 []=some #[.int .i64 (0),.int .i64 (0),.slice none 0 0]:=by kernel_rfl
theorem GV (a0:Int) (a1:Int):Tryz.prog.built 49 [(0,.int .i64 a0),(1,.int .i64 a1)]=some #[.int .i64 a0,.int .i64 a1,.slice none 0 0]:=by kernel_rfl
theorem AG (a0:Int) (a1:ByteArray):Tryz.prog.built 75 [(0,.int .i64 a0),(1,.string a1)]=some #[.int .i64 a0,.string a1,.int .i64 (0),.int .i64 (0)]:=by kernel_rfl
theorem Ck (a0:Int):Tryz.prog.built 75 [(0,.int .i64 a0)]=some #[.int .i64 a0,.string ⟨#[]⟩,.int .i64 (0),.int .i64 (0)]:=by kernel_rfl
theorem GU  : Tryz.prog.built 77 []=some #[.int .i64 (0),.bool false,.bool false,.bool false]:=by kernel_rfl
theorem tB (a0:Int) (a1:Int) (a2_0 a2_1 a2_2 a2_3:Value):Tryz.prog.built 79 [(0,.int .i32 a0),(1,.int .i64 a1),(2,.agg #[a2_0,a2_1,a2_2,a2_3])]=some #[.int .i32 a0,.int .i64 a1,a2_0,a2_1,a2_2,a2_3]:=by kernel_rfl
theorem GR (a0:Int) (a1:ByteArray):Tryz.prog.built 91 [(0,.int .i64 a0),(1,.string a1)]=some #[.int .i64 a0,.string a1,.int .i64 (0),.int .i64 (0)]:=by kernel_rfl
theorem Cj (a0:Int) (a2:Int) (a3:Int):Tryz.prog.built 91 [(0,.int .i64 a0),(2,.int .i64 a2),(3,.int .i64 a3)]=some #[.int .i64 a0,.string ⟨#[]⟩,.int .i64 a2,.int .i64 a3]:=by kernel_rfl
theorem KW (a0:Int):Tryz.prog.built 91 [(0,.int .i64 a0)]=some #[.int .i64 a0,.string ⟨#[]⟩,.int .i64 (0),.int .i64 (0)]:=by kernel_rfl
theorem Di  : Tryz.prog.built 95 []=some #[.int .i64 (0),.string ⟨#[]⟩]:=by kernel_rfl
theorem GP (a0:Int) (a1:ByteArray):Tryz.prog.built 95 [(0,.int .i64 a0),(1,.string a1)]=some #[.int .i64 a0,.string a1]:=by kernel_rfl
theorem GQ (a0:Int):Tryz.prog.built 95 [(0,.int .i64 a0)]=some #[.int .i64 a0,.string ⟨#[]⟩]:=by kernel_rfl
theorem GO (a0:Bool) (a1_0 a1_1 a1_2 a1_3 a1_4:Value):Tryz.prog.built 97 [(0,.bool a0),(1,.agg #[a1_0,a1_1,a1_2,a1_3,a1_4])]=some #[.bool a0,a1_0,a1_1,a1_2,a1_3,a1_4,.int .i64 (0),.string ⟨#[]⟩,.int .i64 (0),.bool false,.bool false,.bool false,.bool false,.int .i64 (0)]:=by kernel_rfl
theorem jo:Tryz.prog.concrete 358=true:=by kernel_rfl
theorem O6:Tryz.prog.concrete 9=true:=by kernel_rfl
set_option maxRecDepth 100000 in
theorem Gz:de Tryz.prog 101 1 24:=⟨⟨_,_,rfl,rfl,rfl,rfl,rfl⟩,by decide⟩
set_option maxRecDepth 100000 in
theorem JT:de Tryz.prog 103 4 48:=⟨⟨_,_,rfl,rfl,rfl,rfl,rfl⟩,by decide⟩
set_option maxRecDepth 100000 in
theorem JS:de Tryz.prog 211 2 16:=⟨⟨_,_,rfl,rfl,rfl,rfl,rfl⟩,by decide⟩
set_option maxRecDepth 100000 in
theorem Dd:de Tryz.prog 213 3 24:=⟨⟨_,_,rfl,rfl,rfl,rfl,rfl⟩,by decide⟩
set_option maxRecDepth 100000 in
theorem JR:de Tryz.prog 227 1 8:=⟨⟨_,_,rfl,rfl,rfl,rfl,rfl⟩,by decide⟩
set_option maxRecDepth 100000 in
theorem JQ:de Tryz.prog 281 3 24:=⟨⟨_,_,rfl,rfl,rfl,rfl,rfl⟩,by decide⟩
set_option maxRecDepth 100000 in
theorem sU:de Tryz.prog 291 6 64:=⟨⟨_,_,rfl,rfl,rfl,rfl,rfl⟩,by decide⟩
set_option maxRecDepth 100000 in
theorem JP:de Tryz.prog 297 7 72:=⟨⟨_,_,rfl,rfl,rfl,rfl,rfl⟩,by decide⟩
set_option maxRecDepth 100000 in
theorem lR:de Tryz.prog 3 1 8:=⟨⟨_,_,rfl,rfl,rfl,rfl,rfl⟩,by decide⟩
set_option maxRecDepth 100000 in
theorem Dc:de Tryz.prog 312 256 2048:=⟨⟨_,_,rfl,rfl,rfl,rfl,rfl⟩,by decide⟩
set_option maxRecDepth 100000 in
theorem OH:de Tryz.prog 4 1 1:=⟨⟨_,_,rfl,rfl,rfl,rfl,rfl⟩,by decide⟩
set_option maxRecDepth 100000 in
theorem Ht:de Tryz.prog 5 1 1:=⟨⟨_,_,rfl,rfl,rfl,rfl,rfl⟩,by decide⟩
set_option maxRecDepth 100000 in
theorem Gy:de Tryz.prog 75 4 40:=⟨⟨_,_,rfl,rfl,rfl,rfl,rfl⟩,by decide⟩
set_option maxRecDepth 100000 in
theorem OG:de Tryz.prog 77 4 16:=⟨⟨_,_,rfl,rfl,rfl,rfl,rfl⟩,by decide⟩
set_option maxRecDepth 100000 in
theorem Iq:de Tryz.prog 79 6 32:=⟨⟨_,_,rfl,rfl,rfl,rfl,rfl⟩,by decide⟩
set_option maxRecDepth 100000 in
theorem KR:de Tryz.prog 9 1 16:=⟨⟨_,_,rfl,rfl,rfl,rfl,rfl⟩,by decide⟩
set_option maxRecDepth 100000 in
theorem Ip:de Tryz.prog 91 4 40:=⟨⟨_,_,rfl,rfl,rfl,rfl,rfl⟩,by decide⟩
theorem mixed:Tryz.prog.follows .mixedOrders=true:=by kernel_rfl
theorem OC:(Tryz.f10.name == "runtime.NumGoroutine")=false:=by decide +kernel
theorem MX:(Tryz.f102.name == "runtime.NumGoroutine")=false:=by decide +kernel
theorem JB:(Tryz.f103.name == "runtime.NumGoroutine")=false:=by decide +kernel
theorem MW:(Tryz.f108.name == "runtime.NumGoroutine")=false:=by decide +kernel
theorem MV:(Tryz.f109.name == "runtime.NumGoroutine")=false:=by decide +kernel
theorem MU:(Tryz.f11.name == "runtime.NumGoroutine")=false:=by decide +kernel
theorem JA:(Tryz.f110.name == "runtime.NumGoroutine")=false:=by decide +kernel
theorem MT:(Tryz.f111.name == "runtime.NumGoroutine")=false:=by decide +kernel
theorem MR:(Tryz.f112.name == "runtime.NumGoroutine")=false:=by decide +kernel
theorem MQ:(Tryz.f114.name == "runtime.NumGoroutine")=false:=by decide +kernel
theorem Jz:(Tryz.f115.name == "runtime.NumGoroutine")=false:=by decide +kernel
theorem MP:(Tryz.f116.name == "runtime.NumGoroutine")=false:=by decide +kernel
theorem MO:(Tryz.f117.name == "runtime.NumGoroutine")=false:=by decide +kernel
theorem MN:(Tryz.f118.name == "runtime.NumGoroutine")=false:=by decide +kernel
theorem MM:(Tryz.f119.name == "runtime.NumGoroutine")=false:=by decide +kernel
theorem ML:(Tryz.f12.name == "runtime.NumGoroutine")=false:=by decide +kernel
theorem MK:(Tryz.f120.name == "runtime.NumGoroutine")=false:=by decide +kernel
theorem MJ:(Tryz.f121.name == "runtime.NumGoroutine")=false:=by decide +kernel
theorem MH:(Tryz.f122.name == "runtime.NumGoroutine")=false:=by decide +kernel
theorem Jy:(Tryz.f123.name == "runtime.NumGoroutine")=false:=by decide +kernel
theorem MG:(Tryz.f124.name == "runtime.NumGoroutine")=false:=by decide +kernel
theorem MF:(Tryz.f129.name == "runtime.NumGoroutine")=false:=by decide +kernel
theorem OB:(Tryz.f13.name == "runtime.NumGoroutine")=false:=by decide +kernel
theorem ME:(Tryz.f132.name == "runtime.NumGoroutine")=false:=by decide +kernel
theorem MD:(Tryz.f133.name == "runtime.NumGoroutine")=false:=by decide +kernel
theorem MC:(Tryz.f136.name == "runtime.NumGoroutine")=false:=by decide +kernel
theorem zk:(Tryz.f137.name == "runtime.NumGoroutine")=false:=by decide +kernel
theorem MB:(Tryz.f139.name == "runtime.NumGoroutine")=false:=by decide +kernel
theorem OA:(Tryz.f14.name == "runtime.NumGoroutine")=false:=by decide +kernel
theorem Jx:(Tryz.f140.name == "runtime.NumGoroutine")=false:=by decide +kernel
theorem Jw:(Tryz.f141.name == "runtime.NumGoroutine")=false:=by decide +kernel
theorem MA:(Tryz.f144.name == "runtime.NumGoroutine")=false:=by decide +kernel
theorem Mz:(Tryz.f147.name == "runtime.NumGoroutine")=false:=by decide +kernel
theorem Oz:(Tryz.f15.name == "runtime.NumGoroutine")=false:=by decide +kernel
theorem My:(Tryz.f150.name == "runtime.NumGoroutine")=false:=by decide +kernel
theorem Oy:(Tryz.f16.name == "runtime.NumGoroutine")=false:=by decide +kernel
theorem Mx:(Tryz.f168.name == "runtime.NumGoroutine")=false:=by decide +kernel
theorem Mw:(Tryz.f169.name == "runtime.NumGoroutine")=false:=by decide +kernel
theorem Ox:(Tryz.f17.name == "runtime.NumGoroutine")=false:=by decide +kernel
theorem Jv:(Tryz.f170.name == "runtime.NumGoroutine")=false:=by decide +kernel
theorem Ju:(Tryz.f172.name == "runtime.NumGoroutine")=false:=by decide +kernel
theorem Mu:(Tryz.f173.name == "runtime.NumGoroutine")=false:=by decide +kernel
theorem Mt:(Tryz.f174.name == "runtime.NumGoroutine")=false:=by decide +kernel
theorem Ms:(Tryz.f175.name == "runtime.NumGoroutine")=false:=by decide +kernel
theorem Mr:(Tryz.f176.name == "runtime.NumGoroutine")=false:=by decide +kernel
theorem Jt:(Tryz.f178.name == "runtime.NumGoroutine")=false:=by decide +kernel
theorem Mq:(Tryz.f179.name == "runtime.NumGoroutine")=false:=by decide +kernel
theorem Mp:(Tryz.f180.name == "runtime.NumGoroutine")=false:=by decide +kernel
theorem Js:(Tryz.f181.name == "runtime.NumGoroutine")=false:=by decide +kernel
theorem Mo:(Tryz.f182.name == "runtime.NumGoroutine")=false:=by decide +kernel
theorem Mn:(Tryz.f184.name == "runtime.NumGoroutine")=false:=by decide +kernel
theorem Mm:(Tryz.f185.name == "runtime.NumGoroutine")=false:=by decide +kernel
theorem uZ:(Tryz.f186.name == "runtime.NumGoroutine")=false:=by decide +kernel
theorem rM:(Tryz.f187.name == "runtime.NumGoroutine")=false:=by decide +kernel
theorem Ml:(Tryz.f188.name == "runtime.NumGoroutine")=false:=by decide +kernel
theorem Mk:(Tryz.f189.name == "runtime.NumGoroutine")=false:=by decide +kernel
theorem Ov:(Tryz.f19.name == "runtime.NumGoroutine")=false:=by decide +kernel
theorem C0:(Tryz.f190.name == "runtime.NumGoroutine")=false:=by decide +kernel
theorem Mj:(Tryz.f191.name == "runtime.NumGoroutine")=false:=by decide +kernel
theorem Mi:(Tryz.f192.name == "runtime.NumGoroutine")=false:=by decide +kernel
theorem Mh:(Tryz.f193.name == "runtime.NumGoroutine")=false:=by decide +kernel
theorem Mg:(Tryz.f194.name == "runtime.NumGoroutine")=false:=by decide +kernel
theorem Mf:(Tryz.f195.name == "runtime.NumGoroutine")=false:=by decide +kernel
theorem Me:(Tryz.f196.name == "runtime.NumGoroutine")=false:=by decide +kernel
theorem Md:(Tryz.f207.name == "runtime.NumGoroutine")=false:=by decide +kernel
theorem Mc:(Tryz.f208.name == "runtime.NumGoroutine")=false:=by decide +kernel
theorem Jr:(Tryz.f209.name == "runtime.NumGoroutine")=false:=by decide +kernel
theorem Mb:(Tryz.f224.name == "runtime.NumGoroutine")=false:=by decide +kernel
theorem Ma:(Tryz.f227.name == "runtime.NumGoroutine")=false:=by decide +kernel
theorem L9:(Tryz.f228.name == "runtime.NumGoroutine")=false:=by decide +kernel
theorem L8:(Tryz.f229.name == "runtime.NumGoroutine")=false:=by decide +kernel
theorem FI:(Tryz.f230.name == "runtime.NumGoroutine")=false:=by decide +kernel
theorem Jq:(Tryz.f239.name == "runtime.NumGoroutine")=false:=by decide +kernel
theorem L7:(Tryz.f240.name == "runtime.NumGoroutine")=false:=by decide +kernel
theorem FH:(Tryz.f242.name == "runtime.NumGoroutine")=false:=by decide +kernel
theorem Jp:(Tryz.f243.name == "runtime.NumGoroutine")=false:=by decide +kernel
theorem L6:(Tryz.f244.name == "runtime.NumGoroutine")=false:=by decide +kernel
theorem Ou:(Tryz.f25.name == "runtime.NumGoroutine")=false:=by decide +kernel
theorem L5:(Tryz.f253.name == "runtime.NumGoroutine")=false:=by decide +kernel
theorem KE:(Tryz.f26.name == "runtime.NumGoroutine")=false:=by decide +kernel
theorem Oq:(Tryz.f27.name == "runtime.NumGoroutine")=false:=by decide +kernel
theorem Oo:(Tryz.f28.name == "runtime.NumGoroutine")=false:=by decide +kernel
theorem L4:(Tryz.f281.name == "runtime.NumGoroutine")=false:=by decide +kernel
theorem Jo:(Tryz.f286.name == "runtime.NumGoroutine")=false:=by decide +kernel
theorem CZ:(Tryz.f287.name == "runtime.NumGoroutine")=false:=by decide +kernel
theorem Jn:(Tryz.f288.name == "runtime.NumGoroutine")=false:=by decide +kernel
theorem On:(Tryz.f29.name == "runtime.NumGoroutine")=false:=by decide +kernel
theorem Jm:(Tryz.f298.name == "runtime.NumGoroutine")=false:=by decide +kernel
theorem Om:(Tryz.f30.name == "runtime.NumGoroutine")=false:=by decide +kernel
theorem KD:(Tryz.f31.name == "runtime.NumGoroutine")=false:=by decide +kernel
theorem Ol:(Tryz.f32.name == "runtime.NumGoroutine")=false:=by decide +kernel
theorem KC:(Tryz.f33.name == "runtime.NumGoroutine")=false:=by decide +kernel
theorem L3:(Tryz.f333.name == "runtime.NumGoroutine")=false:=by decide +kernel
theorem L2:(Tryz.f34.name == "runtime.NumGoroutine")=false:=by decide +kernel
theorem L1:(Tryz.f35.name == "runtime.NumGoroutine")=false:=by decide +kernel
theorem L0:(Tryz.f350.name == "runtime.NumGoroutine")=false:=by decide +kernel
theorem Jl:(Tryz.f351.name == "runtime.NumGoroutine")=false:=by decide +kernel
theorem rL:(Tryz.f352.name == "runtime.NumGoroutine")=false:=by decide +kernel
theorem Jk:(Tryz.f356.name == "runtime.NumGoroutine")=false:=by decide +kernel
theorem LZ:(Tryz.f357.name == "runtime.NumGoroutine")=false:=by decide +kernel
theorem uY:(Tryz.f358.name == "runtime.NumGoroutine")=false:=by decide +kernel
theorem Jj:(Tryz.f359.name == "runtime.NumGoroutine")=false:=by decide +kernel
theorem Oj:(Tryz.f36.name == "runtime.NumGoroutine")=false:=by decide +kernel
theorem Ji:(Tryz.f364.name == "runtime.NumGoroutine")=false:=by decide +kernel
theorem Jh:(Tryz.f365.name == "runtime.NumGoroutine")=false:=by decide +kernel
theorem LY:(Tryz.f37.name == "runtime.NumGoroutine")=false:=by decide +kernel
theorem Oi:(Tryz.f38.name == "runtime.NumGoroutine")=false:=by decide +kernel
theorem LX:(Tryz.f39.name == "runtime.NumGoroutine")=false:=by decide +kernel
theorem LW:(Tryz.f40.name == "runtime.NumGoroutine")=false:=by decide +kernel
theorem Oh:(Tryz.f41.name == "runtime.NumGoroutine")=false:=by decide +kernel
theorem LV:(Tryz.f42.name == "runtime.NumGoroutine")=false:=by decide +kernel
theorem Og:(Tryz.f43.name == "runtime.NumGoroutine")=false:=by decide +kernel
theorem zj:(Tryz.f44.name == "runtime.NumGoroutine")=false:=by decide +kernel
theorem Of:(Tryz.f45.name == "runtime.NumGoroutine")=false:=by decide +kernel
theorem HR:(Tryz.f46.name == "runtime.NumGoroutine")=false:=by decide +kernel
theorem KB:(Tryz.f59.name == "runtime.NumGoroutine")=false:=by decide +kernel
theorem LU:(Tryz.f60.name == "runtime.NumGoroutine")=false:=by decide +kernel
theorem Oe:(Tryz.f61.name == "runtime.NumGoroutine")=false:=by decide +kernel
theorem LS:(Tryz.f62.name == "runtime.NumGoroutine")=false:=by decide +kernel
theorem Od:(Tryz.f63.name == "runtime.NumGoroutine")=false:=by decide +kernel
theorem Oc:(Tryz.f64.name == "runtime.NumGoroutine")=false:=by decide +kernel
theorem Ob:(Tryz.f65.name == "runtime.NumGoroutine")=false:=by decide +kernel
theorem Oa:(Tryz.f66.name == "runtime.NumGoroutine")=false:=by decide +kernel
theorem N9:(Tryz.f67.name == "runtime.NumGoroutine")=false:=by decide +kernel
theorem KA:(Tryz.f68.name == "runtime.NumGoroutine")=false:=by decide +kernel
theorem BB:(Tryz.f70.name == "runtime.NumGoroutine")=false:=by decide +kernel
theorem LR:(Tryz.f71.name == "runtime.NumGoroutine")=false:=by decide +kernel
theorem DY:(Tryz.f73.name == "runtime.NumGoroutine")=false:=by decide +kernel
theorem N8:(Tryz.f75.name == "runtime.NumGoroutine")=false:=by decide +kernel
theorem LQ:(Tryz.f76.name == "runtime.NumGoroutine")=false:=by decide +kernel
theorem N7:(Tryz.f77.name == "runtime.NumGoroutine")=false:=by decide +kernel
theorem LP:(Tryz.f78.name == "runtime.NumGoroutine")=false:=by decide +kernel
theorem LN:(Tryz.f79.name == "runtime.NumGoroutine")=false:=by decide +kernel
theorem LM:(Tryz.f80.name == "runtime.NumGoroutine")=false:=by decide +kernel
theorem N6:(Tryz.f81.name == "runtime.NumGoroutine")=false:=by decide +kernel
theorem N5:(Tryz.f82.name == "runtime.NumGoroutine")=false:=by decide +kernel
theorem N4:(Tryz.f84.name == "runtime.NumGoroutine")=false:=by decide +kernel
theorem N3:(Tryz.f85.name == "runtime.NumGoroutine")=false:=by decide +kernel
theorem LL:(Tryz.f86.name == "runtime.NumGoroutine")=false:=by decide +kernel
theorem N2:(Tryz.f88.name == "runtime.NumGoroutine")=false:=by decide +kernel
theorem N1:(Tryz.f89.name == "runtime.NumGoroutine")=false:=by decide +kernel
theorem Kz:(Tryz.f91.name == "runtime.NumGoroutine")=false:=by decide +kernel
theorem N0:(Tryz.f92.name == "runtime.NumGoroutine")=false:=by decide +kernel
theorem eC:ck Tryz.prog 101=some 1:=by kernel_rfl
theorem qN:ck Tryz.prog 103=some 4:=by kernel_rfl
theorem lX:ck Tryz.prog 109=some 1:=by kernel_rfl
theorem iE:ck Tryz.prog 110=some 1:=by kernel_rfl
theorem yB:ck Tryz.prog 112=some 2:=by kernel_rfl
theorem I8:ck Tryz.prog 133=some 1:=by kernel_rfl
theorem qM:ck Tryz.prog 135=some 5:=by kernel_rfl
theorem Fh:ck Tryz.prog 142=some 1:=by kernel_rfl
theorem lW:ck Tryz.prog 144=some 19:=by kernel_rfl
theorem I7:ck Tryz.prog 147=some 1:=by kernel_rfl
theorem Lu:ck Tryz.prog 149=some 1:=by kernel_rfl
theorem DA:ck Tryz.prog 21=some 1:=by kernel_rfl
theorem mZ:ck Tryz.prog 211=some 2:=by kernel_rfl
theorem qL:ck Tryz.prog 213=some 3:=by kernel_rfl
theorem lV:ck Tryz.prog 214=some 1:=by kernel_rfl
theorem qK:ck Tryz.prog 215=some 1:=by kernel_rfl
theorem CN:ck Tryz.prog 216=some 1:=by kernel_rfl
theorem Fg:ck Tryz.prog 220=some 1:=by kernel_rfl
theorem qJ:ck Tryz.prog 236=some 1:=by kernel_rfl
theorem jf:ck Tryz.prog 281=some 3:=by kernel_rfl
theorem fq:ck Tryz.prog 285=some 1:=by kernel_rfl
theorem jU:ck Tryz.prog 288=some 4:=by kernel_rfl
theorem yA:ck Tryz.prog 289=some 1:=by kernel_rfl
theorem Lt:ck Tryz.prog 29=some 1:=by kernel_rfl
theorem bV:ck Tryz.prog 291=some 6:=by kernel_rfl
theorem jT:ck Tryz.prog 297=some 7:=by kernel_rfl
theorem bG:ck Tryz.prog 3=some 1:=by kernel_rfl
theorem Ls:ck Tryz.prog 301=some 1:=by kernel_rfl
theorem yz:ck Tryz.prog 303=some 3:=by kernel_rfl
theorem jS:ck Tryz.prog 306=some 1:=by kernel_rfl
theorem fZ:ck Tryz.prog 31=some 1:=by kernel_rfl
theorem jR:ck Tryz.prog 312=some 256:=by kernel_rfl
theorem cI:ck Tryz.prog 33=some 5:=by kernel_rfl
theorem CL:ck Tryz.prog 333=some 2:=by kernel_rfl
theorem je:ck Tryz.prog 38=some 1:=by kernel_rfl
theorem qo:ck Tryz.prog 4=some 1:=by kernel_rfl
theorem mY:ck Tryz.prog 42=some 1:=by kernel_rfl
theorem eB:ck Tryz.prog 44=some 3:=by kernel_rfl
theorem qI:ck Tryz.prog 47=some 1:=by kernel_rfl
theorem lQ:ck Tryz.prog 49=some 3:=by kernel_rfl
theorem OZ:ck Tryz.prog 5=some 1:=by kernel_rfl
theorem tZ:ck Tryz.prog 59=some 1:=by kernel_rfl
theorem fY:ck Tryz.prog 75=some 4:=by kernel_rfl
theorem jd:ck Tryz.prog 77=some 4:=by kernel_rfl
theorem fo:ck Tryz.prog 79=some 6:=by kernel_rfl
theorem gU:ck Tryz.prog 9=some 1:=by kernel_rfl
theorem kI:ck Tryz.prog 91=some 4:=by kernel_rfl
theorem gJ:ck Tryz.prog 95=some 2:=by kernel_rfl
theorem I2:(Tryz.prog.info? 101).bind (·.zero)=some (.slice none 0 0):=by kernel_rfl
theorem Lj:(Tryz.prog.info? 103).bind (·.zero)=some (.agg #[.int .i64 (0),.int .i32 (0),.slice none 0 0,.int .u8 (0)]):=by kernel_rfl
theorem EY:(Tryz.prog.info? 112).bind (·.zero)=some (.agg #[.pointer none,.slice none 0 0]):=by kernel_rfl
theorem EX:(Tryz.prog.info? 135).bind (·.zero)=some (.agg #[.string ⟨#[]⟩,.slice none 0 0,.int .i64 (0),.string ⟨#[]⟩,.string ⟨#[]⟩]):=by kernel_rfl
theorem EW:(Tryz.prog.info? 144).bind (·.zero)=some (.agg #[.string ⟨#[]⟩,.int .i64 (0),.int .i64 (0),.int .i64 (0),.slice none 0 0,.slice none 0 0,.int .i64 (0),.string ⟨#[]⟩,.int .i64 (0),.int .i64 (0),.int .i64 (0),.string ⟨#[]⟩,.int .i64 (0),.string ⟨#[]⟩,.int .i64 (0),.int .i64 (0),.slice none 0 0,.slice none 0 0,.int .i64 (0)]):=by kernel_rfl
theorem Li:(Tryz.prog.info? 211).bind (·.zero)=some (.agg #[.int .i64 (0),.int .i64 (0)]):=by kernel_rfl
theorem I1:(Tryz.prog.info? 213).bind (·.zero)=some (.agg #[.int .i64 (0),.int .i64 (0),.int .i64 (0)]):=by kernel_rfl
theorem EV:(Tryz.prog.info? 281).bind (·.zero)=some (.agg #[.int .i64 (0),.int .i64 (0),.int .i64 (0)]):=by kernel_rfl
theorem ja:(Tryz.prog.info? 291).bind (·.zero)=some (.agg #[.int .i64 (0),.int .u64 (0),.int .u64 (0),.int .u64 (0),.int .u64 (0),.slice none 0 0]):=by kernel_rfl
theorem NQ:(Tryz.prog.info? 3).bind (·.zero)=some (.int .i64 (0)):=by kernel_rfl
theorem I0:(Tryz.prog.info? 303).bind (·.zero)=some (.agg #[.string ⟨#[]⟩,.int .i64 (0),.int .i64 (0)]):=by kernel_rfl
theorem CB:(Tryz.prog.info? 312).bind (·.zero)=some (.agg (Array.replicate 256 (.int .i64 (0)))):=by kernel_rfl
theorem p6:(Tryz.prog.info? 33).bind (·.zero)=some (.agg #[.int .i64 (0),.int .i64 (0),.slice none 0 0,.int .i64 (0),.int .i64 (0)]):=by kernel_rfl
theorem Lh:(Tryz.prog.info? 38).bind (·.zero)=some (.int .i64 (0)):=by kernel_rfl
theorem Ny:(Tryz.prog.info? 4).bind (·.zero)=some (.bool false):=by kernel_rfl
theorem Du:(Tryz.prog.info? 44).bind (·.zero)=some (.agg #[.int .i64 (0),.int .i64 (0),.slice none 0 0]):=by kernel_rfl
theorem EU:(Tryz.prog.info? 49).bind (·.zero)=some (.agg #[.int .i64 (0),.int .i64 (0),.slice none 0 0]):=by kernel_rfl
theorem NP:(Tryz.prog.info? 59).bind (·.zero)=some (.slice none 0 0):=by kernel_rfl
theorem ET:(Tryz.prog.info? 75).bind (·.zero)=some (.agg #[.int .i64 (0),.string ⟨#[]⟩,.int .i64 (0),.int .i64 (0)]):=by kernel_rfl
theorem Kn:(Tryz.prog.info? 77).bind (·.zero)=some (.agg #[.int .i64 (0),.bool false,.bool false,.bool false]):=by kernel_rfl
theorem Km:(Tryz.prog.info? 79).bind (·.zero)=some (.agg #[.int .i32 (0),.int .i64 (0),.int .i64 (0),.bool false,.bool false,.bool false]):=by kernel_rfl
theorem Kl:(Tryz.prog.info? 91).bind (·.zero)=some (.agg #[.int .i64 (0),.string ⟨#[]⟩,.int .i64 (0),.int .i64 (0)]):=by kernel_rfl
theorem vI:(Tryz.prog.info? 95).bind (·.zero)=some (.agg #[.int .i64 (0),.string ⟨#[]⟩]):=by kernel_rfl
end Go.Proofs.YtdihgdeciopfpaaGreatDoor.H
namespace Go.Proofs.YtdihgdeciopfpaaGreatDoor
open Go.Proofs.Tryz
open Go Go.Lw
set_option maxRecDepth 20000
section
variable {rb n m d lim:Nat}{h h':au}{c a:UInt8}{l r:By}{x:Nd}{M:Nat->Prop}
def rJ:Value:=.iface 358 (.agg #[])
def Cz (c:List PanicEntry):Prop:=c=[{ v:=rJ,recovered:=false }]
def St (h:au) (rb:Nat) (l:By):Prop:=aL h rb 361 [.string (bs l)]
abbrev yb (rb:Nat):Value:=.pointer (some ⟨rb,0,none⟩)
abbrev only (rb:Nat):Nat->Prop:=fun b=>b=rb
def PR {α:Type}(rb:Nat) (h:au) (p:Option (α×By)) (Φ:α->Value->au->Prop):Ending->au->Prop :=
 EH (fun v h'=>∃x r,p=some (x,r)/\Φ x v h'/\St h' rb r/\Ext (only rb) h h') (fun ch h'=>Cz ch/\p=none/\Ext (only rb) h h')
theorem PR.no {α:Type}{p:Option (α×By)}{Φ:α->Value->au->Prop}{c:List PanicEntry}(hc:Cz c) (hp:p=none) (hx:Ext (only rb) h h'):PR rb h p Φ (.panicked c) h':=⟨hc,hp,hx⟩
theorem EH.no {Φ:Value->au->Prop}{X:List PanicEntry->au->Prop}{c:List PanicEntry}(k:X c h):EH Φ X (.panicked c) h:=k
theorem St.cell {h:au}{rb:Nat}{l:By}(k:St h rb l):cellAt h ⟨rb,0,none⟩=some (.string (bs l)):=aL.cell k (i:=0) rfl
theorem St.lt {h:au}{rb:Nat}{l:By}(k:St h rb l):rb<h.size:=aL.lt k
def dR:By->Option (UInt8×By)| []=>none|c::r=>some (c,r)
theorem gX (h:dR l=none):l=[]:=by cases l with|nil=>rfl|cons c r=>cases h
theorem eO (h:dR l=some (c,r)):l=c::r:=by cases l with|nil=>cases h|cons d t=>cases h;rfl
theorem rN (hs:St h rb l):af Tryz.prog 351 #[yb rb] h (bC fun r h'=>r= .int .u8 ((l.head?.getD 0).toNat:Nat)/\h'=h):=by
 refine af.of func351 rfl rfl ?_;refine aQ func351 1 [0,2] rfl ?_;refine ak rfl ?_;refine bg func351 2 rfl ?_;refine xp rfl (aa (off:=0) underlying361 rfl rfl H.gU rfl) ?_;refine xp rfl (ah H.gr rfl hs.cell) ?_;refine xp rfl (ai.eX rfl rfl) ?_;refine xd [0,2,7] rfl ?_;refine aN rfl rfl (fun he=>?_) (fun he=>?_)
 · have hl:l=[]:=ef he;subst hl;refine aQ func351 1 [0,2,7] rfl ?_;refine G.ret func351 rfl rfl ?_;exact⟨_,rfl,rfl,rfl⟩
 · obtain⟨c,r,rfl⟩:=List.exists_cons_of_ne_nil (fun(e:l=[])=>he (by rw[e];rfl));refine az rfl ?_;refine bg func351 2 rfl ?_;refine xp rfl (aa (off:=0) underlying361 rfl rfl H.gU rfl) ?_;refine xp rfl (ah H.gr rfl hs.cell) ?_;refine xp rfl (ai.cH underlying9 rfl rfl 0 rfl (gk rfl)) ?_;refine aM 1 [0,2,7] rfl ?_;refine G.ret func351 rfl rfl ?_;exact⟨_,rfl,rfl,rfl⟩
theorem eN (hs:St h rb l) (hl:l.length<=1000000):af Tryz.prog 352 #[yb rb] h (PR rb h (dR l) fun c v _=>v= .int .u8 (c.toNat:Nat)):=by
 refine af.of func352 rfl rfl ?_;refine aQ func352 1 [0,2] rfl ?_;refine ak rfl ?_;refine bg func352 2 rfl ?_;refine xp rfl (aa (off:=0) underlying361 rfl rfl H.gU rfl) ?_;refine xp rfl (ah H.gr rfl hs.cell) ?_;refine xp rfl (ai.eX rfl rfl) ?_;refine xd [0,2,8] rfl ?_;refine aN rfl rfl (fun he=>?_) (fun he=>?_)
 · have hl:l=[]:=ef he;subst hl;refine G.bB func352 rfl ?_;refine xp rfl (aE (H.fQ ) rfl) ?_;refine xp rfl (bw H.jo rfl) ?_;refine RW.bT rfl rfl rfl (cO (Φ:=fun _ _=>False) rfl (PR.no rfl rfl (Ext.refl _ _))) ?_;rintro _ _ hpn;exact hpn.elim
 · obtain⟨c,r,rfl⟩:=List.exists_cons_of_ne_nil (fun(e:l=[])=>he (by rw[e];rfl));have hz:(bs (c::r)).size=r.length+1:=by rw[aR];rfl
   have hd:=jM (c::r) 1;simp only[List.length_cons] at hl;refine az rfl ?_;refine bg func352 2 rfl ?_;refine xp rfl (aa (off:=0) underlying361 rfl rfl H.gU rfl) ?_;refine xp rfl (ah H.gr rfl hs.cell) ?_;refine xp rfl (ai.cH underlying9 rfl rfl 0 rfl (gk rfl)) ?_;refine aM 1 [0,2,3,8] rfl ?_;refine bg func352 3 rfl ?_;refine xp rfl (aa (off:=0) underlying361 rfl rfl H.gU rfl) ?_;refine xp rfl (ah H.gr rfl hs.cell) ?_;refine xp rfl (ai.dS underlying9 rfl rfl 1 rfl (by omega)) ?_;refine bO 1 rfl rfl (aa (off:=0) underlying361 rfl rfl H.gU rfl) ?_;refine RW.bT rfl rfl rfl (ax.aH H.gU rfl rfl hs (by first|decide|exact of_decide_eq_true rfl|(simp;done)|(simp;omega)) rfl) ?_;rintro _ h1 ⟨rfl,hk,hx,hz1⟩;refine xd [0,2,3,8] rfl ?_;refine aQ func352 2 [0,2,3,8] rfl ?_;refine G.ret func352 rfl rfl ?_;exact⟨c,r,rfl,rfl,by rw[hd] at hk;exact hk,hx⟩
theorem jy (c:UInt8) (hs:St h rb l) (hl:l.length<=1000000):af Tryz.prog 287 #[yb rb,.int .u8 (c.toNat:Nat)] h (bC fun v h' =>
 ((l.head? =some c/\v= .bool true/\St h' rb l.tail)\/(l.head? ≠some c/\v= .bool false/\St h' rb l))/\Ext (only rb) h h'):=by
 refine af.of func287 rfl rfl ?_;refine aQ func287 1 [0,1,4] rfl ?_;refine ak rfl ?_;refine ak rfl ?_;refine G.bH [(18,.bool (decide (l.head? ≠some c)))] [(0,_),(1,_),(4,_)] ⟨rfl,rfl,rfl,trivial⟩ func287 rfl ?_ ?_
 · refine bO 2 rfl rfl (aa (off:=0) underlying361 rfl rfl H.gU rfl) ?_;refine xp rfl (ah H.gr rfl hs.cell) ?_;refine xp rfl (ai.eX rfl rfl) ?_;refine br 1 rfl ?_;refine bI (d:=10) rfl (fun he=>?_) (fun he=>?_)
   · have hl:l=[]:=ef (of_decide_eq_true he);refine br 8 rfl ?_;refine RW.done rfl ?_;exact⟨rfl,aK rfl (by subst hl;simp),rfl,rfl,rfl,trivial⟩
   · obtain⟨d,r,rfl⟩:=List.exists_cons_of_ne_nil (fun(e:l=[])=>(of_decide_eq_false he) (by rw[e];rfl));refine bO 2 rfl rfl (aa (off:=0) underlying361 rfl rfl H.gU rfl) ?_;refine xp rfl (ah H.gr rfl hs.cell) ?_;refine xp rfl (ai.cH underlying9 rfl rfl 0 rfl (gk rfl)) ?_;refine br 3 rfl ?_;refine RW.done rfl ?_;exact⟨rfl,aK rfl (by simp only[List.head?_cons,Option.some.injEq,ne_eq];exact Lq d c),rfl,rfl,rfl,trivial⟩
 · refine aN rfl rfl (fun hn=>?_) (fun hn=>?_)
   · refine aQ func287 1 [0,1,4,18] rfl ?_;refine G.ret func287 rfl rfl ?_;exact⟨_,rfl,.inr ⟨hn,rfl,hs⟩,Ext.refl _ _⟩
   · have hn:=Classical.not_not.1 hn;obtain⟨d,r,rfl⟩:=List.exists_cons_of_ne_nil (fun(e:l=[])=>by rw[e] at hn;cases hn);have hz:(bs (d::r)).size=r.length+1:=by rw[aR];rfl
     have hd:=jM (d::r) 1;simp only[List.length_cons] at hl;refine az rfl ?_;refine bg func287 3 rfl ?_;refine xp rfl (aa (off:=0) underlying361 rfl rfl H.gU rfl) ?_;refine xp rfl (ah H.gr rfl hs.cell) ?_;refine xp rfl (ai.dS underlying9 rfl rfl 1 rfl (by omega)) ?_;refine bO 1 rfl rfl (aa (off:=0) underlying361 rfl rfl H.gU rfl) ?_;refine RW.bT rfl rfl rfl (ax.aH H.gU rfl rfl hs (by first|decide|exact of_decide_eq_true rfl|(simp;done)|(simp;omega)) rfl) ?_;rintro _ h1 ⟨rfl,hk,hx,hz1⟩;refine xd [0,1,4,18] rfl ?_;refine aQ func287 1 [0,1,4,18] rfl ?_;refine G.ret func287 rfl rfl ?_;exact⟨_,rfl,.inl ⟨hn,rfl,by rw[hd] at hk;exact hk⟩,hx⟩
theorem rP (c:UInt8) (hs:St h rb l) (hl:l.length<=1000000):af Tryz.prog 356 #[yb rb,.int .u8 (c.toNat:Nat)] h (PR rb h (if l.head? =some c then some ((),l.tail) else none) fun _ _ _=>True):=by
 refine af.of func356 rfl rfl ?_;refine bg func356 2 rfl ?_;refine xo rfl (aj (vs:=[_,_]) func287 rfl H.CZ rfl (af.aX (jy c hs hl))) ?_;rintro _ h1 ⟨hor,hx⟩
 rcases hor with ⟨h1,rfl,h2⟩|⟨h1,rfl,h2⟩
 · refine aM 1 [0,1,7] rfl ?_;refine ay rfl rfl (fun hc=>absurd hc (by decide)) (fun _=>?_);refine az rfl ?_;refine G.gN func356 rfl ?_;exact⟨(),_,if_pos h1,trivial,h2,hx⟩
 · refine aM 1 [0,1,7] rfl ?_;refine ay rfl rfl (fun _=>?_) (fun hc=>absurd hc (by decide));refine G.bB func356 rfl ?_;refine xp rfl (aE (H.fQ ) rfl) ?_;refine xp rfl (bw H.jo rfl) ?_;refine RW.bT rfl rfl rfl (cO (Φ:=fun _ _=>False) rfl (PR.no rfl (if_neg h1) hx)) ?_;rintro _ _ hpn;exact hpn.elim
theorem kM (x:UInt8):af Tryz.prog 73 #[.string ⟨#[40,41,91,93,124,42,43,63,46,92,45,94]⟩,.int .u8 (x.toNat:Nat)] h (bC fun r h'=>r= .int .i64 (Lib.indexByte eD x)/\h'=h) :=
 (eH _ _).ret fun _ _ ⟨ho,he⟩=>⟨by rw[ho];simp[eD],he⟩
theorem iF:∀x:UInt8,(0<=Lib.indexByte eD x)↔x∈eD:=by
 have h:∀n:Fin 256,(0<=Lib.indexByte eD (UInt8.ofNat n.val))↔(UInt8.ofNat n.val)∈eD:=by decide +kernel
 intro x;have:=h ⟨x.toNat,x.toNat_lt⟩;simpa using this
def w8:By:=[48,49,50,51,52,53,54,55,56,57,97,98,99,100,101,102]
theorem w7 (x:UInt8):af Tryz.prog 73 #[.string ⟨#[48,49,50,51,52,53,54,55,56,57,97,98,99,100,101,102]⟩,.int .u8 (x.toNat:Nat)] h (bC fun r h'=>r= .int .i64 (Lib.indexByte w8 x)/\h'=h) :=
 (eH _ _).ret fun _ _ ⟨ho,he⟩=>⟨by rw[ho];simp[w8],he⟩
theorem HT:∀n:Fin 256,IntKind.u8.wrap ((BitVec.ofInt IntKind.u8.bits (n.val:Int) |||BitVec.ofInt IntKind.u8.bits 32).toNat)=(((UInt8.ofNat n.val) ||| 32).toNat:Nat):=by decide +kernel
theorem low (x:UInt8):IntKind.u8.wrap ((BitVec.ofInt IntKind.u8.bits (x.toNat:Int) |||BitVec.ofInt IntKind.u8.bits 32).toNat)=((x ||| 32).toNat:Nat):=by
 have:=HT ⟨x.toNat,x.toNat_lt⟩;simpa using this
theorem Ix:∀n:Fin 256,jG (UInt8.ofNat n.val)=if Lib.indexByte w8 ((UInt8.ofNat n.val) ||| 32)<0\/n.val<48 then none else some (Lib.indexByte w8 ((UInt8.ofNat n.val) ||| 32)).toNat:=by decide +kernel
theorem O5 (x:UInt8):jG x=if Lib.indexByte w8 (x ||| 32)<0\/x.toNat<48 then none else some (Lib.indexByte w8 (x ||| 32)).toNat:=by
 have:=Ix ⟨x.toNat,x.toNat_lt⟩;simpa using this
theorem D9 {x:UInt8}(h:jG x=some n):n<16:=by
 unfold jG at h;split at h
 · cases h;omega
 · split at h
   · cases h;omega
   · split at h
     · cases h;omega
     · cases h
theorem pR (x:UInt8):af Tryz.prog 365 #[.int .u8 (x.toNat:Nat)] h (EH (fun v h'=>∃n:Nat,jG x=some n/\n<16/\v= .int .u8 n/\h'=h) (fun ch h'=>Cz ch/\jG x=none/\h'=h)):=by
 have hd:=O5 x;refine af.of func365 rfl rfl ?_;refine aQ func365 1 [0,2] rfl ?_;refine bg func365 1 rfl ?_;refine xp rfl (ai.xP rfl rfl) ?_;refine xo rfl (aj (vs:=[_,_]) func73 rfl H.DY rfl (af.aX ((low x▸w7 (x ||| 32))))) ?_;rintro _ _ ⟨rfl,rfl⟩;refine aM 1 [0,2,3] rfl ?_;refine ak rfl ?_;refine ak rfl ?_;refine G.bH [(12,.bool (decide (Lib.indexByte w8 (x ||| 32)<0\/x.toNat<48)))] [(0,_),(2,_),(3,_)] ⟨rfl,rfl,rfl,trivial⟩ func365 rfl ?_ ?_
 · refine br 3 rfl ?_;refine bI (d:=9) rfl (fun hg=>?_) (fun hg=>?_)
   · refine br 3 rfl ?_;refine RW.done rfl ?_;exact⟨rfl,aK rfl (by have:=of_decide_eq_true hg;simp[this]),rfl,rfl,rfl,trivial⟩
   · refine br 3 rfl ?_;refine RW.done rfl ?_;exact⟨rfl,aK rfl (by have:=of_decide_eq_false hg;simp only[decide_eq_decide];omega),rfl,rfl,rfl,trivial⟩
 · refine aN rfl rfl (fun hn=>?_) (fun hn=>?_)
   · rw[if_pos hn] at hd;refine G.bB func365 rfl ?_;refine xp rfl (aE (H.fQ ) rfl) ?_;refine xp rfl (bw H.jo rfl) ?_;refine RW.bT rfl rfl rfl (cO (Φ:=fun _ _=>False) rfl (EH.no ⟨rfl,hd,rfl⟩)) ?_;rintro _ _ hpn;exact hpn.elim
   · rw[if_neg hn] at hd;have h16:=D9 hd;refine az rfl ?_;refine bg func365 1 rfl ?_;refine xp rfl (ai.qx underlying3 underlying5 rfl) ?_;refine aM 1 [0,2,3,12] rfl ?_;refine G.ret func365 rfl rfl ?_;refine⟨_,hd,h16,?_,rfl⟩
     show Value.int .u8 _=_
     congr 1
     have:IntKind.u8.wrap (Lib.indexByte w8 (x ||| 32))=Lib.indexByte w8 (x ||| 32):=wrap_u8 (by omega);rw[this];omega
theorem Gd:∀m n:Fin 16,IntKind.u8.wrap ((BitVec.ofInt IntKind.u8.bits (IntKind.u8.wrap ((m.val:Int)*2 ^ min (4:Int).toNat IntKind.u8.bits)) |||BitVec.ofInt IntKind.u8.bits (n.val:Int)).toNat)=((UInt8.ofNat (m.val*16+n.val)).toNat:Nat):=by decide +kernel
theorem OE (hm:m<16) (hn:n<16):IntKind.u8.wrap ((BitVec.ofInt IntKind.u8.bits (IntKind.u8.wrap ((m:Int)*2 ^ min (4:Int).toNat IntKind.u8.bits)) |||BitVec.ofInt IntKind.u8.bits (n:Int)).toNat)=((UInt8.ofNat (m*16+n)).toNat:Nat):=Gd ⟨m,hm⟩ ⟨n,hn⟩
theorem KO {x:UInt8}(t:By) (h:jG x=none):nL (120::x::t)=none:=by
 unfold nL;cases t with
 |nil=>rfl
 |cons y t=>simp[h]
theorem mh (hs:St h rb l) (hl:l.length<=1000000):af Tryz.prog 359 #[yb rb] h (PR rb h (nL l) fun c v _=>v= .int .u8 (c.toNat:Nat)):=by
 refine af.of func359 rfl rfl ?_;refine aQ func359 1 [0,2] rfl ?_;refine ak rfl ?_;refine bg func359 1 rfl ?_;refine xo rfl (aj (vs:=[_]) func352 rfl H.rL rfl (af.iA (eN hs hl) ((fun _ _ ⟨hc,hp,hx⟩=>PR.no hc (by rw[gX hp];rfl) hx)))) ?_;rintro _ h1 ⟨c,r,hp,rfl,hs1,hx1⟩;refine aM 1 [0,2,3] rfl ?_;refine G.block rfl rfl ?_;refine aQ func359 3 [0,2,3,7] rfl ?_;obtain rfl:=eO hp;simp only[List.length_cons] at hl;refine aN rfl rfl (fun e1=>?_) (fun e1=>?_)
 · have e1:c=110:=(cF rfl).1 e1;refine aQ func359 1 [0,2,3,7] rfl ?_;refine G.ret func359 rfl rfl ?_;exact⟨10,r,by unfold nL;simp[e1],rfl,hs1,hx1⟩
 · have e1:¬c=110:=fun e=>e1 ((cF rfl).2 e)
   refine aQ func359 3 [0,2,3,7,10] rfl ?_;refine aN rfl rfl (fun e2=>?_) (fun e2=>?_)
   · have e2:c=116:=(cF rfl).1 e2;refine aQ func359 1 [0,2,3,7,10] rfl ?_;refine G.ret func359 rfl rfl ?_;exact⟨9,r,by unfold nL;simp[e2],rfl,hs1,hx1⟩
   · have e2:¬c=116:=fun e=>e2 ((cF rfl).2 e)
     refine aQ func359 3 [0,2,3,7,10,13] rfl ?_;refine aN rfl rfl (fun e3=>?_) (fun e3=>?_)
     · have e3:c=114:=(cF rfl).1 e3;refine aQ func359 1 [0,2,3,7,10,13] rfl ?_;refine G.ret func359 rfl rfl ?_;exact⟨13,r,by unfold nL;simp[e3],rfl,hs1,hx1⟩
     · have e3:¬c=114:=fun e=>e3 ((cF rfl).2 e)
       refine aQ func359 3 [0,2,3,7,10,13,16] rfl ?_;refine aN rfl rfl (fun e4=>?_) (fun e4=>?_)
       · have e4:c=120:=(cF rfl).1 e4;subst e4;refine bg func359 1 rfl ?_;refine xo rfl (aj (vs:=[_]) func352 rfl H.rL rfl (af.iA (eN hs1 (by omega)) ((fun _ _ ⟨hc,hp,hx⟩=>PR.no hc (by rw[gX hp];rfl) (hx1.trans hx))))) ?_;rintro _ h2 ⟨x,r2,hp2,rfl,hs2,hx2⟩;refine xo rfl (aj (vs:=[_]) func365 rfl H.Jh rfl (af.iA (pR x) ((fun _ h' ⟨hc,hq,hh⟩=>PR.no hc (by obtain rfl:=eO hp2;exact KO _ hq) (by subst hh;exact hx1.trans hx2))))) ?_;rintro _ _ ⟨m,hm,hm16,rfl,rfl⟩;refine aM 1 [0,2,3,4,7,10,13,16] rfl ?_;refine bg func359 1 rfl ?_;refine xp rfl (Dq rfl rfl (by omega)) ?_;refine br 1 rfl ?_;obtain rfl:=eO hp2;simp only[List.length_cons] at hl;refine xo rfl (aj (vs:=[_]) func352 rfl H.rL rfl (af.iA (eN hs2 (by omega)) ((fun _ _ ⟨hc,hp,hx⟩=>PR.no hc (by rw[gX hp];rfl) ((hx1.trans hx2).trans hx))))) ?_;rintro _ h3 ⟨y,r3,hp3,rfl,hs3,hx3⟩;refine xo rfl (aj (vs:=[_]) func365 rfl H.Jh rfl (af.iA (pR y) ((fun _ h' ⟨hc,hq,hh⟩=>PR.no hc (by obtain rfl:=eO hp3;unfold nL;simp[hm,hq]) (by subst hh;exact(hx1.trans hx2).trans hx3))))) ?_;rintro _ _ ⟨n,hn,hn16,rfl,rfl⟩;refine xp rfl (ai.xP rfl rfl) ?_;refine aM 1 [0,2,3,4,7,10,13,16] rfl ?_;obtain rfl:=eO hp3;refine G.ret func359 rfl rfl ?_;exact⟨UInt8.ofNat (m*16+n),r3,by unfold nL;simp[hm,hn],by show Value.int _ _=_;rw[OE hm16 hn16],hs3,(hx1.trans hx2).trans hx3⟩
       · have e4:¬c=120:=fun e=>e4 ((cF rfl).2 e)
         refine bg func359 1 rfl ?_;refine xo rfl (aj (vs:=[_,_]) func73 rfl H.DY rfl (af.aX (kM c))) ?_;rintro _ _ ⟨rfl,rfl⟩;refine aM 2 [0,2,3,7,10,13,16,28] rfl ?_;refine aN rfl rfl (fun e5=>?_) (fun e5=>?_)
         · have e5:=(iF c).1 e5;refine aQ func359 2 [0,2,3,7,10,13,16,28] rfl ?_;refine G.ret func359 rfl rfl ?_;exact⟨c,r,by unfold nL;simp[e1,e2,e3,e4,e5],rfl,hs1,hx1⟩
         · have e5:¬c∈eD:=fun e=>e5 ((iF c).2 e)
           refine az rfl ?_;refine G.aJ ?_;refine G.bB func359 rfl ?_;refine xp rfl (aE (H.fQ ) rfl) ?_;refine xp rfl (bw H.jo rfl) ?_;refine RW.bT rfl rfl rfl (cO (Φ:=fun _ _=>False) rfl (PR.no rfl (by unfold nL;simp[e1,e2,e3,e4,e5]) hx1)) ?_;rintro _ _ hpn;exact hpn.elim
theorem nC (hs:St h rb l) (hl:l.length<=1000000):af Tryz.prog 364 #[yb rb] h (PR rb h (mE l) fun c v _=>v= .int .u8 (c.toNat:Nat)):=by
 refine af.of func364 rfl rfl ?_;refine aQ func364 1 [0,2] rfl ?_;refine bg func364 1 rfl ?_;refine xo rfl (aj (vs:=[_]) func352 rfl H.rL rfl (af.iA (eN hs hl) ((fun _ _ ⟨hc,hp,hx⟩=>PR.no hc (by rw[gX hp];rfl) hx)))) ?_;rintro _ h1 ⟨c,r,hp,rfl,hs1,hx1⟩;refine aM 1 [0,2,3] rfl ?_;refine ak rfl ?_;refine G.block rfl rfl ?_;refine aQ func364 3 [0,2,3,6] rfl ?_;obtain rfl:=eO hp;simp only[List.length_cons] at hl;refine aN rfl rfl (fun e1=>?_) (fun e1=>?_)
 · have e1:c=92:=(cF rfl).1 e1;refine bg func364 1 rfl ?_;refine xo rfl (aj (vs:=[_]) func359 rfl H.Jj rfl (af.iA (mh hs1 (by omega)) ((fun _ _ ⟨hc,hp,hx⟩=>PR.no hc (by unfold mE;simp[e1,hp]) (hx1.trans hx))))) ?_;rintro _ h2 ⟨d,r2,hp2,rfl,hs2,hx2⟩;refine aM 1 [0,2,3,6] rfl ?_;refine G.ret func364 rfl rfl ?_;exact⟨d,r2,by unfold mE;simp[e1,hp2],rfl,hs2,hx1.trans hx2⟩
 · have e1:¬c=92:=fun e=>e1 ((cF rfl).2 e)
   refine bg func364 1 rfl ?_;refine xo rfl (aj (vs:=[_,_]) func73 rfl H.DY rfl (af.aX (kM c))) ?_;rintro _ _ ⟨rfl,rfl⟩;refine aM 2 [0,2,3,6,11] rfl ?_;refine aN rfl rfl (fun e5=>?_) (fun e5=>?_)
   · have e5:=(iF c).1 e5;refine G.bB func364 rfl ?_;refine xp rfl (aE (H.fQ ) rfl) ?_;refine xp rfl (bw H.jo rfl) ?_;refine RW.bT rfl rfl rfl (cO (Φ:=fun _ _=>False) rfl (PR.no rfl (by unfold mE;simp[e1,e5]) hx1)) ?_;rintro _ _ hpn;exact hpn.elim
   · have e5:¬c∈eD:=fun e=>e5 ((iF c).2 e)
     refine az rfl ?_;refine G.aJ ?_;refine aQ func364 2 [0,2,3,6,11] rfl ?_;refine G.ret func364 rfl rfl ?_;exact⟨c,r,by unfold mE;simp[e1,e5],rfl,hs1,hx1⟩
theorem FL (k s:Nat) (v:Value) (i:Nat) (hi:i<256):(cX k s v).set (1+i / 64*1) (.int .u64 ((A6 s (i / 64) ||| 2 ^ (i%64):Nat):Int))=cX k (s |||(1 <<< i)) v:=by
 have h4:i / 64<4:=by omega
 have hw:=E1 s i;have hs:∀q,q≠i / 64->dH (s |||(1 <<< i)) q=dH s q:=fun q hq=>by unfold dH;rw[E2 s i q hq]
 have he:dH (s |||(1 <<< i)) (i / 64)= .int .u64 ((A6 s (i / 64) ||| 2 ^ (i%64):Nat):Int):=by unfold dH;rw[hw]
 rw[<-he];generalize i / 64=q at *;unfold cX
 match q,h4 with
 | 0,_=>rw[hs 1 (by decide),hs 2 (by decide),hs 3 (by decide)];rfl
 | 1,_=>rw[hs 0 (by decide),hs 2 (by decide),hs 3 (by decide)];rfl
 | 2,_=>rw[hs 0 (by decide),hs 1 (by decide),hs 3 (by decide)];rfl
 | 3,_=>rw[hs 0 (by decide),hs 1 (by decide),hs 2 (by decide)];rfl
theorem FK (k s:Nat) (v:Value) (q:Nat) (hq:q<4):(cX k s v)[1+q*1]? =some (dH s q):=by
 match q,hq with
 | 0,_=>rfl
 | 1,_=>rfl
 | 2,_=>rfl
 | 3,_=>rfl
theorem Kx {w i:Nat}(hw:w<18446744073709551616):IntKind.u64.wrap ((BitVec.ofInt IntKind.u64.bits (w:Int) |||BitVec.ofInt IntKind.u64.bits (IntKind.u64.wrap (1*2 ^ min (((i:Int)).tmod 64).toNat IntKind.u64.bits))).toNat:Int)=((w ||| 2 ^ (i%64):Nat):Int):=by
 have h1:((i:Int)).tmod 64=((i%64:Nat):Int):=by rw[Int.tmod_eq_emod_of_nonneg (by omega)];omega
 have hb:i%64<64:=Nat.mod_lt _ (by decide);have h2:2 ^ (i%64)<2 ^ 64:=Nat.pow_lt_pow_right (by decide) hb;rw[h1,LA,NW hw h2]
theorem Bk (s i n:Nat) (h:0<n):uN s i n=uN (s |||(1 <<< i)) (i+1) (n-1):=by
 cases n with
 |zero=>omega
 |succ n=>rfl
theorem fH {nb k s:Nat}{v:Value}(hk:aL h nb 291 (cX k s v)) (a b:UInt8):af Tryz.prog 358 #[.pointer (some ⟨nb,1,none⟩),.int .u8 (a.toNat:Nat),.int .u8 (b.toNat:Nat)] h (bC fun _ h' =>
 aL h' nb 291 (cX k (lZ s a b) v)/\Ext (only nb) h h'):=by
 have ha:=a.toNat_lt;have hb:=b.toNat_lt;refine af.of func358 rfl rfl ?_;refine bg func358 1 rfl ?_;refine xp rfl (ai.fP underlying5 underlying3 rfl (wrap_i64 ⟨by omega,by omega⟩)) ?_;refine aM 1 [0,1,2,6] rfl ?_;refine G.block rfl rfl ?_;refine bf (σ:=Nat×Nat) (fun q=>[(0,.pointer (some ⟨nb,1,none⟩)),(2,.int .u8 (b.toNat:Nat)),(6,.int .i64 (q.1:Nat))]) (fun q h'=>aL h' nb 291 (cX k q.2 v)/\Ext (only nb) h h'/\q.1<=256/\uN q.2 q.1 (b.toNat+1-q.1)=lZ s a b) (fun q=>b.toNat+1-q.1) ((a.toNat,s)) rfl ⟨rfl,rfl,rfl,trivial⟩ ⟨hk,Ext.refl _ _,by show a.toNat<=256;omega,rfl⟩ ?_;rintro⟨i,s'⟩ h1 ⟨hk1,hx1,hi,hsp⟩ ih
 try dsimp only
 dsimp only at hk1 hi hsp;refine ak rfl ?_;refine bg func358 2 rfl ?_;refine xp rfl (ai.fP underlying5 underlying3 rfl (wrap_i64 ⟨by omega,by omega⟩)) ?_;refine aM 1 [0,2,6,12] rfl ?_;refine aN rfl rfl (fun hle=>?_) (fun hle=>?_)
 · have hi255:i<=b.toNat:=by omega
   rw[Bk _ _ _ (by omega)] at hsp;have hq:i / 64<4:=by omega
   have hdiv:IntKind.i64.wrap (((i:Int)).tdiv 64)=((i / 64:Nat):Int):=by
    rw[Int.tdiv_eq_ediv_of_nonneg (by omega),wrap_i64 ⟨by omega,by omega⟩];omega
   have hw:=A5 s' (i / 64);have hset:=FL k s' v i (by omega);have hk1':aL h1 nb 291 [.int .i64 k,dH s' 0,dH s' 1,dH s' 2,dH s' 3,v]:=hk1;refine az rfl ?_;refine ak rfl ?_;refine G.block rfl rfl ?_;refine bK (fun b=>Array.size h1<=b) (fun i=>Nat.blt i 12) (sz:=13) (listed:= #[false,false,false,false,false,false,false,false,false,false,false,false,false]) func358 H.mixed rfl rfl rfl ?_;refine bu 0 1 (by kernel_rfl) rfl ?_;refine bu 1 3 (by kernel_rfl) rfl ?_;refine bn 2 7 (by kernel_rfl) rfl (fun h' e=>iN rfl rfl (by decide)) ?_;refine bu 3 15 (by kernel_rfl) rfl ?_;refine bn 4 31 (by kernel_rfl) rfl (fun h' e=>ai.dZ underlying288 H.qJ rfl rfl (i / 64) hdiv hq) ?_;refine bn 5 63 (by kernel_rfl) rfl (fun h' e=>ah H.G4 rfl (e.old (hk1.cell (FK k s' v _ hq)))) ?_;refine bu 6 127 (by kernel_rfl) rfl ?_;refine bn 7 255 (by kernel_rfl) rfl (fun h' e=>iM rfl rfl (by decide)) ?_;refine bn 8 511 (by kernel_rfl) rfl (fun h' e=>Dq rfl rfl (by rw[Int.tmod_eq_emod_of_nonneg (by omega)];omega)) ?_;refine bn 9 1023 (by kernel_rfl) rfl (fun h' e=>ai.xP rfl rfl) ?_;refine cE 10 2047 (by kernel_rfl) rfl (ai.aX (aV rfl)) ?_;rintro _ hq_ ⟨rfl,hqe_⟩;replace hqe_:=hqe_.symm;subst hqe_;refine⟨fun _=>Ext.refl _ _,?_⟩;refine bn 11 4095 (by kernel_rfl) rfl (fun h' e=>ai.dZ underlying288 H.qJ rfl rfl (i / 64) hdiv hq) ?_;refine jP 12 8191 (by kernel_rfl) rfl (ax.aH H.qJ rfl rfl hk1' (by first|decide|exact of_decide_eq_true rfl|(simp;done)|(simp;omega)) rfl) ?_;rintro _ h2 ⟨rfl,hk2,hx2,hz2⟩;refine⟨fun hk=>(nomatch hk),?_⟩;refine RD.done (by kernel_rfl) ?_;refine xu [0,2,6,12] rfl ?_;refine G.aJ ?_;refine G.bB func358 rfl ?_;refine bO 1 rfl rfl (ai.aT rfl rfl ⟨by omega,by omega⟩) ?_;refine aM 1 [0,2,6,12] rfl ?_;rw[Kx hw,show [.int .i64 (k:Int),dH s' 0,dH s' 1,dH s' 2,dH s' 3,v]=cX k s' v from rfl,hset] at hk2;exact ih (i+1,s' |||(1 <<< i)) _ _ ⟨rfl,rfl,rfl,trivial⟩ ⟨hk2,hx1.trans hx2,by show i+1<=256;omega,by show uN _ (i+1) (b.toNat+1-(i+1))=_;rw[<-hsp];rfl⟩ (by show b.toNat+1-(i+1)<b.toNat+1-i;omega)
 · have h0:b.toNat+1-i=0:=by omega
   rw[h0] at hsp;refine aW rfl rfl ?_;refine G.gN func358 rfl ?_;exact⟨_,rfl,by rw[<-hsp];exact hk1,hx1⟩
theorem Ea (s:Nat) (b:UInt8):af Tryz.prog 244 #[.agg (sS s).toArray,.int .u8 (b.toNat:Nat)] h (bC fun r h'=>r= .bool (s.testBit b.toNat)/\av h h'):=by
 have hb:=b.toNat_lt;have hq:b.toNat / 64<4:=by omega
 have hdiv:IntKind.u8.wrap (((b.toNat:Int)).tdiv 64)=((b.toNat / 64:Nat):Int):=by
  rw[Int.tdiv_eq_ediv_of_nonneg (by omega),wrap_u8 (by omega)];omega
 have hmod:((b.toNat:Int)).tmod 64=((b.toNat%64:Nat):Int):=by rw[Int.tmod_eq_emod_of_nonneg (by omega)];omega
 have hm64:b.toNat%64<64:=Nat.mod_lt _ (by decide)
 have hword:∀q,q<4->(sS s)[0+q*1]? =some (dH s q):=fun q hq=>by
  match q,hq with
  | 0,_=>rfl
  | 1,_=>rfl
  | 2,_=>rfl
  | 3,_=>rfl
 refine af.of func244 rfl rfl ?_;refine xr func244 rfl ?_;refine xo rfl (ax.cq rfl) ?_;rintro _ h1 ⟨rfl,hk,he,hz⟩;refine aM 1 [0,1,2,4] rfl ?_;refine bg func244 1 rfl ?_;refine xp rfl (iN rfl rfl (by decide)) ?_;have hk:aL h1 h.size 288 (sS s):=hk;refine xp rfl (ai.dZ underlying288 H.qJ rfl rfl (b.toNat / 64) hdiv hq) ?_;refine xp rfl (ah H.G4 rfl (hk.cell (hword _ hq))) ?_;refine bO 1 rfl rfl (iM rfl rfl (by decide)) ?_;refine xp rfl (Dp rfl rfl (by rw[hmod];omega)) ?_;refine xp rfl (ai.GM rfl rfl) ?_;refine aM 2 [0,1,2,4] rfl ?_;refine G.ret func244 rfl rfl ?_;refine⟨_,rfl,?_,he⟩;rw[hmod,Lz _ _ hm64,OM (Nat.lt_of_le_of_lt (Nat.shiftRight_le _ _) (A5 s _)),Hz];cases s.testBit b.toNat<;>rfl
theorem iD.only {h0:au}{g:Nat}(e:Ext M h0 h) (x:Ext (fun b=>b=g) h h') (hg:h0.size<=g):Ext M h0 h' :=
 ⟨Nat.le_trans e.size x.size,fun b hb hm=>by rw[x.block b (Nat.lt_of_lt_of_le hb e.size) (by omega)];exact e.block b hb hm⟩
theorem iD.aq {h0:au}(e:Ext M h0 h) (x:av h h'):Ext M h0 h':=e.trans (av.of x)
theorem qZ:∀(n m acc:Nat) (s:By),s.length<n->s.length<m->jV n acc s=jV m acc s
 | 0,_,_,_,h,_=>by omega
 |_,0,_,_,_,h=>by omega
 |n+1,m+1,acc,s,hn,hm=>by
  rw[jV,jV];cases hf:dO s with
  |none=>rfl
  |some p =>
   obtain⟨⟨a,b⟩,r⟩:=p;have hlen:=kW hf;simp only;split
   · rfl
   · exact qZ n m _ _ (by omega) (by omega)
def mj (first:Bool) (acc:Nat) (l:By):Option (Nat×By):=if first=false/\l.head? =some 93 then some (acc,l.tail) else jV (l.length+1) acc l
theorem mN {first:Bool}{acc:Nat}(h:¬(first=false/\l.head? =some 93)) (hf:dO l=none):mj first acc l=none:=by
 unfold mj;rw[if_neg h,jV,hf]
theorem sX {first:Bool}{acc:Nat}{b:UInt8}(h:¬(first=false/\l.head? =some 93)) (hf:dO l=some ((a,b),r)):mj first acc l=mj false (lZ acc a b) r:=by
 have hlen:=kW hf;unfold mj;rw[if_neg h,jV,hf];simp only[true_and];split
 · simp
 · rename_i hne
   rw[if_neg (fun e=>by
    cases r with
    |nil=>cases e
    |cons c t=>simp at e;subst e;exact hne t rfl)]
   exact qZ _ _ _ _ (by omega) (by omega)
theorem M3 (h:mE l=none):dO l=none:=by unfold dO;rw[h]
theorem M1 (h:mE l=some (a,r)) (hr:r.head? ≠some 45):dO l=some ((a,a),r):=by
 unfold dO;rw[h];simp only;split
 · exact absurd rfl hr
 · rfl
theorem M0 (h:mE l=some (a,r)) (hr:r.head? =some 45) (hb:mE r.tail=none):dO l=none:=by
 unfold dO;rw[h];cases r with
 |nil=>cases hr
 |cons c t=>simp at hr;subst hr;simp at hb;simp[hb]
theorem MZ {r':By}{b:UInt8}(h:mE l=some (a,r)) (hr:r.head? =some 45) (hb:mE r.tail=some (b,r')):dO l=if b.toNat<a.toNat then none else some ((a,b),r'):=by
 unfold dO;rw[h];cases r with
 |nil=>cases hr
 |cons c t=>simp at hr;subst hr;simp at hb;simp[hb]
theorem uq (l:By):gm l=(mj true 0 (if l.head? =some 94 then l.tail else l)).map fun p=>(.mk 1 (if l.head? =some 94 then kR p.1 else p.1) [],p.2):=by
 unfold gm mj;split
 · simp
 · rename_i hne
   have h1:l.head? ≠some 94:=fun e=>by
    cases l with
    |nil=>cases e
    |cons c t=>simp at e;subst e;exact hne t rfl
   simp[h1]
theorem Hy (s q:Nat) (hq:q<4):A6 (kR s) q=18446744073709551615 ^^^ A6 s q:=by
 apply Nat.eq_of_testBit_eq
 intro i;rw[jv,Nat.testBit_xor,jv];unfold kR;rw[Nat.testBit_xor,show G2=2 ^ 256-1 from rfl,Nat.testBit_two_pow_sub_one,show (18446744073709551615:Nat)=2 ^ 64-1 from rfl,Nat.testBit_two_pow_sub_one]
 by_cases hi:i<64
 · have:64*q+i<256:=by omega
   simp[hi,this]
 · simp[hi]
theorem Ll {x:Nat}(hx:x<18446744073709551616):IntKind.u64.wrap ((BitVec.ofInt IntKind.u64.bits (if IntKind.u64.signed then -1 else IntKind.u64.max) ^^^ BitVec.ofInt IntKind.u64.bits (x:Int)).toNat:Int)=((18446744073709551615 ^^^ x:Nat):Int):=by
 have e:(BitVec.ofInt IntKind.u64.bits (if IntKind.u64.signed then -1 else IntKind.u64.max) ^^^ BitVec.ofInt IntKind.u64.bits (x:Int)).toNat=18446744073709551615 ^^^ x:=by
  rw[BitVec.toNat_xor]
  have h1:(BitVec.ofInt IntKind.u64.bits (x:Int)).toNat=x:=by
   show (BitVec.ofInt 64 (x:Int)).toNat=x
   simp only[BitVec.toNat_ofInt];omega
  rw[h1];rfl
 rw[e];have:18446744073709551615 ^^^ x<2 ^ 64:=Nat.xor_lt_two_pow (by decide) hx;exact jb ⟨by omega,by omega⟩
def zo (s q i:Nat):Value:=if i<q then dH (kR s) i else dH s i
def KG (s q:Nat):List Value:=[.int .i64 1,zo s q 0,zo s q 1,zo s q 2,zo s q 3,.slice none 0 0]
theorem FJ (s q:Nat) (hq:q<4):(KG s q)[1+q*1]? =some (dH s q):=by
 match q,hq with
 | 0,_=>rfl
 | 1,_=>rfl
 | 2,_=>rfl
 | 3,_=>rfl
theorem HS (s q:Nat) (hq:q<4):(KG s q).set (1+q*1) (.int .u64 ((18446744073709551615 ^^^ A6 s q:Nat):Int))=KG s (q+1):=by
 rw[<-Hy s q hq]
 match q,hq with
 | 0,_=>rfl
 | 1,_=>rfl
 | 2,_=>rfl
 | 3,_=>rfl
abbrev Dg (n:Nat):Nat->Prop:=fun b=>b<n
def Cw (n:Nat) (x:Nd) (v:Value) (h':au):Prop:=∃w,v= .agg (cX x.kind x.set w).toArray/\bS h' (Dg n) (cX x.kind x.set w) x
theorem er (h:au) (O:Nat->Prop) (k s:Nat):bS h O (cX k s (.slice none 0 0)) (.mk k s []):=.of k s (bF.nil _ _ _)
theorem uo (hs:St h rb l) (hl:l.length<=1000000):af Tryz.prog 357 #[yb rb] h (PR rb h (gm l) (Cw h.size)):=by
 have hlt:=hs.lt;have hbr:=uq l;refine af.of func357 rfl rfl ?_;refine xr func357 rfl ?_;refine xo rfl (ax.aO H.ja) ?_;rintro _ h1 ⟨rfl,hkr,he1,hz1⟩;refine xd [0,2] rfl ?_;refine xr func357 rfl ?_;refine xp rfl (aE (H.Dk _) rfl) ?_;refine xo rfl (ax.aO H.ja) ?_;rintro _ h2 ⟨rfl,hk2,he2,hz2⟩;refine RW.bT rfl rfl rfl (ax.aB H.bV rfl rfl hk2 (by first|rfl|(simp;done)|(simp;omega)) (by first|decide|exact of_decide_eq_true rfl|(simp;done)|(simp;omega)) (by first|decide|simp[Value.oneCell'])) ?_;rintro _ h3 ⟨rfl,hk3,hx3,hz3⟩;have hk3:aL h3 h1.size 291 (cX 1 0 (.slice none 0 0)):=hk3;have hkr:aL h1 h.size 291 (cX 0 0 (.slice none 0 0)):=hkr;have e3:av h h3:=av.only (he1.trans he2) hx3 (by omega);have hkr3:aL h3 h.size 291 (cX 0 0 (.slice none 0 0)):=(hkr.aq he2).ext hx3 (by show ¬_=_;omega);have hs3:St h3 rb l:=aL.aq hs e3;refine xd [0,2,3] rfl ?_;refine bg func357 1 rfl ?_;refine xo rfl (aj (vs:=[_,_]) func287 rfl H.CZ rfl (af.aX (jy 94 hs3 hl))) ?_;rintro _ h4 ⟨hor,hx4⟩
 obtain⟨nt,l1,rfl,hnt,hl1,hs4⟩:∃(nt:Bool) (l1:By),_=Value.bool nt/\nt=decide (l.head? =some 94)/\l1=(if l.head? =some 94 then l.tail else l)/\St h4 rb l1:=by
  rcases hor with ⟨a1,a2,a3⟩|⟨a1,a2,a3⟩
  · exact⟨true,_,a2,by simp[a1],by rw[if_pos a1],a3⟩
  · exact⟨false,_,a2,by simp[a1],by rw[if_neg a1],a3⟩
 rw[<-hl1] at hbr;have hl1l:l1.length<=1000000:=by rw[hl1];split;(have:l.tail.length<=l.length:=by simp);omega;exact hl
 have hkr4:=hkr3.ext hx4 (by show ¬_=_;omega);have hk4:=hk3.ext hx4 (by show ¬_=_;omega);have e4:Ext (only rb) h h4:=(av.of e3).trans hx4;have hz4:=hx4.size;generalize htg:mj true 0 l1=tgt at hbr;refine aM 1 [0,2,3,4] rfl ?_;refine ak rfl ?_;refine aQ func357 1 [0,2,3,4,5] rfl ?_;refine G.block rfl rfl ?_;refine bf (σ:=Bool×Nat×By) (fun q=>[(0,yb rb),(2,.pointer (some ⟨h.size,0,none⟩)),(3,.pointer (some ⟨h1.size,0,none⟩)),(4,.bool nt),(5,.bool q.1)]) (fun q h'=>St h' rb q.2.2/\aL h' h1.size 291 (cX 1 q.2.1 (.slice none 0 0))/\aL h' h.size 291 (cX 0 0 (.slice none 0 0))/\Ext (only rb) h h'/\q.2.2.length<=1000000/\mj q.1 q.2.1 q.2.2=tgt) (fun q=>q.2.2.length) ((true,0,l1)) rfl ⟨rfl,rfl,rfl,rfl,rfl,trivial⟩ ⟨hs4,hk4,hkr4,e4,hl1l,htg⟩ ?_;rintro⟨first,acc,m⟩ h5 ⟨hs5,hk5,hkr5,e5,hm,hcon⟩ ih
 try dsimp only
 dsimp only at hs5 hk5 hm hcon;refine ak rfl ?_;refine ak rfl ?_;refine G.bH [(17,.bool (decide (¬(first=false/\m.head? =some 93))))] [(0,_),(2,_),(3,_),(4,_),(5,_)] ⟨rfl,rfl,rfl,rfl,rfl,trivial⟩ func357 rfl ?_ ?_
 · refine br 2 rfl ?_;refine bI (d:=13) rfl (fun hf=>?_) (fun hf=>?_)
   · refine br 4 rfl ?_;refine RW.done rfl ?_;exact⟨rfl,aK rfl (by simp[hf]),rfl,rfl,rfl,rfl,rfl,trivial⟩
   · refine br 1 rfl ?_;refine xo rfl (aj (vs:=[_]) func351 rfl H.Jl rfl (af.aX (rN hs5))) ?_;rintro _ _ ⟨rfl,rfl⟩;refine br 2 rfl ?_;refine RW.done rfl ?_;exact⟨rfl,aK rfl (by cases m with|nil=>simp|cons c t=>simp only[hf,List.head?_cons,Option.getD_some,Option.some.injEq,true_and];exact decide_eq_decide.2 (not_congr (cF rfl))),rfl,rfl,rfl,rfl,rfl,trivial⟩
 · refine aN rfl rfl (fun hgo=>?_) (fun hgo=>?_)
   · refine az rfl ?_;refine ak rfl ?_;refine G.block rfl rfl ?_;refine bg func357 1 rfl ?_;refine xo rfl (aj (vs:=[_]) func364 rfl H.Ji rfl (af.iA (nC hs5 hm) ((fun _ _ ⟨hc,hp,hx⟩=>PR.no hc (by rw[hbr,<-hcon,mN hgo (M3 hp)];rfl) (e5.trans hx))))) ?_;rintro _ h6 ⟨a,r,ha,rfl,hs6,hx6⟩;have hrl:=nD ha;have hk6:=hk5.ext hx6 (by show ¬_=_;omega);have hkr6:=hkr5.ext hx6 (by show ¬_=_;omega);have e6:=e5.trans hx6;refine aM 1 [0,2,3,4,5,6,17] rfl ?_;refine aQ func357 2 [0,2,3,4,5,6,7,17] rfl ?_;refine ak rfl ?_;refine bg func357 1 rfl ?_;refine xo rfl (aj (vs:=[_,_]) func287 rfl H.CZ rfl (af.aX (jy 45 hs6 (by omega)))) ?_;rintro _ h7 ⟨hor7,hx7⟩;have hk7:=hk6.ext hx7 (by show ¬_=_;omega);have hkr7:=hkr6.ext hx7 (by show ¬_=_;omega);have e7:=e6.trans hx7
     rcases hor7 with ⟨a1,rfl,hs7⟩|⟨a1,rfl,hs7⟩
     · have htl:r.tail.length<=r.length:=by simp
       refine xd [0,2,3,4,5,6,7,17,22] rfl ?_;refine ay rfl rfl (fun _=>?_) (fun hc=>absurd hc (by decide));refine G.bB func357 rfl ?_;refine br 1 rfl ?_;refine xo rfl (aj (vs:=[_]) func364 rfl H.Ji rfl (af.iA (nC hs7 (by omega)) ((fun _ _ ⟨hc,hp,hx⟩=>PR.no hc (by rw[hbr,<-hcon,mN hgo (M0 ha a1 hp)];rfl) (e7.trans hx))))) ?_;rintro _ h8 ⟨b,r8,hb,rfl,hs8,hx8⟩;have hbl:=nD hb;have hk8:=hk7.ext hx8 (by show ¬_=_;omega);have hkr8:=hkr7.ext hx8 (by show ¬_=_;omega);have e8:=e7.trans hx8;have hf4:=MZ ha a1 hb;refine aM 1 [0,2,3,4,5,6,7,17,22] rfl ?_;refine ak rfl ?_;refine aQ func357 3 [0,2,3,4,5,6,7,17,22,27] rfl ?_;refine aN rfl rfl (fun hlow=>?_) (fun hlow=>?_)
       · rw[if_pos (by omega)] at hf4;refine G.bB func357 rfl ?_;refine xp rfl (aE (H.fQ ) rfl) ?_;refine xp rfl (bw H.jo rfl) ?_;refine RW.bT rfl rfl rfl (cO (Φ:=fun _ _=>False) rfl (PR.no rfl (by rw[hbr,<-hcon,mN hgo hf4];rfl) e8)) ?_;rintro _ _ hpn;exact hpn.elim
       · rw[if_neg (by omega)] at hf4;refine az rfl ?_;refine G.bB func357 rfl ?_;refine xp rfl (aa (off:=1) underlying291 rfl rfl H.jU rfl) ?_;refine br 2 rfl ?_;refine xo rfl (aj (vs:=[_,_,_]) func358 rfl H.uY rfl (af.aX (fH hk8 a b))) ?_;rintro _ h9 ⟨hk9,hx9⟩;refine xd [0,2,3,4,5,6,7,17,22,27] rfl ?_;refine G.aJ ?_;refine G.bB func357 rfl ?_;refine aM 1 [0,2,3,4,5,6,7,17,22,27] rfl ?_;have hsp:=sX (acc:=acc) hgo hf4;exact ih (false,lZ acc a b,r8) _ _ ⟨rfl,rfl,rfl,rfl,rfl,trivial⟩ ⟨aL.ext hs8 hx9 (by show ¬_=_;omega),hk9,hkr8.ext hx9 (by show ¬_=_;omega),iD.only e8 hx9 (by omega),by show r8.length<=_;omega,by rw[<-hcon,hsp]⟩ (by show r8.length<m.length;omega)
     · have hf2:=M1 ha a1;refine xd [0,2,3,4,5,6,7,17,22] rfl ?_;refine ay rfl rfl (fun hc=>absurd hc (by decide)) (fun _=>?_);refine az rfl ?_;refine ak rfl ?_;refine aQ func357 3 [0,2,3,4,5,6,7,17,22,27] rfl ?_;refine ay rfl rfl (fun hc=>absurd hc (by simp)) (fun _=>?_);refine az rfl ?_;refine G.bB func357 rfl ?_;refine xp rfl (aa (off:=1) underlying291 rfl rfl H.jU rfl) ?_;refine br 2 rfl ?_;refine xo rfl (aj (vs:=[_,_,_]) func358 rfl H.uY rfl (af.aX (fH hk7 a a))) ?_;rintro _ h9 ⟨hk9,hx9⟩;refine xd [0,2,3,4,5,6,7,17,22,27] rfl ?_;refine G.aJ ?_;refine G.bB func357 rfl ?_;refine aM 1 [0,2,3,4,5,6,7,17,22,27] rfl ?_;have hsp:=sX (acc:=acc) hgo hf2;exact ih (false,lZ acc a a,r) _ _ ⟨rfl,rfl,rfl,rfl,rfl,trivial⟩ ⟨aL.ext hs7 hx9 (by show ¬_=_;omega),hk9,hkr7.ext hx9 (by show ¬_=_;omega),iD.only e7 hx9 (by omega),by show r.length<=_;omega,by rw[<-hcon,hsp]⟩ (by show r.length<m.length;omega)
   · have hgo:=Classical.not_not.1 hgo;have htgt:tgt=some (acc,m.tail):=by rw[<-hcon];unfold mj;rw[if_pos hgo]
     refine aW rfl rfl ?_;refine bg func357 1 rfl ?_;refine xo rfl (aj (vs:=[_,_]) func356 rfl H.Jk rfl (af.iA (rP 93 hs5 hm) ((fun _ _ ⟨hc,hp,hx⟩=>absurd hp (by rw[if_pos hgo.2];simp))))) ?_;rintro _ h6 ⟨_,r,hp,_,hs6,hx6⟩;refine xd [0,2,3,4,5,17] rfl ?_;refine ak rfl ?_;refine aQ func357 1 [0,2,3,4,5,17,36] rfl ?_;refine G.block rfl rfl ?_;rw[if_pos hgo.2] at hp;cases hp;have hk6:=hk5.ext hx6 (by show ¬_=_;omega);have hkr6:=hkr5.ext hx6 (by show ¬_=_;omega);have e6:=e5.trans hx6;have hk6:aL h6 h1.size 291 (KG acc 0):=hk6;refine bf (σ:=Nat) (fun q=>[(2,.pointer (some ⟨h.size,0,none⟩)),(3,.pointer (some ⟨h1.size,0,none⟩)),(4,.bool nt),(36,.int .i64 (q:Nat))]) (fun q h'=>q<=4/\St h' rb m.tail/\aL h' h1.size 291 (KG acc (if nt then q else 0))/\aL h' h.size 291 (cX 0 0 (.slice none 0 0))/\Ext (only rb) h h') (fun q=>4-q) (0) rfl ⟨rfl,rfl,rfl,rfl,trivial⟩ ⟨by omega,hs6,by cases nt<;>exact hk6,hkr6,e6⟩ ?_;rintro q h7 ⟨hq,hs7,hk7,hkr7,e7⟩ ih;refine aQ func357 1 [2,3,4,36,37] rfl ?_;refine ak rfl ?_;refine aN rfl rfl (fun hq4=>?_) (fun hq4=>?_)
     · have hq4':q<4:=by omega
       refine az rfl ?_;refine ak rfl ?_;refine G.block rfl rfl ?_;refine aQ func357 2 [2,3,4,8,36,37] rfl ?_;refine aQ func357 1 [2,3,4,8,36,37,39] rfl ?_;refine ay rfl rfl (fun hb=>?_) (fun hb=>?_)
       · rw[if_pos hb] at hk7;have hk7':aL h7 h1.size 291 [.int .i64 1,zo acc q 0,zo acc q 1,zo acc q 2,zo acc q 3,.slice none 0 0]:=hk7;refine G.bB func357 rfl ?_;refine bO 2 rfl rfl (aa (off:=1) underlying291 rfl rfl H.jU rfl) ?_;refine xp rfl (ai.dZ underlying288 H.qJ rfl rfl q rfl hq4') ?_;refine xp rfl (ah H.G4 rfl (hk7.cell (FJ acc q hq4'))) ?_;refine xp rfl (ai.M9 rfl) ?_;refine xp rfl (aa (off:=1) underlying291 rfl rfl H.jU rfl) ?_;refine xp rfl (ai.dZ underlying288 H.qJ rfl rfl q rfl hq4') ?_;refine RW.bT rfl rfl rfl (ax.aH H.qJ rfl rfl hk7' (by first|decide|exact of_decide_eq_true rfl|(simp;done)|(simp;omega)) rfl) ?_;rintro _ h8 ⟨rfl,hk8,hx8,hz8⟩;refine xd [2,3,4,8,36,37,39] rfl ?_;refine G.aJ ?_;refine G.bB func357 rfl ?_;refine xp rfl (ai.aT rfl rfl ⟨by omega,by omega⟩) ?_;refine aM 1 [2,3,4,8,36,37,39] rfl ?_;have hk8:aL h8 h1.size 291 (KG acc (q+1)):=by rw[<-HS acc q hq4',<-Ll (A5 acc q)];exact hk8
         exact ih (q+1) _ _ ⟨rfl,rfl,rfl,rfl,trivial⟩ ⟨by omega,aL.ext hs7 hx8 (by show ¬_=_;omega),by rw[if_pos hb];exact hk8,hkr7.ext hx8 (by show ¬_=_;omega),iD.only e7 hx8 (by omega)⟩ (by omega)
       · rw[if_neg (by rw[hb];decide)] at hk7;refine az rfl ?_;refine G.aJ ?_;refine G.bB func357 rfl ?_;refine xp rfl (ai.aT rfl rfl ⟨by omega,by omega⟩) ?_;refine aM 1 [2,3,4,8,36,37,39] rfl ?_;exact ih (q+1) _ _ ⟨rfl,rfl,rfl,rfl,trivial⟩ ⟨by omega,hs7,by rw[if_neg (by rw[hb];decide)];exact hk7,hkr7,e7⟩ (by omega)
     · obtain rfl:q=4:=by omega
       have hfin:KG acc (if nt then 4 else 0)=cX 1 (if l.head? =some 94 then kR acc else acc) (.slice none 0 0):=by
        subst hnt
        by_cases hd:l.head? =some 94<;>simp[hd]<;>rfl
       rw[hfin] at hk7;have hbr2:gm l=some (.mk 1 (if l.head? =some 94 then kR acc else acc) [],m.tail):=by rw[hbr,htgt];rfl
       generalize (if l.head? =some 94 then kR acc else acc)=fs at hk7 hbr2;refine aW rfl rfl ?_;refine xr func357 rfl ?_;refine xp rfl (ai.aD H.dI H.bV rfl hk7.row (by first|rfl|(simp;done)|(simp;omega))) ?_;refine RW.bT rfl rfl rfl (ax.aB H.bV rfl rfl hkr7 (by first|rfl|(simp;done)|(simp;omega)) (by first|decide|exact of_decide_eq_true rfl|(simp;done)|(simp;omega)) (bS.one (er h7 (only rb) 1 fs))) ?_;rintro _ h8 ⟨rfl,hk8,hx8,hz8⟩;refine xd [2,3,4,36,37] rfl ?_;have hk8:aL h8 h.size 291 (cX 1 fs (.slice none 0 0)):=hk8;refine G.dM func357 rfl (.cons (aY.dB H.dI H.bV rfl (hk8.row) (by first|rfl|(simp;done)|(simp;omega))) (.nil)) ?_;exact⟨_,m.tail,hbr2,⟨_,rfl,er _ _ _ _⟩,aL.ext hs7 hx8 (by show ¬_=_;omega),iD.only e7 hx8 (Nat.le_refl _)⟩
theorem bS.low {cs:List Value}(k:bS h (Dg m) cs x) (hn:n<=m) (e:Ext M h h') (hM:∀b,b<h.size->M b->b<m):bS h' (Dg n) cs x :=
 k.mv (Mv.eE e fun b hb ho=>⟨fun hm=>ho (hM b hb hm),fun k=>ho (Nat.lt_of_lt_of_le k hn)⟩)
theorem FD {cs ds:List Value}(h:cs.length=ds.length):over cs 0 ds=ds:=by
 unfold over;rw[List.drop_of_length_le (by omega)];simp
theorem nG {O:Nat->Prop}{v:Value}{xs:List Nd}(kind:Nat) (hv:bF pM h O v xs):af Tryz.prog 288 #[.int .i64 (kind:Nat),v] h (bC fun r h'=>(∃w,r= .agg (cX (b9 kind xs).kind (b9 kind xs).set w).toArray/\bS h' O (cX (b9 kind xs).kind (b9 kind xs).set w) (b9 kind xs))/\av h h'):=by
 obtain⟨oa,n,c,rfl,hsl⟩:=hv.open;have hn:=hsl.len;refine af.of func288 rfl rfl ?_;refine xr func288 rfl ?_;refine xo rfl (ax.aO H.ja) ?_;rintro _ h1 ⟨rfl,hk,he,hz⟩;refine xd [0,1,4] rfl ?_;refine ak rfl ?_;refine bg func288 1 rfl ?_;refine xp rfl (ai.aI underlying289 rfl) ?_;refine xd [0,1,4,6] rfl ?_;refine G.block rfl rfl ?_;refine aQ func288 2 [0,1,4,6,7] rfl ?_;have hk:aL h1 h.size 291 (cX 0 0 (.slice none 0 0)):=hk;have hsl1:=hsl.mv (Mv.aq he);have hv1:=hv.aq he;refine aN rfl rfl (fun e0=>?_) (fun e0=>?_)
 · obtain rfl:n=0:=by omega
   have hx:xs=[]:=List.eq_nil_of_length_eq_zero hn;subst hx;refine xr func288 rfl ?_;refine xp rfl (aE (H.Co ) rfl) ?_;refine RW.bT rfl rfl rfl (ax.aB H.bV rfl rfl hk (by first|rfl|(simp;done)|(simp;omega)) (by first|decide|exact of_decide_eq_true rfl|(simp;done)|(simp;omega)) (by first|decide|simp[Value.oneCell'])) ?_;rintro _ h2 ⟨rfl,hk2,hx2,hz2⟩;refine xd [0,1,4,6,7] rfl ?_;have hk2:aL h2 h.size 291 (cX 0 0 (.slice none 0 0)):=hk2;refine G.dM func288 rfl (.cons (aY.dB H.dI H.bV rfl (hk2.row) (by first|rfl|(simp;done)|(simp;omega))) (.nil)) ?_;exact⟨_,rfl,⟨_,rfl,er _ _ 0 0⟩,av.only he hx2 (Nat.le_refl _)⟩
 · refine aQ func288 2 [0,1,4,6,7,10] rfl ?_;refine aN rfl rfl (fun e1=>?_) (fun e1=>?_)
   · obtain rfl:n=1:=by omega
     obtain⟨x,rfl⟩:=List.length_eq_one_iff.1 hn;obtain⟨b,o,cs,ha,ho,hr,hR⟩:=hsl.get 0 x rfl;have hr:=he.rowAt (fun k=>k) hr;obtain⟨w,rfl,hw⟩:=bS.open hR;refine bg func288 1 rfl ?_;refine xp rfl (ai.aA underlying289 H.bV rfl rfl 0 rfl ha (by decide)) ?_;refine xp rfl (ai.aD H.dI H.bV rfl hr (by first|rfl|(simp;done)|(simp;omega))) ?_;refine RW.bT rfl rfl rfl (ax.aB H.bV rfl rfl hk (by first|rfl|(simp;done)|(simp;omega)) (by first|decide|exact of_decide_eq_true rfl|(simp;done)|(simp;omega)) (pM.one hR)) ?_;rintro _ h2 ⟨rfl,hk2,hx2,hz2⟩;refine xd [0,1,4,6,7,10] rfl ?_;have hk2:aL h2 h.size 291 (cX x.kind x.set w):=hk2;refine G.dM func288 rfl (.cons (aY.dB H.dI H.bV rfl (hk2.row) (by first|rfl|(simp;done)|(simp;omega))) (.nil)) ?_;exact⟨_,rfl,⟨w,rfl,bS.aq hR (av.only he hx2 (Nat.le_refl _))⟩,av.only he hx2 (Nat.le_refl _)⟩
   · refine az rfl ?_;refine G.aJ ?_;refine bg func288 2 rfl ?_;refine xp rfl (aE (H.oD _ _ _ _) rfl) ?_;refine RW.bT rfl rfl rfl (ax.aB H.bV rfl rfl hk (by first|rfl|(simp;done)|(simp;omega)) (by first|decide|exact of_decide_eq_true rfl|(simp;done)|(simp;omega)) (by first|decide|simp[Value.oneCell'])) ?_;rintro _ h2 ⟨rfl,hk2,hx2,hz2⟩;refine xd [0,1,4,6,7,10] rfl ?_;have hk2:aL h2 h.size 291 (cX kind 0 (.slice oa n c)):=hk2;refine G.dM func288 rfl (.cons (aY.dB H.dI H.bV rfl (hk2.row) (by first|rfl|(simp;done)|(simp;omega))) (.nil)) ?_
     have hj:b9 kind xs= .mk kind 0 xs:=by
      unfold b9;split
      · simp at hn;omega
      · simp at hn;omega
      · rfl
     rw[hj];exact⟨_,rfl,⟨.slice oa n c,rfl,bS.of kind 0 (hv.aq (av.only he hx2 (Nat.le_refl _)))⟩,av.only he hx2 (Nat.le_refl _)⟩
def Sg (h:au) (lim:Nat):Prop:=∃m,12<lim/\m<lim/\cellAt h ⟨12,0,none⟩=some (.map (some m)) /\
 ∃l:List (Int×Int),eu (Value.int .u8) (Value.int .i64) h m l/\∀c:UInt8,((ju (c.toNat:Int) l).map (Value.int .i64)).getD (Value.int .i64 0)=Value.int .i64 (cP c:Nat)
theorem Sg.ext {h h':au}{lim:Nat}(k:Sg h lim){M:Nat->Prop}(e:Ext M h h') (hM:∀b,M b->lim<=b):Sg h' lim:=by
 obtain⟨m,h1,h2,h3,l,h4,h5⟩:=k;exact⟨m,h1,h2,e.cell (fun k=>absurd (hM _ k) (by show ¬lim<=12;omega)) h3,l,h4.ext e (fun k=>by have:=hM _ k;omega),h5⟩
def tM (d lim:Nat):Prop:=∀(h:au) (rb:Nat) (l:By),Sg h lim->lim<=rb->St h rb l->l.length<d->l.length<=1000000 ->
 af Tryz.prog 239 #[yb rb] h (PR rb h (dc d l) (Cw h.size))
theorem Cp (ih:tM d lim) (hg:Sg h lim) (hrb:lim<=rb) (hs:St h rb l) (hd:l.length<=d) (hl:l.length<=1000000):af Tryz.prog 350 #[yb rb] h (PR rb h (ei (dc d) l) (Cw h.size)):=by
 have hlt:=hs.lt;refine af.of func350 rfl rfl ?_;refine xr func350 rfl ?_;refine xo rfl (ax.aO H.ja) ?_;rintro _ h1 ⟨rfl,hkr,he1,hz1⟩;refine xd [0,2] rfl ?_;refine xr func350 rfl ?_;refine xp rfl (aE (H.Dk _) rfl) ?_;refine xo rfl (ax.aO H.ja) ?_;rintro _ h2 ⟨rfl,hk2,he2,hz2⟩;refine RW.bT rfl rfl rfl (ax.aB H.bV rfl rfl hk2 (by first|rfl|(simp;done)|(simp;omega)) (by first|decide|exact of_decide_eq_true rfl|(simp;done)|(simp;omega)) (by first|decide|simp[Value.oneCell'])) ?_;rintro _ h3 ⟨rfl,hk3,hx3,hz3⟩;have hk3:aL h3 h1.size 291 (cX 1 0 (.slice none 0 0)):=hk3;have hkr:aL h1 h.size 291 (cX 0 0 (.slice none 0 0)):=hkr;have e3:av h h3:=av.only (he1.trans he2) hx3 (by omega);have hkr3:aL h3 h.size 291 (cX 0 0 (.slice none 0 0)):=(hkr.aq he2).ext hx3 (by show ¬_=_;omega);have hs3:St h3 rb l:=aL.aq hs e3;refine xd [0,2,3] rfl ?_;refine ak rfl ?_;refine bg func350 1 rfl ?_;refine xo rfl (aj (vs:=[_]) func352 rfl H.rL rfl (af.iA (eN hs3 hl) ((fun _ _ ⟨hc,hp,hx⟩=>PR.no hc (by rw[gX hp];rfl) ((av.of e3).trans hx))))) ?_;rintro _ h4 ⟨c,r,hp,rfl,hs4,hx4⟩;obtain rfl:=eO hp;simp only[List.length_cons] at hl hd;have hkr4:=hkr3.ext hx4 (by show ¬_=_;omega);have hk4:=hk3.ext hx4 (by show ¬_=_;omega);have e4:Ext (only rb) h h4:=(av.of e3).trans hx4;have hz4:=hx4.size;have hg4:Sg h4 lim:=hg.ext e4 (fun b (hb:b=rb)=>by omega);refine aM 1 [0,2,3,4] rfl ?_;refine aQ func350 1 [0,2,3,4,8] rfl ?_;refine G.block rfl rfl ?_;refine aQ func350 2 [0,2,3,4,8,13] rfl ?_
 have fin:∀(x:Nd) (w:Value) (m:By) (h':au) (ρ':Env),Sub [(0,yb rb),(2,.pointer (some ⟨h.size,0,none⟩)),(3,.pointer (some ⟨h1.size,0,none⟩))] ρ'->aL h' h1.size 291 (cX x.kind x.set w)->aL h' h.size 291 (cX 0 0 (.slice none 0 0))->St h' rb m->bS h' (Dg (h.size+1)) (cX x.kind x.set w) x->Ext (only rb) h h'->ei (dc d) (c::r)=some (x,m)->G Tryz.prog 350 f350 [.code [1,1,1]] ρ' h' (PR rb h (ei (dc d) (c::r)) (Cw h.size)):=by
  rintro x w m hh ρ' hsub hkx hkrr hst hnd hee hat;refine G.sub (ρ':=[(0,yb rb),(2,.pointer (some ⟨h.size,0,none⟩)),(3,.pointer (some ⟨h1.size,0,none⟩))]) hsub ?_;refine xr func350 rfl ?_;refine xp rfl (ai.aD H.dI H.bV rfl hkx.row (by first|rfl|(simp;done)|(simp;omega))) ?_;refine RW.bT rfl rfl rfl (ax.aB H.bV rfl rfl hkrr (by first|rfl|(simp;done)|(simp;omega)) (by first|decide|exact of_decide_eq_true rfl|(simp;done)|(simp;omega)) (bS.one hnd)) ?_;rintro _ h9 ⟨rfl,hk9,hx9,hz9⟩;refine xd [0,2,3] rfl ?_;have hk9:aL h9 h.size 291 (cX x.kind x.set w):=hk9;refine G.dM func350 rfl (.cons (aY.dB H.dI H.bV rfl (hk9.row) (by first|rfl|(simp;done)|(simp;omega))) (.nil)) ?_;exact⟨x,m,hat,⟨w,rfl,bS.low hnd (Nat.le_succ _) hx9 (fun b _ (hb:b=h.size)=>by omega)⟩,aL.ext hst hx9 (by show ¬_=_;omega),iD.only hee hx9 (Nat.le_refl _)⟩
 refine aN rfl rfl (fun c1=>?_) (fun c1=>?_)
 · have c1:c=40:=(cF rfl).1 c1;subst c1;refine bg func350 1 rfl ?_;refine xo rfl (aj (vs:=[_]) func239 rfl H.Jq rfl (af.iA (ih h4 rb r hg4 hrb hs4 (by omega) (by omega)) ((fun _ _ ⟨hc,hp,hx⟩=>PR.no hc (by unfold ei;simp[hp]) (e4.trans hx))))) ?_;rintro _ h5 ⟨x,r5,hp5,⟨w,rfl,hnd5⟩,hs5,hx5⟩;have hk5:=hk4.ext hx5 (by show ¬_=_;omega);have hkr5:=hkr4.ext hx5 (by show ¬_=_;omega);have hr5:=jj d hp5;refine RW.bT rfl rfl rfl (ax.aB H.bV rfl rfl hk5 (by first|rfl|(simp;done)|(simp;omega)) (by first|decide|exact of_decide_eq_true rfl|(simp;done)|(simp;omega)) (bS.one hnd5)) ?_;rintro _ h6 ⟨rfl,hk6,hx6,hz6⟩;refine xd [0,2,3,4,8,13] rfl ?_;refine G.bB func350 rfl ?_;refine br 1 rfl ?_;have hk6:aL h6 h1.size 291 (cX x.kind x.set w):=hk6;have hs6:St h6 rb r5:=aL.ext hs5 hx6 (by show ¬_=_;omega);have hnd6:bS h6 (Dg (h.size+1)) (cX x.kind x.set w) x:=bS.low hnd5 (by omega) hx6 (fun b _ (hb:b=h1.size)=>by omega);have e6:=iD.only (e4.trans hx5) hx6 (by omega);refine xo rfl (aj (vs:=[_,_]) func356 rfl H.Jk rfl (af.iA (rP 41 hs6 (by omega)) ((fun _ _ ⟨hc,hp,hx⟩=>PR.no hc (by unfold ei;simp only[if_true,hp5];split;rename_i t ht;cases ht;simp at hp;rfl) (e6.trans hx))))) ?_;rintro _ h7 ⟨_,r7,hp7,_,hs7,hx7⟩;refine xd [0,2,3,4,8,13] rfl ?_;refine G.aJ ?_
   have hcl:r5=41::r7:=by
    split at hp7
    · rename_i hh;cases hp7;cases r5 with|nil=>cases hh|cons a b=>simp at hh;subst hh;rfl
    · cases hp7
   subst hcl;exact fin x w r7 _ _ ⟨rfl,rfl,rfl,trivial⟩ (hk6.ext hx7 (by show ¬_=_;omega)) ((hkr5.ext hx6 (by show ¬_=_;omega)).ext hx7 (by show ¬_=_;omega)) hs7 (bS.low hnd6 (Nat.le_refl _) hx7 (fun b _ (hb:b=rb)=>by omega)) (e6.trans hx7) (by unfold ei;simp[hp5])
 · have c1:¬c=40:=fun e=>c1 ((cF rfl).2 e)
   refine aQ func350 2 [0,2,3,4,8,13,19] rfl ?_;refine aN rfl rfl (fun c2=>?_) (fun c2=>?_)
   · have c2:c=91:=(cF rfl).1 c2;refine G.bB func350 rfl ?_;refine br 1 rfl ?_;refine xo rfl (aj (vs:=[_]) func357 rfl H.LZ rfl (af.iA (uo hs4 (by omega)) ((fun _ _ ⟨hc,hp,hx⟩=>PR.no hc (by unfold ei;simp[c2,hp]) (e4.trans hx))))) ?_;rintro _ h5 ⟨x,r5,hp5,⟨w,rfl,hnd5⟩,hs5,hx5⟩;have hk5:=hk4.ext hx5 (by show ¬_=_;omega);have hkr5:=hkr4.ext hx5 (by show ¬_=_;omega);refine RW.bT rfl rfl rfl (ax.aB H.bV rfl rfl hk5 (by first|rfl|(simp;done)|(simp;omega)) (by first|decide|exact of_decide_eq_true rfl|(simp;done)|(simp;omega)) (bS.one hnd5)) ?_;rintro _ h6 ⟨rfl,hk6,hx6,hz6⟩;refine xd [0,2,3,4,8,13,19] rfl ?_;refine G.aJ ?_;have hk6:aL h6 h1.size 291 (cX x.kind x.set w):=hk6;exact fin x w r5 _ _ ⟨rfl,rfl,rfl,trivial⟩ hk6 (hkr5.ext hx6 (by show ¬_=_;omega)) (aL.ext hs5 hx6 (by show ¬_=_;omega)) (bS.low hnd5 (by omega) hx6 (fun b _ (hb:b=h1.size)=>by omega)) (iD.only (e4.trans hx5) hx6 (by omega)) (by unfold ei;simp[c2,hp5])
   · have c2:¬c=91:=fun e=>c2 ((cF rfl).2 e)
     refine aQ func350 2 [0,2,3,4,8,13,19,23] rfl ?_;refine aN rfl rfl (fun c3=>?_) (fun c3=>?_)
     · have c3:c=46:=(cF rfl).1 c3;refine xr func350 rfl ?_;refine xp rfl (aa (off:=1) underlying291 rfl rfl H.jU rfl) ?_;refine xo rfl (aj (vs:=[_,_,_]) func358 rfl H.uY rfl (af.aX (fH hk4 0 9))) ?_;rintro _ h5 ⟨hk5,hx5⟩;refine xd [0,2,3,4,8,13,19,23] rfl ?_;refine G.bB func350 rfl ?_;refine xp rfl (aa (off:=1) underlying291 rfl rfl H.jU rfl) ?_;refine xo rfl (aj (vs:=[_,_,_]) func358 rfl H.uY rfl (af.aX (fH hk5 11 255))) ?_;rintro _ h6 ⟨hk6,hx6⟩;refine xd [0,2,3,4,8,13,19,23] rfl ?_;refine G.aJ ?_;have hx56:=hx5.trans hx6;exact fin JU (.slice none 0 0) r _ _ ⟨rfl,rfl,rfl,trivial⟩ hk6 (hkr4.ext hx56 (by show ¬_=_;omega)) (aL.ext hs4 hx56 (by show ¬_=_;omega)) (er _ _ _ _) (iD.only e4 hx56 (by omega)) (by unfold ei;simp[c3])
     · have c3:¬c=46:=fun e=>c3 ((cF rfl).2 e)
       refine aQ func350 2 [0,2,3,4,8,13,19,23,29] rfl ?_;refine aN rfl rfl (fun c4=>?_) (fun c4=>?_)
       · have c4:c=92:=(cF rfl).1 c4;refine bg func350 1 rfl ?_;refine xo rfl (aj (vs:=[_]) func359 rfl H.Jj rfl (af.iA (mh hs4 (by omega)) ((fun _ _ ⟨hc,hp,hx⟩=>PR.no hc (by unfold ei;simp[c4,hp]) (e4.trans hx))))) ?_;rintro _ h5 ⟨b,r5,hp5,rfl,hs5,hx5⟩;have hk5:=hk4.ext hx5 (by show ¬_=_;omega);have hkr5:=hkr4.ext hx5 (by show ¬_=_;omega);refine aM 1 [0,2,3,4,8,13,19,23,29] rfl ?_;refine G.bB func350 rfl ?_;refine xp rfl (aa (off:=1) underlying291 rfl rfl H.jU rfl) ?_;refine br 2 rfl ?_;refine xo rfl (aj (vs:=[_,_,_]) func358 rfl H.uY rfl (af.aX (fH hk5 b b))) ?_;rintro _ h6 ⟨hk6,hx6⟩;refine xd [0,2,3,4,8,13,19,23,29] rfl ?_;refine G.aJ ?_;exact fin (xL b) (.slice none 0 0) r5 _ _ ⟨rfl,rfl,rfl,trivial⟩ hk6 (hkr5.ext hx6 (by show ¬_=_;omega)) (aL.ext hs5 hx6 (by show ¬_=_;omega)) (er _ _ _ _) (iD.only (e4.trans hx5) hx6 (by omega)) (by unfold ei;simp[c4,hp5])
       · have c4:¬c=92:=fun e=>c4 ((cF rfl).2 e)
         refine ak rfl ?_;refine aQ func350 2 [0,2,3,4,8,13,19,23,29,37] rfl ?_;refine aN rfl rfl (fun d41=>?_) (fun d41=>?_)
         · have d41:c=41:=(cF rfl).1 d41;refine az rfl ?_;refine ay rfl rfl (fun _=>?_) (fun hc=>absurd hc (by rw[d41];decide));refine G.bB func350 rfl ?_;refine xp rfl (aE (H.fQ ) rfl) ?_;refine xp rfl (bw H.jo rfl) ?_;refine RW.bT rfl rfl rfl (cO (Φ:=fun _ _=>False) rfl (PR.no rfl (by unfold ei;simp[d41]) e4)) ?_;rintro _ _ hpn;exact hpn.elim
         · have d41:¬c=41:=fun e=>d41 ((cF rfl).2 e)
           refine aQ func350 2 [0,2,3,4,8,13,19,23,29,37] rfl ?_;refine aN rfl rfl (fun d93=>?_) (fun d93=>?_)
           · have d93:c=93:=(cF rfl).1 d93;refine az rfl ?_;refine ay rfl rfl (fun _=>?_) (fun hc=>absurd hc (by rw[d93];decide));refine G.bB func350 rfl ?_;refine xp rfl (aE (H.fQ ) rfl) ?_;refine xp rfl (bw H.jo rfl) ?_;refine RW.bT rfl rfl rfl (cO (Φ:=fun _ _=>False) rfl (PR.no rfl (by unfold ei;simp[d93]) e4)) ?_;rintro _ _ hpn;exact hpn.elim
           · have d93:¬c=93:=fun e=>d93 ((cF rfl).2 e)
             refine aQ func350 2 [0,2,3,4,8,13,19,23,29,37] rfl ?_;refine aN rfl rfl (fun d124=>?_) (fun d124=>?_)
             · have d124:c=124:=(cF rfl).1 d124;refine az rfl ?_;refine ay rfl rfl (fun _=>?_) (fun hc=>absurd hc (by rw[d124];decide));refine G.bB func350 rfl ?_;refine xp rfl (aE (H.fQ ) rfl) ?_;refine xp rfl (bw H.jo rfl) ?_;refine RW.bT rfl rfl rfl (cO (Φ:=fun _ _=>False) rfl (PR.no rfl (by unfold ei;simp[d124]) e4)) ?_;rintro _ _ hpn;exact hpn.elim
             · have d124:¬c=124:=fun e=>d124 ((cF rfl).2 e)
               refine aQ func350 2 [0,2,3,4,8,13,19,23,29,37] rfl ?_;refine aN rfl rfl (fun d42=>?_) (fun d42=>?_)
               · have d42:c=42:=(cF rfl).1 d42;refine az rfl ?_;refine ay rfl rfl (fun _=>?_) (fun hc=>absurd hc (by rw[d42];decide));refine G.bB func350 rfl ?_;refine xp rfl (aE (H.fQ ) rfl) ?_;refine xp rfl (bw H.jo rfl) ?_;refine RW.bT rfl rfl rfl (cO (Φ:=fun _ _=>False) rfl (PR.no rfl (by unfold ei;simp[d42]) e4)) ?_;rintro _ _ hpn;exact hpn.elim
               · have d42:¬c=42:=fun e=>d42 ((cF rfl).2 e)
                 refine aQ func350 2 [0,2,3,4,8,13,19,23,29,37] rfl ?_;refine aN rfl rfl (fun d43=>?_) (fun d43=>?_)
                 · have d43:c=43:=(cF rfl).1 d43;refine az rfl ?_;refine ay rfl rfl (fun _=>?_) (fun hc=>absurd hc (by rw[d43];decide));refine G.bB func350 rfl ?_;refine xp rfl (aE (H.fQ ) rfl) ?_;refine xp rfl (bw H.jo rfl) ?_;refine RW.bT rfl rfl rfl (cO (Φ:=fun _ _=>False) rfl (PR.no rfl (by unfold ei;simp[d43]) e4)) ?_;rintro _ _ hpn;exact hpn.elim
                 · have d43:¬c=43:=fun e=>d43 ((cF rfl).2 e)
                   refine G.bB func350 rfl ?_;refine aM 2 [0,2,3,4,8,13,19,23,29,37] rfl ?_;refine aN rfl rfl (fun d63=>?_) (fun d63=>?_)
                   · have d63:c=63:=(cF rfl).1 d63;refine G.bB func350 rfl ?_;refine xp rfl (aE (H.fQ ) rfl) ?_;refine xp rfl (bw H.jo rfl) ?_;refine RW.bT rfl rfl rfl (cO (Φ:=fun _ _=>False) rfl (PR.no rfl (by unfold ei;simp[d63]) e4)) ?_;rintro _ _ hpn;exact hpn.elim
                   · have d63:¬c=63:=fun e=>d63 ((cF rfl).2 e)
                     refine G.bB func350 rfl ?_;refine xp rfl (aa (off:=1) underlying291 rfl rfl H.jU rfl) ?_;refine br 2 rfl ?_;refine xo rfl (aj (vs:=[_,_,_]) func358 rfl H.uY rfl (af.aX (fH hk4 c c))) ?_;rintro _ h6 ⟨hk6,hx6⟩;refine xd [0,2,3,4,8,13,19,23,29,37] rfl ?_;refine G.aJ ?_;exact fin (xL c) (.slice none 0 0) r _ _ ⟨rfl,rfl,rfl,trivial⟩ hk6 (hkr4.ext hx6 (by show ¬_=_;omega)) (aL.ext hs4 hx6 (by show ¬_=_;omega)) (er _ _ _ _) (iD.only e4 hx6 (by omega)) (by unfold ei;simp[c1,c2,c3,c4,d41,d93,d124,d42,d43,d63])
theorem wm {ρ:Env}{dst:Option Nat}{ty:TypeId}{pos:String}{after:Array Edge}{guard:Option (Nat×Bool)}{x y:Operand}{l:List (Int×Int)}
 (hx:bE ρ x=some (.map (some m))) (hy:bE ρ y=some (.int .u8 (c.toNat:Nat))) (hm:eu (Value.int .u8) (Value.int .i64) h m l) (hv:∀c:UInt8,((ju (c.toNat:Int) l).map (Value.int .i64)).getD (Value.int .i64 0)=Value.int .i64 (cP c:Nat)) :
 ai Tryz.prog ⟨dst,.lookup 429 x y false,ty,pos,after,guard⟩ ρ h (.int .i64 (cP c:Nat)):=by
 have:=ai.lookup (P:=Tryz.prog) (ρ:=ρ) (h:=h) (dst:=dst) (ty:=ty) (pos:=pos) (after:=after) (guard:=guard) (iw.int .u8) underlying429 underlying5 (z:=.int .i64 0) (et:=3) (by kernel_rfl) hx hy rfl hm
 rwa [hv c] at this
theorem yJ (h:0<cP c):dL x (c::r)=dL (.mk (cP c) 0 [x]) r:=by
 rw[dL,if_neg (by omega)]
theorem yI {m:By}(h:cP (m.head?.getD 0)=0):dL x m=(x,m):=by
 cases m with
 |nil=>rfl
 |cons c r=>rw[dL,if_pos (by simpa using h)]
theorem yY (ih:tM d lim) (hg:Sg h lim) (hrb:lim<=rb) (hs:St h rb l) (hd:l.length<=d) (hl:l.length<=1000000):af Tryz.prog 333 #[yb rb] h (PR rb h (eS (dc d) l) (Cw h.size)):=by
 have hlt:=hs.lt;refine af.of func333 rfl rfl ?_;refine xr func333 rfl ?_;refine xo rfl (ax.aO H.ja) ?_;rintro _ h1 ⟨rfl,hkr,he1,hz1⟩;refine xd [0,2] rfl ?_;refine bg func333 1 rfl ?_;refine xo rfl (aj (vs:=[_]) func350 rfl H.L0 rfl (af.iA (Cp ih (hg.ext he1 (fun _ k=>k.elim)) hrb (aL.aq hs he1) hd hl) ((fun _ _ ⟨hc,hp,hx⟩=>PR.no hc (by unfold eS;rw[hp];rfl) ((av.of he1).trans hx))))) ?_;rintro _ h2 ⟨x0,m0,hp0,⟨w0,rfl,hnd2⟩,hs2,hx2⟩;refine xo rfl (ax.aO H.ja) ?_;rintro _ h3 ⟨rfl,hk3,he3,hz3⟩;refine RW.bT rfl rfl rfl (ax.aB H.bV rfl rfl hk3 (by first|rfl|(simp;done)|(simp;omega)) (by first|decide|exact of_decide_eq_true rfl|(simp;done)|(simp;omega)) (bS.one hnd2)) ?_;rintro _ h4 ⟨rfl,hk4,hx4,hz4⟩;have hz2:=hx2.size;have hkr:aL h1 h.size 291 (cX 0 0 (.slice none 0 0)):=hkr;have hk4:aL h4 h2.size 291 (cX x0.kind x0.set w0):=hk4;have e2:Ext (only rb) h h2:=(av.of he1).trans hx2;have hkr2:=hkr.ext hx2 (by show ¬_=_;omega);have e24:av h2 h4:=av.only he3 hx4 (Nat.le_refl _);have hnd4:bS h4 (fun b=>b<h.size+1\/b=h2.size) (cX x0.kind x0.set w0) x0:=hnd2.mv (Mv.eE e24 fun b hb hn=>⟨fun k=>k,fun k=>by have:¬b<h1.size:=hn;omega⟩);have hm0:=vz (fun h=>jj d h) hp0;have hpc:eS (dc d) l=some (dL x0 m0):=by unfold eS;rw[hp0];rfl
 generalize htg:dL x0 m0=tgt at hpc;generalize hnb:h2.size=nb at hk4 hnd4 hs2;have hnb1:h.size+1<=nb:=by omega
 refine xd [0,2,3] rfl ?_;refine ak rfl ?_;refine G.block rfl rfl ?_;refine bf (σ:=Nd×Value×By) (fun q=>[(0,yb rb),(2,.pointer (some ⟨h.size,0,none⟩)),(3,.pointer (some ⟨nb,0,none⟩))]) (fun q h'=>St h' rb q.2.2/\aL h' nb 291 (cX q.1.kind q.1.set q.2.1)/\aL h' h.size 291 (cX 0 0 (.slice none 0 0))/\Ext (only rb) h h'/\bS h' (fun b=>b<h.size+1\/b=nb) (cX q.1.kind q.1.set q.2.1) q.1/\q.2.2.length<=1000000/\dL q.1 q.2.2=tgt) (fun q=>q.2.2.length) ((x0,w0,m0)) rfl ⟨rfl,rfl,rfl,trivial⟩ ⟨aL.aq hs2 e24,hk4,hkr2.aq e24,iD.aq e2 e24,hnd4,by show m0.length<=_;omega,htg⟩ ?_;rintro⟨x,w,m⟩ h5 ⟨hs5,hk5,hkr5,e5,hnd5,hm,hsg⟩ ih
 try dsimp only
 dsimp only at hs5 hk5 hnd5 hm hsg;have hg5:Sg h5 lim:=hg.ext e5 (fun b (hb:b=rb)=>by omega);obtain⟨mp,hm1,hm2,hcell,lm,hmap,hval⟩:=hg5;refine ak rfl ?_;refine ak rfl ?_;refine G.gG func333 H.mixed rfl (by kernel_rfl) ?_;refine RQ.an rfl rfl rfl rfl (ah H.J7 rfl hcell) ?_;refine RQ.an rfl rfl rfl rfl (aF rfl) ?_;refine RQ.Nc (vs:=[_]) rfl rfl rfl rfl rfl func351 rfl H.Jl rfl (rN hs5) ?_;refine RQ.an rfl rfl rfl rfl (wm rfl rfl hmap hval) ?_;refine RQ.an rfl rfl rfl rfl (nU rfl rfl) ?_;refine RQ.done rfl ?_;refine xu [0,2,3,10] rfl ?_;refine aN rfl rfl (fun hgo=>?_) (fun hgo=>?_)
 · have hgo:0<cP (m.head?.getD 0):=by omega
   obtain⟨c,r,rfl⟩:=List.exists_cons_of_ne_nil (fun(e:m=[])=>by rw[e] at hgo;revert hgo;decide);have hgo:0<cP c:=hgo;rw[yJ hgo] at hsg;simp only[List.length_cons] at hm;have hlt5:=hk5.lt;have hltr:=hkr5.lt
   have hn1:¬((⟨12,0,none⟩:Addr).block=rb\/Array.size h5<=(⟨12,0,none⟩:Addr).block):=by
    show ¬(12=rb\/Array.size h5<=12);omega
   have hn2:¬(nb=rb\/Array.size h5<=nb):=by omega
   have hn3:¬(mp=rb\/Array.size h5<=mp):=by omega
   have hO5:¬(h5.size<h.size+1\/h5.size=nb):=by have:=hkr5.lt;omega
   refine az rfl ?_;refine G.block rfl rfl ?_;refine bK (fun b=>b=rb\/Array.size h5<=b) (fun i=>Nat.blt i 7) (sz:=8) (listed:= #[false,false,false,false,false,false,false,false]) func333 H.mixed rfl rfl rfl ?_;refine bn 0 1 (by kernel_rfl) rfl (fun h' e=>ah H.J7 rfl (e.cell hn1 hcell)) ?_;refine bu 1 3 (by kernel_rfl) rfl ?_;refine bn 4 19 (by kernel_rfl) rfl (fun h' e=>ai.aD H.dI H.bV rfl (e.rowAt hn2 hk5.row) (by first|rfl|(simp;done)|(simp;omega))) ?_;refine RD.E8 2 5 (li:= #[true,true,true,false,true,false,false,false]) (lj:= #[true,true,false,false,true,true,false,false]) rfl rfl (by kernel_rfl) rfl rfl rfl rfl rfl rfl (aj (vs:=[_]) func352 rfl H.rL rfl (af.iA (eN hs5 (by simp only[List.length_cons];omega)) ((fun _ _ ⟨_,hp,_⟩=>by cases hp)))) (ax.cA (cs:=[_,_,_,_,_,_]) underlying289 H.sU rfl rfl (by decide)) (by kernel_rfl) (by kernel_rfl) ?_ ?_
   · rintro _ h6 ⟨_,_,hp6,rfl,hs6,hx6⟩;refine⟨fun _=>hx6.mono (fun _ _ k=>.inl k),?_⟩;cases hp6;have hmap6:=hmap.ext hx6 (by show ¬_=_;omega);have hz6:=hx6.size;have hk6:=hk5.ext hx6 (by show ¬_=_;omega);have hnd6:bS h6 (fun b=>b<h.size+1\/b=nb) (cX x.kind x.set w) x:=hnd5.mv (Mv.eE hx6 fun b hb hn=>⟨fun(k:b=rb)=>hn (.inl (by omega)),hn⟩);refine bn 3 31 (by kernel_rfl) rfl (fun h' e=>wm rfl rfl (hmap6.ext e hn3) hval) ?_;refine cE 5 63 (by kernel_rfl) rfl (ax.cA (cs:=[_,_,_,_,_,_]) underlying289 H.sU rfl rfl (by decide)) ?_;rintro _ _ ⟨rfl,rfl⟩;refine⟨fun _=>by first|exact Ext.push _ _ _|assumption,?_⟩;refine bn 6 127 (by kernel_rfl) rfl (fun h' e=>aE (H.oD _ _ _ _) rfl) ?_;have hsl:=bF.jn (e:=pM) (t:=291) hnd6 (show ¬(h6.size<h.size+1\/h6.size=nb) by omega);have ep:=Ext.push (fun _=>False) h6 (.cells (cX x.kind x.set w).toArray 291);have hk7:=hk6.aq ep;have hs7:St _ rb r:=aL.aq hs6 ep;have hkr7:=(hkr5.ext hx6 (by show ¬_=_;omega)).aq ep;have e7:=iD.aq (e5.trans hx6) ep;refine jP 7 255 (by kernel_rfl) rfl (ax.aB H.bV rfl rfl hk7 (by first|rfl|(simp;done)|(simp;omega)) (by first|decide|exact of_decide_eq_true rfl|(simp;done)|(simp;omega)) (bS.one (bS.of (cP c) 0 hsl))) ?_;rintro _ h8 ⟨rfl,hk8,hx8,hz8⟩;refine⟨fun hk=>(nomatch hk),?_⟩;refine RD.done (by kernel_rfl) ?_;refine xu [0,2,3,10] rfl ?_;refine G.aJ ?_;have hk8:aL h8 nb 291 (cX (cP c) 0 (.slice (some ⟨h6.size,0,none⟩) 1 1)):=hk8;exact ih (.mk (cP c) 0 [x],.slice (some ⟨h6.size,0,none⟩) 1 1,r) _ _ ⟨rfl,rfl,rfl,trivial⟩ ⟨aL.ext hs7 hx8 (by show ¬_=_;omega),hk8,hkr7.ext hx8 (by show ¬_=_;omega),iD.only e7 hx8 (by omega),(bS.of (cP c) 0 hsl).mv (Mv.eE hx8 fun b hb hn=>⟨fun(k:b=nb)=>hn (.inr k),hn⟩),by show r.length<=_;omega,hsg⟩ (by show r.length<(c::r).length;simp)
   · rintro _ _ ⟨rfl,rfl⟩;refine⟨fun _=>by first|exact Ext.push _ _ _|assumption,?_⟩;have hsl:=bF.jn (e:=pM) (t:=291) hnd5 hO5;have ep:=Ext.push (fun _=>False) h5 (.cells (cX x.kind x.set w).toArray 291);refine cE 2 55 (by kernel_rfl) rfl (aj (vs:=[_]) func352 rfl H.rL rfl (af.iA (eN (aL.aq hs5 ep) (by simp only[List.length_cons];omega)) ((fun _ _ ⟨_,hp,_⟩=>by cases hp)))) ?_;rintro _ h6 ⟨_,_,hp6,rfl,hs6,hx6⟩;refine⟨fun _=>hx6.mono (fun _ _ k=>.inl k),?_⟩;cases hp6;have hmap6:=(hmap.ext ep (fun k=>k)).ext hx6 (by show ¬_=_;omega);have hz6:=hx6.size;have hzp:(h5.push (.cells (cX x.kind x.set w).toArray 291)).size=h5.size+1:=by simp
     have hk6:=(hk5.aq ep).ext hx6 (by show ¬_=_;omega);have hkr6:=(hkr5.aq ep).ext hx6 (by show ¬_=_;omega);have hn4:¬(mp=rb\/Array.size h5<=mp):=hn3;refine bn 3 63 (by kernel_rfl) rfl (fun h' e=>wm rfl rfl (hmap6.ext e hn4) hval) ?_;refine bn 6 127 (by kernel_rfl) rfl (fun h' e=>aE (H.oD _ _ _ _) rfl) ?_;have hsl6:bF pM h6 (fun b=>b<h.size+1\/b=nb) (.slice (some ⟨h5.size,0,none⟩) 1 1) [x]:=hsl.mv (Mv.eE hx6 fun b hb hn=>⟨fun(k:b=rb)=>hn (.inl (by omega)),hn⟩);refine jP 7 255 (by kernel_rfl) rfl (ax.aB H.bV rfl rfl hk6 (by first|rfl|(simp;done)|(simp;omega)) (by first|decide|exact of_decide_eq_true rfl|(simp;done)|(simp;omega)) (bS.one (bS.of (cP c) 0 hsl6))) ?_;rintro _ h8 ⟨rfl,hk8,hx8,hz8⟩;refine⟨fun hk=>(nomatch hk),?_⟩;refine RD.done (by kernel_rfl) ?_;refine xu [0,2,3,10] rfl ?_;refine G.aJ ?_;have hk8:aL h8 nb 291 (cX (cP c) 0 (.slice (some ⟨h5.size,0,none⟩) 1 1)):=hk8;exact ih (.mk (cP c) 0 [x],.slice (some ⟨h5.size,0,none⟩) 1 1,r) _ _ ⟨rfl,rfl,rfl,trivial⟩ ⟨aL.ext hs6 hx8 (by show ¬_=_;omega),hk8,hkr6.ext hx8 (by show ¬_=_;omega),iD.only ((iD.aq e5 ep).trans hx6) hx8 (by omega),(bS.of (cP c) 0 hsl6).mv (Mv.eE hx8 fun b hb hn=>⟨fun(k:b=nb)=>hn (.inr k),hn⟩),by show r.length<=_;omega,hsg⟩ (by show r.length<(c::r).length;simp)
 · rw[yI (by omega)] at hsg;refine aW rfl rfl ?_;refine xr func333 rfl ?_;refine xp rfl (ai.aD H.dI H.bV rfl hk5.row (by first|rfl|(simp;done)|(simp;omega))) ?_;refine RW.bT rfl rfl rfl (ax.aB H.bV rfl rfl hkr5 (by first|rfl|(simp;done)|(simp;omega)) (by first|decide|exact of_decide_eq_true rfl|(simp;done)|(simp;omega)) (bS.one hnd5)) ?_;rintro _ h6 ⟨rfl,hk6,hx6,hz6⟩;refine xd [0,2,3,10] rfl ?_;have hk6:aL h6 h.size 291 (cX x.kind x.set w):=hk6;refine G.dM func333 rfl (.cons (aY.dB H.dI H.bV rfl (hk6.row) (by first|rfl|(simp;done)|(simp;omega))) (.nil)) ?_;exact⟨x,m,by rw[hpc,<-hsg],⟨w,rfl,hnd5.mv (Mv.eE hx6 fun b hb hn=>⟨fun(k:b=h.size)=>hn (.inl (by omega)),fun(k:b<h.size)=>hn (.inl (by omega))⟩)⟩,aL.ext hs5 hx6 (by show ¬_=_;omega),iD.only e5 hx6 (Nat.le_refl _)⟩
theorem uT (ih:tM d lim) (hg:Sg h lim) (hrb:lim<=rb) (hs:St h rb l) (hd:l.length<=d) (hl:l.length<=1000000):af Tryz.prog 286 #[yb rb] h (PR rb h (wo (dc d) l) (Cw h.size)):=by
 have hlt:=hs.lt;have hrl:∀{s x r},dc d s=some (x,r)->r.length<=s.length:=fun h=>jj d h
 refine af.of func286 rfl rfl ?_;refine xr func286 rfl ?_;refine xo rfl (ax.aO H.ja) ?_;rintro _ h1 ⟨rfl,hkr,he1,hz1⟩;refine xd [0,2] rfl ?_;refine aQ func286 1 [0,2,3] rfl ?_;refine ak rfl ?_;refine G.block rfl rfl ?_;have hkr:aL h1 h.size 291 (cX 0 0 (.slice none 0 0)):=hkr;generalize htg:kP (dc d) (l.length+1) l=tgt;have hrow:wo (dc d) l=tgt.map fun p=>(b9 2 p.1,p.2):=by unfold wo;rw[htg]
 have htg0:tgt.map (fun p=>(([]:List Nd)++p.1,p.2))=tgt:=by cases tgt<;>rfl
 refine bf (σ:=List Nd×Value×By) (fun q=>[(0,yb rb),(2,.pointer (some ⟨h.size,0,none⟩)),(3,q.2.1)]) (fun q h'=>St h' rb q.2.2/\eM pM (Dg h1.size) h' h1.size 291 q.2.1 q.1/\aL h' h.size 291 (cX 0 0 (.slice none 0 0))/\Ext (only rb) h h'/\q.2.2.length+q.1.length<=l.length/\(kP (dc d) (q.2.2.length+1) q.2.2).map (fun p=>(q.1++p.1,p.2))=tgt) (fun q=>q.2.2.length) (([],.slice none 0 0,l)) rfl ⟨rfl,rfl,rfl,trivial⟩ ⟨aL.aq hs he1,eM.nil _ _ _ _ _,hkr,av.of he1,by show l.length+0<=_;omega,by rw[htg];exact htg0⟩ ?_;rintro⟨acc,v,m⟩ h5 ⟨hs5,hv5,hkr5,e5,hm,hcon⟩ ih'
 try dsimp only
 dsimp only at hs5 hv5 hm hcon;refine ak rfl ?_;refine ak rfl ?_;refine G.bH [(24,.bool (!iQ m))] [(0,_),(2,_),(3,_)] ⟨rfl,rfl,rfl,trivial⟩ func286 rfl ?_ ?_
 · refine bO 2 rfl rfl (aa (off:=0) underlying361 rfl rfl H.gU rfl) ?_;refine xp rfl (ah H.gr rfl hs5.cell) ?_;refine xp rfl (ai.jD rfl rfl) ?_;refine br 1 rfl ?_;refine bI (d:=9) rfl (fun he=>?_) (fun he=>?_)
   · have hne:¬bs m=⟨#[]⟩:=of_decide_eq_true he;obtain⟨c,r,rfl⟩:=List.exists_cons_of_ne_nil (fun(e:m=[])=>hne (by rw[e];rfl));refine bO 2 rfl rfl (aa (off:=0) underlying361 rfl rfl H.gU rfl) ?_;refine xp rfl (ah H.gr rfl hs5.cell) ?_;refine xp rfl (ai.cH underlying9 rfl rfl 0 rfl (gk rfl)) ?_;refine br 3 rfl ?_;refine bI (d:=17) rfl (fun h124=>?_) (fun h124=>?_)
     · have h124:¬c=124:=fun e=>(of_decide_eq_true h124) ((cF rfl).2 e)
       refine bO 2 rfl rfl (aa (off:=0) underlying361 rfl rfl H.gU rfl) ?_;refine xp rfl (ah H.gr rfl hs5.cell) ?_;refine xp rfl (ai.cH underlying9 rfl rfl 0 rfl (gk rfl)) ?_;refine br 2 rfl ?_;refine RW.done rfl ?_;exact⟨rfl,aK rfl (by simp only[iQ];rw[show (c ==124)=false by simpa using h124,Bool.false_or,show (c ==41)=decide (c=41) by rw[Bool.eq_iff_iff];simp,<-decide_not];exact decide_eq_decide.2 (not_congr (cF rfl))),rfl,rfl,rfl,trivial⟩
     · have h124:c=124:=(cF rfl).1 (Classical.not_not.1 (of_decide_eq_false h124));refine br 7 rfl ?_;refine RW.done rfl ?_;exact⟨rfl,aK rfl (by simp[iQ,h124]),rfl,rfl,rfl,trivial⟩
   · have hne:bs m=⟨#[]⟩:=Classical.not_not.1 (of_decide_eq_false he);obtain rfl:m=[]:=ef hne;refine br 15 rfl ?_;refine RW.done rfl ?_;exact⟨rfl,aK rfl (by rfl),rfl,rfl,rfl,trivial⟩
 · obtain⟨css,hc1,hc2,hc3⟩:=id hv5;have hlt5:=hkr5.lt;have hz5:=e5.size;refine ay rfl rfl (fun hgo=>?_) (fun hgo=>?_)
   · have hend:iQ m=false:=by simpa using hgo
     have hcon':tgt=(match eS (dc d) m with|none=>none|some (x,r)=>((kP (dc d) (r.length+1) r).map fun p=>(x::p.1,p.2)).map (fun p=>(acc++p.1,p.2))):=by
      rw[<-hcon,kP,if_neg (by rw[hend];decide)];cases hp:eS (dc d) m with
      |none=>rfl
      |some q =>
       obtain⟨x,r⟩:=q;have:=eR hrl hp;simp only;rw[uU hrl m.length (r.length+1) r (by omega) (by omega)]
     refine az rfl ?_;refine G.block rfl rfl ?_;refine G.bB func286 rfl ?_;refine br 2 rfl ?_;refine xo rfl (aj (vs:=[_]) func333 rfl H.L3 rfl (af.iA (yY ih (hg.ext e5 (fun b (hb:b=rb)=>by omega)) hrb hs5 (by omega) (by omega)) ((fun _ _ ⟨hc,hp,hx⟩=>PR.no hc (by rw[hrow,hcon',hp];rfl) (e5.trans hx))))) ?_;rintro _ h6 ⟨x,r,hp,⟨w,rfl,hnd6⟩,hs6,hx6⟩;have hr6:=eR hrl hp;have hz6:=hx6.size;have hown:∀b,v.ownBlock=some b->h1.size<=b/\b<h5.size:=fun b hb=>hc2.lt hb
     have hc26:=hc2.ext hx6 (fun b hb (k:b=rb)=>by have:=hown b hb;omega);have hc36:∀(i:Nat) (cs:List Value) (x:Nd),css[i]? =some cs->acc[i]? =some x->pM.R h6 (fun b=>cC v.ownBlock b\/b<h1.size) cs x:=fun i cs x h1' h2'=>pM.mv (hc3 i cs x h1' h2') (Mv.eE hx6 fun b hb hn=>⟨fun(k:b=rb)=>hn (.inr (by show b<_;omega)),hn⟩)
     have hnd6':pM.R h6 (fun b=>cC v.ownBlock b\/b<h1.size) (cX x.kind x.set w) x:=bS.mv hnd6 ⟨Nat.le_refl _,fun b hb hn=>⟨rfl,fun k=>by
      have hn:¬b<h5.size:=hn
      rcases k with k|k
      · have:=hown b k.symm;omega
      · omega⟩⟩
     refine xo rfl (ax.cA (cs:=[_,_,_,_,_,_]) underlying289 H.sU rfl rfl (by decide)) ?_;rintro _ _ ⟨rfl,rfl⟩;refine xo rfl (ax.bN underlying289 H.sU rfl rfl (hc26) rfl rfl (bS.one hnd6) (by omega) (by decide) (by omega)) ?_;rintro v7 h7 ⟨ho7,hx7,-,hv7⟩;refine aM 1 [0,2,3,24] rfl ?_;refine G.aJ ?_;have hrb7:¬cC v.ownBlock rb:=fun k=>by have:=hown rb k.symm;omega
     have hr7:¬cC v.ownBlock h.size:=fun k=>by have:=hown _ k.symm;omega
     have e7:Ext (only rb) h h7:=⟨by have:=hx7.size;omega,fun b hb hn=>by rw[hx7.block b (by omega) (fun k=>by have:=hown b k.symm;omega)];exact(e5.trans hx6).block b hb hn⟩
     rw[hp] at hcon';exact ih' (acc++[x],v7,r) _ _ ⟨rfl,rfl,rfl,trivial⟩ ⟨aL.ext hs6 hx7 hrb7,eM.mB hc1 hc36 ho7 hx7 hv7 hnd6',(hkr5.ext hx6 (by show ¬_=_;omega)).ext hx7 hr7,e7,by show r.length+(acc++[x]).length<=_;rw[List.length_append,List.length_singleton];omega,by rw[hcon'];simp only[Option.map_map];congr 1;funext p;simp⟩ (by show r.length<m.length;omega)
   · have hend:iQ m=true:=by simpa using hgo
     rw[kP,if_pos hend] at hcon;have hsl:bF pM h5 (Dg h1.size) v acc:=hv5.read (fun b hb (k:b<h1.size)=>by omega) (fun b _ k=>k);refine aW rfl rfl ?_;refine bg func286 1 rfl ?_;refine xo rfl (aj (vs:=[_,_]) func288 rfl H.Jn rfl (af.aX (nG 2 hsl))) ?_;rintro _ h6 ⟨⟨w,rfl,hnd6⟩,he6⟩;refine RW.bT rfl rfl rfl (ax.aB H.bV rfl rfl (hkr5.aq he6) (by first|rfl|(simp;done)|(simp;omega)) (by first|decide|exact of_decide_eq_true rfl|(simp;done)|(simp;omega)) (bS.one hnd6)) ?_;rintro _ h7 ⟨rfl,hk7,hx7,hz7⟩;refine xd [0,2,3,24] rfl ?_;have hk7:aL h7 h.size 291 (cX (b9 2 acc).kind (b9 2 acc).set w):=hk7;have hz6:=he6.size;refine G.dM func286 rfl (.cons (aY.dB H.dI H.bV rfl (hk7.row) (by first|rfl|(simp;done)|(simp;omega))) (.nil)) ?_;exact⟨b9 2 acc,m,by rw[hrow,<-hcon];simp,⟨w,rfl,bS.low hnd6 (by omega) hx7 (fun b _ (hb:b=h.size)=>by omega)⟩,aL.ext (aL.aq hs5 he6) hx7 (by show ¬_=_;omega),iD.only (iD.aq e5 he6) hx7 (Nat.le_refl _)⟩
theorem DL (ih:tM d lim) (hg:Sg h lim) (hrb:lim<=rb) (hs:St h rb l) (hd:l.length<=d) (hl:l.length<=1000000):af Tryz.prog 239 #[yb rb] h (PR rb h (dc (d+1) l) (Cw h.size)):=by
 have hlt:=hs.lt;have hrl:∀{s x r},dc d s=some (x,r)->r.length<=s.length:=fun h=>jj d h
 have hrows:dc (d+1) l=match wo (dc d) l with|none=>none|some (x,r)=>pS (dc d) [x] r:=rA hrl [] l
 refine af.of func239 rfl rfl ?_;refine xr func239 rfl ?_;refine xo rfl (ax.aO H.ja) ?_;rintro _ h1 ⟨rfl,hkr,he1,hz1⟩;refine xd [0,2] rfl ?_;refine bg func239 1 rfl ?_;refine xo rfl (aj (vs:=[_]) func286 rfl H.Jo rfl (af.iA (uT ih (hg.ext he1 (fun _ k=>k.elim)) hrb (aL.aq hs he1) hd hl) ((fun _ _ ⟨hc,hp,hx⟩=>PR.no hc (by rw[hrows,hp]) ((av.of he1).trans hx))))) ?_;rintro _ h2 ⟨x0,m0,hp0,⟨w0,rfl,hnd2⟩,hs2,hx2⟩;have hkr:aL h1 h.size 291 (cX 0 0 (.slice none 0 0)):=hkr;have hz2:=hx2.size;have hm0:=yP hrl hp0;have ep:=Ext.push (fun _=>False) h2 (.cells (cX x0.kind x0.set w0).toArray 291);have hv0:eM pM (Dg h1.size) (h2.push (.cells (cX x0.kind x0.set w0).toArray 291)) h1.size 291 (.slice (some ⟨h2.size,0,none⟩) 1 1) [x0]:=eM.jn (e:=pM) hnd2 hz2;have hs3:St _ rb m0:=aL.aq hs2 ep;have hkr3:=(hkr.ext hx2 (by show ¬_=_;omega)).aq ep;have e3:=iD.aq ((av.of he1).trans hx2) ep;rw[hp0] at hrows;simp only at hrows;generalize htg:pS (dc d) [x0] m0=tgt at hrows;refine xo rfl (ax.cA (cs:=[_,_,_,_,_,_]) underlying289 H.sU rfl rfl (by decide)) ?_;rintro _ _ ⟨rfl,rfl⟩;refine aM 1 [0,2,3] rfl ?_;refine ak rfl ?_;refine G.block rfl rfl ?_;refine bf (σ:=List Nd×Value×By) (fun q=>[(0,yb rb),(2,.pointer (some ⟨h.size,0,none⟩)),(3,q.2.1)]) (fun q h'=>St h' rb q.2.2/\eM pM (Dg h1.size) h' h1.size 291 q.2.1 q.1/\aL h' h.size 291 (cX 0 0 (.slice none 0 0))/\Ext (only rb) h h'/\(q.2.2.length<=l.length/\q.2.2.length+q.1.length<=l.length+1)/\pS (dc d) q.1 q.2.2=tgt) (fun q=>q.2.2.length) (([x0],.slice (some ⟨h2.size,0,none⟩) 1 1,m0)) rfl ⟨rfl,rfl,rfl,trivial⟩ ⟨hs3,hv0,hkr3,e3,⟨by show m0.length<=_;omega,by show m0.length+1<=_;omega⟩,htg⟩ ?_;rintro⟨acc,v,m⟩ h5 ⟨hs5,hv5,hkr5,e5,⟨hml,hm⟩,hcon⟩ ih'
 try dsimp only
 dsimp only at hs5 hv5 hml hm hcon;refine ak rfl ?_;refine bg func239 1 rfl ?_;refine xo rfl (aj (vs:=[_,_]) func287 rfl H.CZ rfl (af.aX (jy 124 hs5 (by omega)))) ?_;rintro _ h6 ⟨hor,hx6⟩;refine xd [0,2,3,8] rfl ?_;have hlt5:=hkr5.lt;have hz5:=e5.size;have hz6:=hx6.size;have hkr6:=hkr5.ext hx6 (by show ¬_=_;omega);have e6:=e5.trans hx6;have hv6:eM pM (Dg h1.size) h6 h1.size 291 v acc:=hv5.mv (hx6.mono fun b _ (k:b=rb)=>(by omega:b<h1.size)) (fun b hb (k:b<h1.size)=>by omega) (fun b _ k=>k);obtain⟨css,hc1,hc2,hc3⟩:=id hv6
 rcases hor with ⟨a1,rfl,hs6⟩|⟨a1,rfl,hs6⟩
 · obtain⟨c,t,rfl⟩:=List.exists_cons_of_ne_nil (fun(e:m=[])=>by rw[e] at a1;cases a1);have hs6:St h6 rb t:=hs6;simp only[List.length_cons] at hm hml
   have hcon':tgt=match wo (dc d) t with|none=>none|some (x,r)=>pS (dc d) (acc++[x]) r:=by
    have hG:=rA (rows:=dc d) hrl acc t;rw[<-hcon];refine Eq.trans ?_ hG;unfold pS;rw[if_pos a1];rfl
   refine ay rfl rfl (fun _=>?_) (fun hc=>absurd hc (by decide));refine az rfl ?_;refine G.block rfl rfl ?_;refine G.bB func239 rfl ?_;refine br 2 rfl ?_;refine xo rfl (aj (vs:=[_]) func286 rfl H.Jo rfl (af.iA (uT ih (hg.ext e6 (fun b (hb:b=rb)=>by omega)) hrb hs6 (by omega) (by omega)) ((fun _ _ ⟨hc,hp,hx⟩=>PR.no hc (by rw[hrows,hcon',hp]) (e6.trans hx))))) ?_;rintro _ h7 ⟨x,r,hp,⟨w,rfl,hnd7⟩,hs7,hx7⟩;have hr7:=yP hrl hp;have hz7:=hx7.size;have hown:∀b,v.ownBlock=some b->h1.size<=b/\b<h6.size:=fun b hb=>hc2.lt hb
   have hc27:=hc2.ext hx7 (fun b hb (k:b=rb)=>by have:=hown b hb;omega);have hc37:∀(i:Nat) (cs:List Value) (x:Nd),css[i]? =some cs->acc[i]? =some x->pM.R h7 (fun b=>cC v.ownBlock b\/b<h1.size) cs x:=fun i cs x h1' h2'=>pM.mv (hc3 i cs x h1' h2') (Mv.eE hx7 fun b hb hn=>⟨fun(k:b=rb)=>hn (.inr (by show b<_;omega)),hn⟩)
   have hnd7':pM.R h7 (fun b=>cC v.ownBlock b\/b<h1.size) (cX x.kind x.set w) x:=bS.mv hnd7 ⟨Nat.le_refl _,fun b hb hn=>⟨rfl,fun k=>by
    have hn:¬b<h6.size:=hn
    rcases k with k|k
    · have:=hown b k.symm;omega
    · omega⟩⟩
   refine xo rfl (ax.cA (cs:=[_,_,_,_,_,_]) underlying289 H.sU rfl rfl (by decide)) ?_;rintro _ _ ⟨rfl,rfl⟩;refine xo rfl (ax.bN underlying289 H.sU rfl rfl (hc27) rfl rfl (bS.one hnd7) (by omega) (by decide) (by omega)) ?_;rintro v8 h8 ⟨ho8,hx8,-,hv8⟩;refine aM 1 [0,2,3,8] rfl ?_;refine G.aJ ?_;have hrb8:¬cC v.ownBlock rb:=fun k=>by have:=hown rb k.symm;omega
   have hr8:¬cC v.ownBlock h.size:=fun k=>by have:=hown _ k.symm;omega
   have e8:Ext (only rb) h h8:=⟨by have:=hx8.size;omega,fun b hb hn=>by rw[hx8.block b (by omega) (fun k=>by have:=hown b k.symm;omega)];exact(e6.trans hx7).block b hb hn⟩
   rw[hp] at hcon';exact ih' (acc++[x],v8,r) _ _ ⟨rfl,rfl,rfl,trivial⟩ ⟨aL.ext hs7 hx8 hrb8,eM.mB hc1 hc37 ho8 hx8 hv8 hnd7',(hkr6.ext hx7 (by show ¬_=_;omega)).ext hx8 hr8,e8,⟨by show r.length<=_;omega,by show r.length+(acc++[x]).length<=_;rw[List.length_append,List.length_singleton];omega⟩,hcon'.symm⟩ (by show r.length<(c::t).length;simp only[List.length_cons];omega)
 · refine ay rfl rfl (fun hc=>absurd hc (by decide)) (fun _=>?_);have hsl:bF pM h6 (Dg h1.size) v acc:=hv6.read (fun b hb (k:b<h1.size)=>by omega) (fun b _ k=>k);have hfin:tgt=some (b9 3 acc,m):=by rw[<-hcon];unfold pS;rw[if_neg a1]
   refine aW rfl rfl ?_;refine bg func239 1 rfl ?_;refine xo rfl (aj (vs:=[_,_]) func288 rfl H.Jn rfl (af.aX (nG 3 hsl))) ?_;rintro _ h7 ⟨⟨w,rfl,hnd7⟩,he7⟩;refine RW.bT rfl rfl rfl (ax.aB H.bV rfl rfl (hkr6.aq he7) (by first|rfl|(simp;done)|(simp;omega)) (by first|decide|exact of_decide_eq_true rfl|(simp;done)|(simp;omega)) (bS.one hnd7)) ?_;rintro _ h8 ⟨rfl,hk8,hx8,hz8⟩;refine xd [0,2,3,8] rfl ?_;have hk8:aL h8 h.size 291 (cX (b9 3 acc).kind (b9 3 acc).set w):=hk8;have hz7:=he7.size;refine G.dM func239 rfl (.cons (aY.dB H.dI H.bV rfl (hk8.row) (by first|rfl|(simp;done)|(simp;omega))) (.nil)) ?_;exact⟨b9 3 acc,m,by rw[hrows,hfin],⟨w,rfl,bS.low hnd7 (by omega) hx8 (fun b _ (hb:b=h.size)=>by omega)⟩,aL.ext (aL.aq hs6 he7) hx8 (by show ¬_=_;omega),iD.only (iD.aq e6 he7) hx8 (Nat.le_refl _)⟩
theorem CU (lim:Nat):∀d,tM d lim
 | 0=>fun _ _ l _ _ _ h _=>absurd h (Nat.not_lt_zero _)
 |d+1=>fun _ _ _ hg hrb hs hd hl=>DL (CU lim d) hg hrb hs (by omega) hl
end
end Go.Proofs.YtdihgdeciopfpaaGreatDoor
namespace Go.Proofs.YtdihgdeciopfpaaGreatDoor
open Go.Proofs.Tryz
open Go Go.Lw Go.RowKit
set_option maxRecDepth 20000
section
variable {h:au}{nb eb:Nat}
abbrev uC:List Value:=cX 0 0 (.slice none 0 0)
theorem Ce {cs:List Value}{v0:Value}(hcs:cs.length=6) (hk:aL h nb 291 cs) (he:aL h eb 38 [v0]) (hne:nb≠eb) (B w:World) (ha:At B h w) :
 CallsD Tryz.prog 238 #[.pointer (some ⟨nb,0,none⟩),.pointer (some ⟨eb,0,none⟩)] (.panicking [{ v:=rJ,recovered:=false }]) w fun e u' w' =>
  (∃r,e= .returned r)/\u'= .panicking [{ v:=rJ,recovered:=true }]/\∃h',At B h' w'/\aL h' nb 291 uC/\aL h' eb 38 [.int .i64 10]/\Ext (fun b=>b=nb\/b=eb) h h':=by
 refine lu (v:=rJ) (vs:=[.pointer (some ⟨nb,0,none⟩),.pointer (some ⟨eb,0,none⟩)]) (u':=.panicking [{ v:=rJ,recovered:=true }]) func238 rfl rfl rfl rfl rfl rfl rfl rfl rfl rfl (fun c₀ cs hu=>.inl (by simp[recoverD,hu])) (fun a hf=>?_);refine wp_seq (wp_region ?_);refine(show RW Tryz.prog Tryz.f238.ntmps _ 0 _ h (fun ρ' h'=>h'=h/\Sub [(5,.bool true),(2,rJ),(0,.pointer (some ⟨nb,0,none⟩)),(1,.pointer (some ⟨eb,0,none⟩))] ρ') (fun _ _=>False) from ?_) B a w hf ha _ ?_ (fun _ _ _ _ _ _ k=>k.elim)
 · refine bO 1 rfl rfl (ai.zm underlying20 rfl (.inr ⟨_,_,rfl⟩)) ?_;exact RW.done rfl ⟨rfl,rfl,rfl,rfl,rfl,trivial⟩
 rintro ρ' h' a1 w1 hf1 ha1 ⟨rfl,hsub⟩;have hf1:=hf1.sub hsub;refine wp_cond_true (hf1.eval (x:=.tmp 5) rfl) ?_;refine wp_seq (wp_region ?_);refine(show RW Tryz.prog Tryz.f238.ntmps _ 0 _ h' (fun ρ' g=>g=h'/\Sub [(0,.pointer (some ⟨nb,0,none⟩)),(1,.pointer (some ⟨eb,0,none⟩))] ρ') (fun _ _=>False) from ?_) B a1 w1 hf1 ha1 _ ?_ (fun _ _ _ _ _ _ k=>k.elim)
 · refine bO 1 rfl rfl (ai.tX underlying358 rfl) ?_;exact RW.done rfl ⟨rfl,rfl,rfl,trivial⟩
 rintro ρ'' h'' a2 w2 hf2 ha2 ⟨rfl,hsub2⟩;have hf2:=hf2.sub hsub2;refine wp_region ?_;refine(show RW Tryz.prog Tryz.f238.ntmps _ 0 _ h'' (fun _ g=>aL g nb 291 uC/\aL g eb 38 [.int .i64 10]/\Ext (fun b=>b=nb\/b=eb) h'' g) (fun _ _=>False) from ?_) B a2 w2 hf2 ha2 _ ?_ (fun _ _ _ _ _ _ k=>k.elim)
 · refine xp rfl (aE (H.Co ) rfl) ?_;refine RW.bT rfl rfl rfl (ax.aB H.bV rfl rfl hk rfl (by rw[hcs];decide) (by first|decide|simp[Value.oneCell'])) ?_;rintro _ h3 ⟨rfl,hk3,hx3,hz3⟩
   have hk3:aL h3 nb 291 uC:=by
    rw[FD (by rw[hcs];rfl)] at hk3;exact hk3
   refine RW.bT rfl rfl rfl (ax.aH H.je rfl rfl (he.ext hx3 (fun e=>hne e.symm)) (by simp) rfl) ?_;rintro _ h4 ⟨rfl,hk4,hx4,hz4⟩;exact RW.done rfl ⟨hk3.ext hx4 (fun e=>hne e),hk4,(hx3.mono fun _ _ k=>.inl k).trans (hx4.mono fun _ _ k=>.inr k)⟩
 rintro _ h5 a5 w5 hf5 ha5 ⟨hq1,hq2,hq3⟩;exact⟨hf5.nd,_,dU hf5 ha5 .nil,⟨_,rfl⟩,rfl,h5,ha5,hq1,hq2,hq3⟩
theorem Cf (B w:World) (ha:At B h w) :
 CallsD Tryz.prog 238 #[.pointer (some ⟨nb,0,none⟩),.pointer (some ⟨eb,0,none⟩)] .returning w fun e u' w'=>(∃r,e= .returned r)/\u'= .returning/\At B h w':=by
 refine lu (v:=.nilIface) (vs:=[.pointer (some ⟨nb,0,none⟩),.pointer (some ⟨eb,0,none⟩)]) (u':=.returning) func238 rfl rfl rfl rfl rfl rfl rfl rfl rfl rfl (fun c₀ cs hu=>.inr ⟨by simp[recoverD,hu],rfl,rfl⟩) (fun a hf=>?_);refine wp_seq (wp_region ?_);refine(show RW Tryz.prog Tryz.f238.ntmps _ 0 _ h (fun ρ' h'=>h'=h/\Sub [(5,.bool false)] ρ') (fun _ _=>False) from ?_) B a w hf ha _ ?_ (fun _ _ _ _ _ _ k=>k.elim)
 · refine bO 1 rfl rfl (ai.zm underlying20 rfl (.inl rfl)) ?_;exact RW.done rfl ⟨rfl,rfl,trivial⟩
 rintro ρ' h' a1 w1 hf1 ha1 ⟨rfl,hsub⟩;have hf1:=hf1.sub hsub;refine wp_cond_false (hf1.eval (x:=.tmp 5) rfl) (wp_skip ?_);exact⟨hf1.nd,_,dU hf1 ha1 .nil,⟨_,rfl⟩,rfl,ha1⟩
theorem rY {cs:List Value}{v0:Value}{ρ:Env}{R:Ending->au->Prop}(h2:ρ.at 2=some (.pointer (some ⟨nb,0,none⟩))) (h3:ρ.at 3=some (.pointer (some ⟨eb,0,none⟩))) (hcs:cs.length=6) (hk:aL h nb 291 cs) (he:aL h eb 38 [v0]) (hne:nb≠eb)
 (hR:∀h',Ext (fun b=>b=nb\/b=eb) h h'->R (.returned (.tuple #[.agg uC.toArray,.int .i64 10])) h') :
 lO Tryz.prog f185 [{ target:=.fn (.func 238) #[.pointer (some ⟨nb,0,none⟩),.pointer (some ⟨eb,0,none⟩)],args:= #[] }] (.panicking [{ v:=rJ,recovered:=false }]) ρ h R:=by
 intro B a w hf ha;refine leaves_cons (f:=238) (args:= #[.pointer (some ⟨nb,0,none⟩),.pointer (some ⟨eb,0,none⟩)]) (by simp) (l7 func238 rfl (by decide +kernel)) ?_;refine(Ce hcs hk he hne B w ha).mono ?_;rintro e u' w' ⟨⟨r,rfl⟩,rfl,h',ha',hk',he',hx'⟩;refine⟨_,dU hf.zero ha' (.cons (aY.dB H.dI H.bV h2 hk'.row rfl) (.cons (aY.cell H.K0 h3 (he'.cell (i:=0) rfl)) .nil)),h',ha',hR h' hx'⟩
theorem BP {x:Nd}{w0:Value}{e0:Int}{ρ:Env}{R:Ending->au->Prop}(h2:ρ.at 2=some (.pointer (some ⟨nb,0,none⟩))) (h3:ρ.at 3=some (.pointer (some ⟨eb,0,none⟩))) (hk:aL h nb 291 (cX x.kind x.set w0)) (he:aL h eb 38 [.int .i64 e0])
 (hR:R (.returned (.tuple #[.agg (cX x.kind x.set w0).toArray,.int .i64 e0])) h) :
 lO Tryz.prog f185 [{ target:=.fn (.func 238) #[.pointer (some ⟨nb,0,none⟩),.pointer (some ⟨eb,0,none⟩)],args:= #[] }] .returning ρ h R:=by
 intro B a w hf ha;refine leaves_cons (f:=238) (args:= #[.pointer (some ⟨nb,0,none⟩),.pointer (some ⟨eb,0,none⟩)]) (by simp) (l7 func238 rfl (by decide +kernel)) ?_;refine(Cf B w ha).mono ?_;rintro e u' w' ⟨⟨r,rfl⟩,rfl,ha'⟩;refine⟨_,dU hf.zero ha' (.cons (aY.dB H.dI H.bV h2 hk.row rfl) (.cons (aY.cell H.K0 h3 (he.cell (i:=0) rfl)) .nil)),h,ha',hR⟩
def K4 (h h':au) (s:By) (r:Value):Prop:=∃w,r= .tuple #[.agg (cX (bR s).1.kind (bR s).1.set w).toArray,.int .i64 (bR s).2]/\bS h' (Dg h.size) (cX (bR s).1.kind (bR s).1.set w) (bR s).1
theorem y8 {lim:Nat}(hg:Sg h lim) (hlim:lim<=h.size) (s:By) (hs:s.length<=1000000):af Tryz.prog 185 #[.string (bs s)] h (bC fun r h'=>K4 h h' s r/\av h h'):=by
 have hsz:=aR s;refine af.of func185 rfl rfl ?_;refine xr func185 rfl ?_;refine xo rfl (ax.aO H.ja) ?_;rintro _ h1 ⟨rfl,hk1,he1,hz1⟩;refine xo rfl (ax.aO H.Lh) ?_;rintro _ h2 ⟨rfl,hk2,he2,hz2⟩;refine xd [0,2,3] rfl ?_;refine ak rfl ?_;refine bg func185 1 rfl ?_;refine xp rfl (ai.aU underlying9 rfl) ?_;refine aM 1 [0,2,3,7] rfl ?_;have hk1:aL h1 h.size 291 uC:=hk1;have hk2:aL h2 h1.size 38 [.int .i64 0]:=hk2;have hk12:=hk1.aq he2;have e2:=he1.trans he2;refine aN rfl rfl (fun hbig=>?_) (fun hbig=>?_)
 · have hE:bR s=(lM,3):=by unfold bR;rw[if_pos (by omega)]
   refine xr func185 rfl ?_;refine xp rfl (aE (H.Co ) rfl) ?_;refine RW.bT rfl rfl rfl (ax.aB H.bV rfl rfl hk12 (by first|rfl|(simp;done)|(simp;omega)) (by first|decide|exact of_decide_eq_true rfl|(simp;done)|(simp;omega)) (by first|decide|simp[Value.oneCell'])) ?_;rintro _ h3 ⟨rfl,hk3,hx3,hz3⟩;refine RW.bT rfl rfl rfl (ax.aH H.je rfl rfl (hk2.ext hx3 (by show ¬_=_;omega)) (by first|decide|exact of_decide_eq_true rfl|(simp;done)|(simp;omega)) rfl) ?_;rintro _ h4 ⟨rfl,hk4,hx4,hz4⟩;refine xd [0,2,3,7] rfl ?_;have hk3:aL h3 h.size 291 uC:=hk3;have hk4:aL h4 h1.size 38 [.int .i64 3]:=hk4;refine G.dM func185 rfl (.cons (aY.dB H.dI H.bV rfl ((hk3.ext hx4 (by show ¬_=_;omega)).row) (by first|rfl|(simp;done)|(simp;omega))) (.cons (aY.cell H.K0 rfl (hk4.cell (i:=0) rfl)) (.nil))) ?_;refine⟨_,rfl,⟨.slice none 0 0,by rw[hE];rfl,by rw[hE];exact er _ _ 0 0⟩,av.only (av.only e2 hx3 (Nat.le_refl _)) hx4 (by omega)⟩
 · refine az rfl ?_;refine ak rfl ?_;refine G.KT (caps:=[.pointer (some ⟨h.size,0,none⟩),.pointer (some ⟨h1.size,0,none⟩)]) func185 rfl rfl rfl rfl rfl rfl rfl rfl rfl rfl rfl ?_;have hE:bR s=match iS s with|some x=>(x,0)|none=>(lM,10):=by unfold bR;rw[if_neg (by omega)];rfl
   refine fc rfl ?_;refine GD.bB func185 rfl ?_;refine eo.an rfl rfl rfl rfl (aF rfl) ?_;refine eo.an rfl rfl rfl rfl (aE (H.IC _) rfl) ?_;refine eo.ou rfl rfl rfl rfl (ax.cq rfl) ?_;rintro _ h3 ⟨rfl,hk3,he3,hz3⟩;refine eo.an rfl rfl rfl rfl (ai.assign rfl) ?_;refine eo.done rfl ?_;refine GD.sub (ρ':=[(0,_),(2,_),(3,_),(4,_),(7,_)]) ⟨rfl,rfl,rfl,rfl,rfl,trivial⟩ ?_;refine fc rfl ?_;refine GD.bB func185 rfl ?_;refine eo.an rfl rfl rfl rfl (aF rfl) ?_;have hk3:aL h3 h2.size 361 [.string (bs s)]:=hk3;have hg3:Sg h3 lim:=hg.ext (e2.trans he3) (fun _ k=>k.elim);have hrows:=CU lim (s.length+1) h3 h2.size s hg3 (by omega) hk3 (Nat.lt_succ_self _) hs;have hk13:=hk12.aq he3;have hk23:=hk2.aq he3;have e3:=e2.trans he3;refine eo.ou rfl rfl rfl rfl (aj (vs:=[_]) func239 rfl H.Jq rfl (af.iA (hrows) ((fun _ h' ⟨hc,hp,hx⟩=>by rw[hc];exact rY rfl rfl rfl (hk13.ext hx (by show ¬_=_;omega)) (hk23.ext hx (by show ¬_=_;omega)) (by omega) (fun h'' hx2=>⟨_,rfl,⟨.slice none 0 0,by rw[hE];unfold iS;rw[hp];rfl,by rw[hE];unfold iS;rw[hp];exact er _ _ 0 0⟩,⟨by have:=hx.size;have:=hx2.size;have:=e3.size;omega,fun b hb _=>by rw[hx2.block b (by have:=hx.size;omega) (by omega),hx.block b (by omega) (by show ¬_=_;omega)];exact e3.block b hb (fun k=>k)⟩⟩))))) ?_;rintro _ h4 ⟨x,r,hp,⟨w,rfl,hnd⟩,hs4,hx4⟩;have hz4:=hx4.size;have hk14:=hk13.ext hx4 (by show ¬_=_;omega);have hk24:=hk23.ext hx4 (by show ¬_=_;omega);have e4:av h h4:=av.only e3 hx4 (by omega);refine eo.bT rfl rfl rfl (ax.aB H.bV rfl rfl hk14 (by first|rfl|(simp;done)|(simp;omega)) (by first|decide|exact of_decide_eq_true rfl|(simp;done)|(simp;omega)) (bS.one hnd)) ?_;rintro _ h5 ⟨rfl,hk5,hx5,hz5⟩;refine eo.done rfl ?_;refine GD.sub (ρ':=[(0,_),(2,_),(3,_),(4,_),(7,_)]) ⟨rfl,rfl,rfl,rfl,rfl,trivial⟩ ?_;refine fc rfl ?_;refine fc rfl ?_;refine GD.bB func185 rfl ?_;refine eo.an rfl rfl rfl rfl (aF rfl) ?_;refine eo.an rfl rfl rfl rfl (aV rfl) ?_;refine eo.an rfl rfl rfl rfl (aa (off:=0) underlying361 rfl rfl H.gU rfl) ?_;have hk5:aL h5 h.size 291 (cX x.kind x.set w):=hk5;have hk25:=hk24.ext hx5 (by show ¬_=_;omega);have hs5:St h5 h2.size r:=aL.ext hs4 hx5 (by show ¬_=_;omega);have hnd5:bS h5 (Dg h3.size) (cX x.kind x.set w) x:=bS.low hnd (Nat.le_refl _) hx5 (fun b _ (hb:b=h.size)=>by omega);have e5:=av.only e4 hx5 (Nat.le_refl _);refine eo.an rfl rfl rfl rfl (ah H.gr rfl hs5.cell) ?_;refine eo.an rfl rfl rfl rfl (ai.jD rfl rfl) ?_;refine eo.done rfl ?_;refine GD.sub (ρ':=[(0,_),(2,_),(3,_),(4,_),(7,_),(19,_)]) ⟨rfl,rfl,rfl,rfl,rfl,rfl,trivial⟩ ?_;refine Hl rfl rfl (fun hr=>?_) (fun hr=>?_)
   · have hr:r≠[]:=fun e=>hr (by rw[e];rfl)
     have hpn:iS s=none:=by
      unfold iS;rw[hp];cases r with
      |nil=>exact absurd rfl hr
      |cons c t=>rfl
     refine GD.bB func185 rfl ?_;refine eo.an rfl rfl rfl rfl (aE (H.fQ ) rfl) ?_;refine eo.an rfl rfl rfl rfl (bw H.jo rfl) ?_;refine eo.bT rfl rfl rfl (cO (Φ:=fun _ _=>False) rfl (rY rfl rfl rfl hk5 hk25 (by omega) (fun h'' hx2=>⟨_,rfl,⟨.slice none 0 0,by rw[hE,hpn];rfl,by rw[hE,hpn];exact er _ _ 0 0⟩,⟨by have:=hx2.size;have:=e5.size;omega,fun b hb _=>by rw[hx2.block b (by have:=e5.size;omega) (by omega)];exact e5.block b hb (fun k=>k)⟩⟩))) ?_;rintro _ _ hpn;exact hpn.elim
   · obtain rfl:r=[]:=ef (Classical.not_not.1 hr);have hpn:iS s=some x:=by unfold iS;rw[hp]
     refine xZ rfl ?_;refine fc rfl ?_;refine GD.bB func185 rfl ?_;refine eo.an rfl rfl rfl rfl (ai.aD H.dI H.bV rfl hk5.row (by first|rfl|(simp;done)|(simp;omega))) ?_;refine eo.bT rfl rfl rfl (ax.aB H.bV rfl rfl hk5 (by first|rfl|(simp;done)|(simp;omega)) (by first|decide|exact of_decide_eq_true rfl|(simp;done)|(simp;omega)) (bS.one hnd5)) ?_;rintro _ h6 ⟨rfl,hk6,hx6,hz6⟩;refine eo.bT rfl rfl rfl (ax.aH H.je rfl rfl (hk25.ext hx6 (by show ¬_=_;omega)) (by first|decide|exact of_decide_eq_true rfl|(simp;done)|(simp;omega)) rfl) ?_;rintro _ h7 ⟨rfl,hk7,hx7,hz7⟩;refine eo.done rfl ?_;refine GD.sub (ρ':=[(0,_),(2,_),(3,_),(4,_),(7,_),(19,_)]) ⟨rfl,rfl,rfl,rfl,rfl,rfl,trivial⟩ ?_;have hk6:aL h6 h.size 291 (cX x.kind x.set w):=hk6;have hk7:aL h7 h1.size 38 [.int .i64 0]:=hk7;have hk17:=hk6.ext hx7 (by show ¬_=_;omega);have e7:=av.only (av.only e5 hx6 (Nat.le_refl _)) hx7 (by omega);have hnd7:bS h7 (Dg h.size) (cX x.kind x.set w) x:=bS.low (bS.low hnd5 (Nat.le_refl _) hx6 (fun b _ (hb:b=h.size)=>by omega)) (by omega) hx7 (fun b _ (hb:b=h1.size)=>by omega);refine GD.ret func185 rfl ?_;exact BP rfl rfl hk17 hk7 ⟨_,rfl,⟨w,by rw[hE,hpn],by rw[hE,hpn];exact hnd7⟩,e7⟩
end
end Go.Proofs.YtdihgdeciopfpaaGreatDoor
namespace Go.Proofs.YtdihgdeciopfpaaGreatDoor
open Go.Proofs.Tryz
open Go Go.Lw
set_option maxRecDepth 20000
section
variable {h h':au}{O:Nat->Prop}{v w:Value}{nb st n i:Nat}{ss:List bM}{x:bM}{rules:List By}{todo:List Nat}{seen:List Bool}
def cT (n:Nat):Value:=.int .i64 (n:Nat)
def gj:fF Nat:=.flat cT fun _=>rfl
def DH (k s:Nat) (v:Value) (r:Nat):List Value:=[.int .i64 (k:Nat),dH s 0,dH s 1,dH s 2,dH s 3,v,.int .i64 (r:Nat)]
def G9 (h:au) (O:Nat->Prop) (cs:List Value) (x:bM):Prop:=∃v,cs=DH x.kind x.set v x.rule/\bF gj h O v x.to
theorem bF.JJ {α:Type}{e:fF α}{xs:List α}(k:bF e h O v xs):v.oneCell'=true:=by
 obtain⟨oa,n,c,rfl,_⟩:=k;rfl
def Ei:fF bM:=⟨7,by decide,G9,fun h=>by obtain⟨v,rfl,_⟩:=h;rfl,fun h=>by
 obtain⟨v,rfl,hv⟩:=h;intro u hu;simp[DH,dH] at hu
 rcases hu with rfl|rfl|rfl|rfl|rfl|rfl|rfl<;>first|rfl|exact bF.JJ hv,fun h m=>by
 obtain⟨v,hc,hv⟩:=h;exact⟨v,hc,hv.mv m⟩⟩
structure b6 (h:au) (O:Nat->Prop) (nb:Nat) (v:Value) (ss:List bM) (st:Nat):Prop where
 blk:aL h nb 287 [v,.int .i64 (st:Nat)]
 row:eM Ei (fun b=>b=nb\/O b) h (nb+1) 297 v ss
abbrev dG (nb:Nat) (v:Value):Nat->Prop:=fun b=>b=nb\/cC v.ownBlock b
theorem b6.own (k:b6 h O nb v ss st):∀b,v.ownBlock=some b->nb<b/\b<h.size:=fun b hb=>by
 obtain⟨css,_,h2,_⟩:=k.row;have:=h2.lt hb;omega
theorem b6.ext {M:Nat->Prop}{O O':Nat->Prop}{h h':au}{nb:Nat}{v:Value}{ss:List bM}{st:Nat}(k:b6 h O nb v ss st) (e:Ext M h h') (hnb:¬M nb) (hown:∀b,v.ownBlock=some b->¬M b) (hM:∀b,b<h.size->M b->O b) (hO:∀b,b<h.size->O' b->O b):b6 h' O' nb v ss st :=
 ⟨k.blk.ext e hnb,k.row.DZ e hown (fun b hb hm=>.inr (hM b hb hm)) (fun b hb k=>k.imp id (hO b hb))⟩
theorem b6.aq {O':Nat->Prop}(k:b6 h O nb v ss st) (e:av h h') (hO:∀b,b<h.size->O' b->O b):b6 h' O' nb v ss st:=k.ext e (fun k=>k) (fun _ _ k=>k) (fun _ _ k=>k.elim) hO
theorem EF (hn:b6 h O nb v ss st) (_hO:∀b,O b->b<h.size) (hx:G9 h (fun b=>dG nb v b\/O b) (DH x.kind x.set w x.rule) x) (hl:ss.length<=1000000) :
 af Tryz.prog 187 #[.pointer (some ⟨nb,0,none⟩),.agg (DH x.kind x.set w x.rule).toArray] h (bC fun r h'=>∃v',r= .int .i64 (ss.length:Nat)/\b6 h' O nb v' (ss++[x]) st/\Ext (dG nb v) h h'/\(∀b,v'.ownBlock=some b->v.ownBlock=some b\/h.size<=b)):=by
 have hw1:∀u∈DH x.kind x.set w x.rule,u.oneCell'=true:=Ei.one hx;refine af.of func187 rfl rfl ?_;refine xr func187 rfl ?_;refine xo rfl (ax.cq rfl) ?_;rintro _ h1 ⟨rfl,hk1,he1,hz1⟩;have hk1:aL h1 h.size 297 (DH x.kind x.set w x.rule):=hk1;have hn1:=hn.aq (O':=O) he1 (fun _ _ k=>k);obtain⟨css,hc1,hc2,hc3⟩:=id hn1.row;have hown:=hn1.own;have hnlt:=hn1.blk.lt;have hnz:=hn.blk.lt;have hnM:¬(cC v.ownBlock nb\/Array.size h1<=nb):=by rintro(k|k);(have:=hown nb k.symm;omega);omega
 have hkM:¬(cC v.ownBlock h.size\/Array.size h1<=h.size):=by rintro(k|k);(have:=hn.own _ k.symm;omega);omega
 refine aM 1 [0,1,3,4] rfl ?_;refine ak rfl ?_;refine bK (fun b=>cC v.ownBlock b\/Array.size h1<=b) (fun i=>Nat.blt i 10) (sz:=11) (listed:= #[false,false,false,false,false,false,false,false,false,false,false]) func187 H.mixed rfl rfl rfl ?_;refine bu 0 1 (by kernel_rfl) rfl ?_;refine bu 1 3 (by kernel_rfl) rfl ?_;refine bu 2 7 (by kernel_rfl) rfl ?_;refine bn 3 15 (by kernel_rfl) rfl (fun h' e=>aa (off:=0) underlying287 rfl rfl H.fq rfl) ?_;refine bn 4 31 (by kernel_rfl) rfl (fun h' e=>ah H.gp rfl (e.cell hnM (hn1.blk.cell (i:=0) rfl))) ?_;refine bn 5 63 (by kernel_rfl) rfl (fun h' e=>ai.aD H.Nj H.jT rfl (e.rowAt hkM hk1.row) (by first|rfl|(simp;done)|(simp;omega))) ?_;refine cE 6 127 (by kernel_rfl) rfl (ax.cA (cs:=[_,_,_,_,_,_,_]) underlying285 H.JP rfl rfl (by decide)) ?_;rintro _ _ ⟨rfl,rfl⟩;refine⟨fun _=>by first|exact Ext.push _ _ _|assumption,?_⟩;refine cE 7 255 (by kernel_rfl) rfl (ax.bN underlying285 H.JP rfl rfl (hc2) rfl rfl (hw1) (by omega) (by decide) (by omega)) ?_;rintro v2 h2 ⟨ho2,hx2,hx2',hv2⟩;refine⟨fun _=>hx2'.mono (fun _ _ k=>.inl k),?_⟩;obtain⟨oa2,c2,rfl,_⟩:=ho2.open;refine cE 8 511 (by kernel_rfl) rfl (ai.aX (aV rfl)) ?_;rintro _ hq_ ⟨rfl,hqe_⟩;replace hqe_:=hqe_.symm;subst hqe_;refine⟨fun _=>Ext.refl _ _,?_⟩;refine bn 9 1023 (by kernel_rfl) rfl (fun h' e=>aa (off:=0) underlying287 rfl rfl H.fq rfl) ?_;refine jP 10 2047 (by kernel_rfl) rfl (ax.aH H.fq rfl rfl (hn1.blk.ext hx2 (fun k=>by have:=hown nb k.symm;omega)) (by first|decide|exact of_decide_eq_true rfl|(simp;done)|(simp;omega)) rfl) ?_;rintro _ h3 ⟨rfl,hk3,hx3,hz3⟩;refine⟨fun hk=>(nomatch hk),?_⟩;refine RD.done (by kernel_rfl) ?_;refine xu [0,1,3,4] rfl ?_;refine bg func187 2 rfl ?_;refine xp rfl (aa (off:=0) underlying287 rfl rfl H.fq rfl) ?_;have hxs:Ei.R h1 (fun b=>cC v.ownBlock b\/b=nb\/O b) (DH x.kind x.set w x.rule) x:=Ei.mv hx ⟨he1.size,fun b hb hn=>⟨he1.block b hb (fun k=>k),fun k=>hn (by rcases k with k|k|k;(exact .inl (.inr k));(exact .inl (.inl k));exact .inr k)⟩⟩;have hrow2:eM Ei (fun b=>b=nb\/O b) h2 (nb+1) 297 (.slice oa2 (ss.length+1) c2) (ss++[x]):=eM.mB hc1 hc3 ho2 hx2 hv2 hxs;have hrow3:eM Ei (fun b=>b=nb\/O b) h3 (nb+1) 297 (.slice oa2 (ss.length+1) c2) (ss++[x]):=hrow2.DZ hx3 (fun b hb (k:b=nb)=>by have:=hv2 b hb;rcases this with k'|k';(have:=hown b k';omega);omega) (fun b _ k=>.inl k) (fun b _ k=>k);have hk3:aL h3 nb 287 [.slice oa2 (ss.length+1) c2,.int .i64 (st:Nat)]:=hk3;refine xp rfl (ah H.gp rfl (hk3.cell (i:=0) rfl)) ?_;refine xp rfl (ai.aI underlying285 rfl) ?_;refine xp rfl (ai.fh rfl rfl ⟨by omega,by omega⟩) ?_;refine aM 1 [0,1,3,4] rfl ?_;refine G.ret func187 rfl rfl ?_;refine⟨_,rfl,_,?_,⟨hk3,hrow3⟩,⟨by have:=he1.size;have:=hx2.size;omega,fun b hb hn=>by rw[hx3.block b (by have:=hx2.size;omega) (fun k=>hn (.inl k)),hx2.block b (by omega) (fun k=>hn (.inr k)),he1.block b hb (fun k=>k)]⟩,fun b hb=>?_⟩
 · show Value.int _ _=_
   congr 1;omega
 · rcases hv2 b hb with k|k
   · exact .inl k
   · exact .inr (by omega)
theorem ql {l cap:Nat}{oa:Option Addr}{c:Nat}{J:Nat->au->Prop}(hn:n<=1000000)
 (hread:∀j h,J j h->cellAt h ⟨cap,0,none⟩=some (.slice oa n c)) (hy:∀j h,J (j+1) h->j<n->∃(b o k s:Nat) (w:Value),oa=some ⟨b,o,none⟩/\Lw.rowAt h b (o+j*6) (cX k s w) /\
  dn Tryz.prog l #[.int .i64 (j:Nat),.agg (cX k s w).toArray] h (bC fun r h'=>r= .bool true/\J j h')) (h0:J n h) :
 af Tryz.prog 289 #[.func (.yield l) #[] #[],.pointer (some ⟨cap,0,none⟩)] h (bC fun _ h'=>J 0 h'):=by
 refine af.of func289 rfl rfl ?_;refine xr func289 rfl ?_;refine xp rfl (ah H.tG rfl (hread _ _ h0)) ?_;refine xp rfl (ai.aI underlying289 rfl) ?_;refine xp rfl (ai.fh rfl rfl ⟨by omega,by omega⟩) ?_;refine aM 1 [0,1,3] rfl ?_;refine G.block rfl rfl ?_;refine bf (σ:=Nat) (fun j=>[(0,.func (.yield l) #[] #[]),(1,.pointer (some ⟨cap,0,none⟩)),(3,.int .i64 ((j:Int)-1))]) (fun j h'=>J j h'/\j<=n) (fun j=>j) (n) rfl ⟨rfl,rfl,rfl,trivial⟩ ⟨h0,Nat.le_refl _⟩ ?_;rintro j h1 ⟨hJ,hj⟩ ih;refine ak rfl ?_;refine aQ func289 2 [0,1,3,8] rfl ?_;refine aN rfl rfl (fun hge=>?_) (fun hge=>?_)
 · obtain⟨i,rfl⟩:∃i,j=i+1:=⟨j-1,by omega⟩
   obtain⟨b,o,k,s,w,ha,hrow,hyy⟩:=hy i h1 hJ (by omega);have hji:((i+1:Nat):Int)-1=((i:Nat):Int):=by omega
   rw[hji];refine az rfl ?_;refine ak rfl ?_;refine G.block rfl rfl ?_;refine ak rfl ?_;refine G.DP func289 rfl ?_;refine bh.an rfl rfl rfl rfl rfl (aF rfl) ?_;refine bh.an rfl rfl rfl rfl rfl (aF rfl) ?_;refine bh.an rfl rfl rfl rfl rfl (ah H.tG rfl (hread _ _ hJ)) ?_;refine bh.an rfl rfl rfl rfl rfl (aF rfl) ?_;refine bh.an rfl rfl rfl rfl rfl (ai.aA underlying289 H.bV rfl rfl i rfl ha (by omega)) ?_;refine bh.an rfl rfl rfl rfl rfl (ai.aD H.dI H.bV rfl hrow (by first|rfl|(simp;done)|(simp;omega))) ?_;refine bh.yield (vs:=[_,_]) rfl rfl rfl rfl rfl rfl rfl (hyy) ?_;rintro _ h2 ⟨rfl,hJ2⟩;refine bh.an rfl rfl rfl rfl rfl (ai.rI rfl) ?_;refine bh.done rfl ?_;refine xu [0,1,3,8,18] rfl ?_;refine ay rfl rfl (fun hc=>absurd hc (by decide)) (fun _=>?_);refine az rfl ?_;refine G.aJ ?_;refine G.bB func289 rfl ?_;refine bO 1 rfl rfl (ai.fh rfl rfl ⟨by omega,by omega⟩) ?_;refine aM 1 [0,1,3,8,18] rfl ?_;exact ih i _ _ ⟨rfl,rfl,rfl,trivial⟩ ⟨hJ2,by omega⟩ (by omega)
 · obtain rfl:j=0:=by omega
   refine aW rfl rfl ?_;refine G.gN func289 rfl ?_;exact⟨_,rfl,hJ⟩
theorem tC (v:Value) (hv:v.oneCell'=true):af Tryz.prog 240 #[v] h (bC fun r h'=>r= .func (.func 289) #[] #[.pointer (some ⟨h.size,0,none⟩)]/\h'=h.push (.cells #[v] 289)):=by
 have hcells:v.cells= #[v]:=by cases v<;>simp[Value.oneCell'] at hv<;>rfl
 refine af.of func240 rfl rfl ?_;refine xr func240 rfl ?_;refine xo rfl (ax.box rfl) ?_;rintro _ _ ⟨rfl,rfl⟩;refine aM 1 [0,1,2] rfl ?_;refine xr func240 rfl ?_;refine xp rfl (ai.makeFunc (vs:=[_]) rfl) ?_;refine aM 1 [0,1,2] rfl ?_;refine G.ret func240 rfl rfl ?_;exact⟨_,rfl,rfl,by rw[hcells]⟩
structure Nx (O:Nat->Prop) (nb:Nat) (h:au) (v:Value) (h':au) (v':Value):Prop where
 ext:Ext (fun b=>dG nb v b\/O b) h h'
 own:∀b,v'.ownBlock=some b->v.ownBlock=some b\/h.size<=b
theorem Nx.refl {O:Nat->Prop}{nb:Nat}{h:au}{v:Value}:Nx O nb h v h v:=⟨Ext.refl _ _,fun _ k=>.inl k⟩
theorem Nx.Lb (e:av h h'):Nx O nb h v h' v:=⟨e.mono fun _ _ k=>k.elim,fun _ k=>.inl k⟩
theorem Nx.mono {O O':Nat->Prop}{nb:Nat}{h h':au}{v v':Value}(k:Nx O nb h v h' v') (hO:∀b,b<h.size->O b->O' b):Nx O' nb h v h' v':=⟨k.ext.mono fun b hb k=>k.imp id (hO b hb),k.own⟩
theorem Nx.trans {O':Nat->Prop}{h1 h2:au}{v1 v2:Value}(k:Nx O nb h v h1 v1) (k':Nx O' nb h1 v1 h2 v2) (hO:∀b,b<h.size->O' b->O b):Nx O nb h v h2 v2:=by
 refine⟨⟨Nat.le_trans k.ext.size k'.ext.size,fun b hb hn=>?_⟩,fun b hb=>?_⟩
 · rw[k'.ext.block b (Nat.lt_of_lt_of_le hb k.ext.size) ?_,k.ext.block b hb hn];rintro((k1|k1)|k1)
   · exact hn (.inl (.inl k1))
   · rcases k.own b k1.symm with k2|k2
     · exact hn (.inl (.inr k2.symm))
     · omega
   · exact hn (.inr (hO b hb k1))
 · have:=k.ext.size
   rcases k'.own b hb with k2|k2
   · exact k.own b k2
   · exact .inr (by omega)
theorem Nx.mv {v':Value}(k:Nx O nb h v h' v'):Mv (fun b=>dG nb v b\/O b) (fun b=>dG nb v' b\/O b) h h' :=
 ⟨k.ext.size,fun b hb hn=>⟨k.ext.block b hb hn,by
  rintro((k1|k1)|k1)
  · exact hn (.inl (.inl k1))
  · rcases k.own b k1.symm with k2|k2
    · exact hn (.inl (.inr k2.symm))
    · omega
  · exact hn (.inr k1)⟩⟩
theorem Nx.Lc {v':Value}(k:Nx (fun _=>False) nb h v h' v'):Mv (dG nb v) (dG nb v') h h' :=
 ⟨k.ext.size,fun b hb hn=>⟨k.ext.block b hb (fun k=>k.elim hn id),fun k1=>by
  rcases k1 with k1|k1
  · exact hn (.inl k1)
  · rcases k.own b k1.symm with k2|k2
    · exact hn (.inr k2.symm)
    · omega⟩⟩
def IT (O:Nat->Prop) (nb:Nat) (h:au) (v:Value) (st:Nat) (out:List bM×Nat) (r:Value) (h':au):Prop:=∃v',r= .int .i64 (out.2:Nat)/\b6 h' O nb v' out.1 st/\Nx (fun _=>False) nb h v h' v'
def Hg (n:Nat):Prop:=∀{x:Nd}{h:au}{O:Nat->Prop}{nb:Nat}{v w:Value}{ss:List bM}{st to:Nat},lP x<=n->b6 h O nb v ss st->(∀b,O b->b<h.size)->bS h (dG nb v) (cX x.kind x.set w) x->qB x=true->ss.length+lP x<=1000000 ->
 af Tryz.prog 186 #[.pointer (some ⟨nb,0,none⟩),.agg (cX x.kind x.set w).toArray,.int .i64 (to:Nat)] h (bC (IT O nb h v st (lay x ss to)))
theorem xV (hn:b6 h O nb v ss st) (hO:∀b,O b->b<h.size) (hx:G9 h (fun b=>dG nb v b\/O b) (DH x.kind x.set w x.rule) x) (hl:ss.length<=1000000) :
 af Tryz.prog 187 #[.pointer (some ⟨nb,0,none⟩),.agg (DH x.kind x.set w x.rule).toArray] h (bC (IT O nb h v st (ss++[x],ss.length))) :=
 (EF hn hO hx hl).mono fun e h' r=>by
  obtain⟨u,he,v',hu,hn',hx',ho⟩:=r;exact⟨u,he,v',hu,hn',hx'.mono fun _ _ k=>.inl k,ho⟩
theorem JO (i:Nat):dH 0 i= .int .u64 0:=by simp[dH,A6]
theorem lD {to:List Nat}(hn:b6 h O nb v ss st) (hO:∀b,O b->b<h.size) (hx:bF gj h (fun b=>dG nb v b\/O b) w to) (hl:ss.length<=1000000) :
 af Tryz.prog 187 #[.pointer (some ⟨nb,0,none⟩),.agg #[.int .i64 0,.int .u64 0,.int .u64 0,.int .u64 0,.int .u64 0,w,.int .i64 0]] h (bC (IT O nb h v st (ss++[⟨0,0,to,0⟩],ss.length))):=by
 have h1:=xV (x:=⟨0,0,to,0⟩) hn hO ⟨w,rfl,hx⟩ hl;simp only[DH,JO] at h1;exact h1
theorem OY (t:TypeId) (a:Nat) (ho:¬O h.size):bF gj (h.push (.cells #[.int .i64 (a:Nat)] t)) O (.slice (some ⟨h.size,0,none⟩) 1 1) [a]:=bF.jn (e:=gj) (cs:=[cT a]) rfl ho
theorem NR (t:TypeId) (a b:Nat) (ho:¬O h.size):bF gj (h.push (.cells #[.int .i64 (a:Nat),.int .i64 (b:Nat)] t)) O (.slice (some ⟨h.size,0,none⟩) 2 2) [a,b] :=
 ⟨_,2,2,rfl,rfl,Nat.le_refl _,by simp[maxLen],fun i x hx=>by
  refine⟨h.size,0,[cT x],rfl,ho,?_,rfl⟩;have hr:=fy h [.int .i64 (a:Nat),.int .i64 (b:Nat)] t;intro j u hj;have h0:j=0:=by have:=(List.getElem?_eq_some_iff.1 hj).1;simp at this;omega
  subst h0;simp only[List.getElem?_cons_zero,Option.some.injEq] at hj;subst hj
  match i with
  | 0=>simp at hx;subst hx;exact hr 0 _ rfl
  | 1=>simp at hx;subst hx;exact hr 1 _ rfl
  |i+2=>simp at hx⟩
theorem pG:∀(l:List Nd) (x:Nd) (ss:List bM) (to:Nat),bq (l++[x]) ss to=((lay x (bq l ss to).1 to).1,(bq l ss to).2++[(lay x (bq l ss to).1 to).2])
 | [],x,ss,to=>by simp[bq]
 |y::l,x,ss,to=>by
  rw[List.cons_append,bq,pG l x,bq];simp
theorem pF {l:List Nd}{x:Nd}(hx:l[i]? =some x) (ss:List bM) (to:Nat):bq (l.take (i+1)) ss to=((lay x (bq (l.take i) ss to).1 to).1,(bq (l.take i) ss to).2++[(lay x (bq (l.take i) ss to).1 to).2]):=by
 rw[List.take_add_one,hx,Option.toList_some,pG]
def IY (nb b5 cap d:Nat) (r0:Loop) (hL:au) (v sl:Value) (O:Nat->Prop) (kids:List Nd) (ss:List bM) (st to j:Nat) (g:au):Prop :=
 ∃v',cy g (d+1) r0/\g[d]? =some (.deferred (some []))/\aL g cap 289 [sl]/\b6 g (fun b=>O b\/(b5<=b/\b<hL.size)) nb v' (bJ (kids.drop j) ss to).1 st /\
  aL g b5 3 [.int .i64 ((bJ (kids.drop j) ss to).2:Nat)]/\Nx (fun b=>b5<=b/\b<hL.size) nb hL v g v'
theorem kk {k j:Nat}(h:¬((k:Nat):Int)=(j:Nat)):¬k=j:=fun e=>h (by rw[e])
theorem F2 (ih:Hg n):Hg (n+1):=by
 intro x h O nb v w ss st to hsz hn hO hx hw hl;obtain⟨k,s,kids⟩:=x;simp only[lP] at hsz hl;have hown:=hn.own;have hnb:=hn.blk.lt;obtain⟨w',hw',hkids⟩:=hx.open;have hww:w=w':=by simpa [cX] using hw'
 subst hww
 show af _ _ #[_,.agg (cX k s w).toArray,_] h _
 replace hkids:bF pM h (dG nb v) w kids:=hkids;obtain⟨oa,kn,kc,rfl,hsl⟩:=hkids.open;refine af.of func186 rfl rfl ?_;refine xr func186 rfl ?_;refine xo rfl (ax.cq rfl) ?_;rintro _ h1 ⟨rfl,q3,e1,z1⟩;refine xo rfl (ax.cq rfl) ?_;rintro _ h2 ⟨rfl,q4,e2,z2⟩;refine xo rfl (ax.cq rfl) ?_;rintro _ h3 ⟨rfl,q5,e3,z3⟩;have q3:aL h1 h.size 223 [.pointer (some ⟨nb,0,none⟩)]:=q3;have q4:aL h2 h1.size 291 (cX k s (.slice oa kn kc)):=q4;have q5:aL h3 h2.size 3 [.int .i64 (to:Nat)]:=q5;have q3:=(q3.aq e2).aq e3;have q4:=q4.aq e3;have e03:av h h3:=(e1.trans e2).trans e3;have hn3:b6 h3 O nb v ss st:=hn.aq e03 (fun _ _ k=>k);have hO3:∀b,O b->b<h3.size:=fun b hb=>by have:=hO b hb;have:=e03.size;omega
 have nx3:Nx (fun _=>False) nb h v h3 v:=Nx.Lb e03;have hsl3:bF pM h3 (dG nb v) (.slice oa kn kc) kids:=hkids.mv nx3.Lc
 have hnew3:∀b,h3.size<=b->¬(dG nb v b\/O b):=by
  have hz:=e03.size;rintro b hb ((k1|k1)|k1)
  · omega
  · have:=hown b k1.symm;omega
  · have:=hO b k1;omega
 have hnM:∀b,h.size<=b->¬(dG nb v b\/False):=by
  rintro b hb ((k1|k1)|k1)
  · omega
  · have:=hown b k1.symm;omega
  · exact k1
 have hkn:kids.length=kn:=hsl.len;have hwl:qC kids=true:=by simp only[qB,Bool.and_eq_true] at hw;exact hw.2
 have hklen:=CK kids;refine aM 1 [0,1,2,3,4,5,6] rfl ?_;refine ak rfl ?_;refine xr func186 rfl ?_;refine xp rfl (aa (off:=0) underlying291 rfl rfl H.bG rfl) ?_;refine xp rfl (ah H.bU rfl (q4.cell (i:=0) rfl)) ?_;refine xd [0,1,2,3,4,5,6,15] rfl ?_;refine G.block rfl rfl ?_;refine aQ func186 2 [0,1,2,3,4,5,6,15,16] rfl ?_;refine aN rfl rfl (fun h1k=>?_) (fun h1k=>?_)
 · obtain rfl:k=1:=by omega
   have hlay:lay (.mk 1 s kids) ss to=(ss++[⟨1,s,[to],0⟩],ss.length):=by rw[lay];simp
   rw[hlay];refine xr func186 rfl ?_;refine xp rfl (ah H.j9 rfl (q3.cell (i:=0) rfl)) ?_;refine xp rfl (aa (off:=1) underlying291 rfl rfl H.jU rfl) ?_;refine xp rfl (ai.aD H.Ka H.jU rfl (q4.part 1 (ds:=[dH s 0,dH s 1,dH s 2,dH s 3]) (by intro j v hv;match j with| 0=>exact hv| 1=>exact hv| 2=>exact hv| 3=>exact hv|j+4=>simp at hv)) (by first|rfl|(simp;done)|(simp;omega))) ?_;refine xp rfl (ah H.bU rfl (q5.cell (i:=0) rfl)) ?_;refine xo rfl (ax.bA (us:=[_]) underlying101 H.lR rfl rfl (by decide) (by simp[Value.oneCell'])) ?_;rintro _ _ ⟨rfl,rfl⟩;refine xp rfl (aE (H.AH _ _ _ _ _ _ _ _) rfl) ?_;refine xo rfl (aj (vs:=[_,_]) func187 rfl H.rM rfl (af.aX (xV (O:=O) (x:=⟨1,s,[to],0⟩) (hn3.aq (Ext.push _ _ _) (fun _ _ k=>k)) (fun b hb=>by have:=hO3 b hb;simp;omega) ⟨_,rfl,OY _ to (hnew3 _ (Nat.le_refl _))⟩ (by omega)))) ?_;rintro _ h5 ⟨v',rfl,hn5,nx5⟩;refine aM 1 [0,1,2,3,4,5,6,15,16] rfl ?_;refine G.ret func186 rfl rfl ?_;exact⟨_,rfl,v',rfl,hn5,(nx3.trans (Nx.Lb (Ext.push _ _ _)) (fun _ _ k=>k)).trans nx5 (fun _ _ k=>k)⟩
 · have h1k':¬k=1:=kk h1k;refine aQ func186 2 [0,1,2,3,4,5,6,15,16,25] rfl ?_;refine aN rfl rfl (fun h2k=>?_) (fun h2k=>?_)
   · obtain rfl:k=2:=by omega
     have hlay:lay (.mk 2 s kids) ss to=bJ kids ss to:=by rw[lay];simp
     rw[hlay];have hz0:=e03.size;refine ak rfl ?_;refine xr func186 rfl ?_;refine xp rfl (aa (off:=5) underlying291 rfl rfl H.yA rfl) ?_;refine xp rfl (ah H.tG rfl (q4.cell (i:=5) rfl)) ?_;refine xo rfl (aj (vs:=[_]) func240 rfl H.L7 rfl (af.aX (tC (.slice oa kn kc) rfl))) ?_;rintro _ h4 ⟨rfl,hh4⟩;have e4:av h3 h4:=by rw[hh4];exact Ext.push _ _ _
     have q6:aL h4 h3.size 289 [.slice oa kn kc]:=by rw[hh4];exact qA _ _ _
     have z4:h4.size=h3.size+1:=by rw[hh4];simp
     clear hh4;refine xd [0,1,2,3,4,5,6,15,16,25,29] rfl ?_;refine G.block rfl rfl ?_;refine G.rangeFunc rfl rfl func289 rfl (by decide +kernel) ?_;intro fid tmps hfits;obtain⟨r0,hr0⟩:∃r0,r0=ct fid tmps #[30,31] (HM (Lw.sub (aG f186) [0,1,0,0,1,1,1,0,1,0,1])) (HL (Lw.sub (aG f186) [0,1,0,0,1,1,1,0,1,0,1])) h4.size:=⟨_,rfl⟩
     obtain⟨hL,hhL⟩:∃hL,hL=(h4.push (.deferred (some []))).push (.loop r0):=⟨_,rfl⟩
     suffices hmain:af Tryz.prog 289 #[.func (.yield (h4.size+1)) #[] #[],.pointer (some ⟨h3.size,0,none⟩)] hL _ by rw[hhL,hr0] at hmain;exact hmain
     have hst:r0.state= .ready:=by rw[hr0];rfl
     have hpn:r0.pending=none:=by rw[hr0];rfl
     have hps:r0.params= #[30,31]:=by rw[hr0];rfl
     have htm:r0.tmps=tmps:=by rw[hr0];rfl
     have eL:av h4 hL:=by rw[hhL];exact(Ext.push _ _ _).trans (Ext.push _ _ _)
     have hLz:hL.size=h4.size+2:=by rw[hhL];simp
     have hloop0:cy hL (h4.size+1) r0:=by
      have hz:h4.size+1=(h4.push (.deferred (some []))).size:=by simp
      rw[cy,hhL,hz];exact Array.getElem?_push_size
     have hdef0:hL[h4.size]? =some (.deferred (some [])):=by
      rw[hhL,(Ext.push (fun _=>False) (h4.push (.deferred (some []))) _).block h4.size (by simp) (fun k=>k)];exact Array.getElem?_push_size
     clear hhL;have e0L:av h hL:=(e03.trans e4).trans eL;have q3L:=(q3.aq e4).aq eL;have q5L:=(q5.aq e4).aq eL;have q6L:=q6.aq eL;have hnL:b6 hL (fun b=>O b\/(h2.size<=b/\b<hL.size)) nb v ss st:=hn.aq e0L (fun b hb k=>k.elim id (fun k=>by omega));have hkL:bF pM hL (fun b=>dG nb v b\/(h2.size<=b/\b<hL.size)) (.slice oa kn kc) kids:=hkids.mv ⟨e0L.size,fun b hb hn=>⟨e0L.block b hb (fun k=>k),fun k=>k.elim hn (fun k=>by omega)⟩⟩;have hdropn:kids.drop kn=[]:=List.drop_of_length_le (by omega);have hJ0:IY nb h2.size h3.size h4.size r0 hL v (.slice oa kn kc) O kids ss st to kn hL:=⟨v,hloop0,hdef0,q6L,by rw[hdropn,bJ];exact hnL,by rw[hdropn,bJ];exact q5L,Nx.refl⟩
     have hvM:∀{v':Value}{g:au},Nx (fun b=>h2.size<=b/\b<hL.size) nb hL v g v'->∀b,h.size<=b->b<hL.size->¬dG nb v' b:=by
      rintro v' g nx b hb hb' (k1|k1)
      · omega
      · rcases nx.own b k1.symm with k2|k2
        · have:=hown b k2;omega
        · omega
     refine suff (p:=∀j g,IY nb h2.size h3.size h4.size r0 hL v (.slice oa kn kc) O kids ss st to (j+1) g->j<kn->∃(b o k s:Nat) (w:Value),oa=some ⟨b,o,none⟩/\Lw.rowAt g b (o+j*6) (cX k s w)/\dn Tryz.prog (h4.size+1) #[.int .i64 (j:Nat),.agg (cX k s w).toArray] g (bC fun r h'=>r= .bool true/\IY nb h2.size h3.size h4.size r0 hL v (.slice oa kn kc) O kids ss st to j h')) ?_ fun hy=>?_
     · intro j g ⟨v',hlp,hdf,hcap,hng,hb5,nxg⟩ hj;obtain⟨x,hx⟩:∃x,kids[j]? =some x:=⟨_,List.getElem?_eq_getElem (by omega)⟩
       have hkg:=hkL.mv nxg.mv;obtain⟨oa',n',c',hv',_,_,_,hget⟩:=id hkg;cases hv';obtain⟨b,o,cs,ha,hob,hrow,hnd⟩:=hget j x hx;obtain⟨w2,rfl,-⟩:=hnd.open;refine⟨b,o,x.kind,x.set,w2,ha,hrow,?_⟩;have hcatd:=zP hx ss to;have hszx:=Ff hx;have hbl:=ig (kids.drop (j+1)) ss to;have hfit:=zW (p1:=30) (p2:=31) (v1:=.int .i64 (j:Nat)) (v2:=.agg (cX x.kind x.set w2).toArray) hfits rfl rfl;rw[<-hps,<-htm] at hfit;have hvg:=hvM nxg;have hzg:=nxg.ext.size;have q3g:=q3L.ext nxg.ext (fun k=>k.elim (hvM Nx.refl (v':=v) (g:=hL) _ (Nat.le_refl _) (by omega)) (fun k=>by omega));refine dn.of hlp hst (by rw[hps];rfl) hfit ((congrArg Loop.assign hr0).trans rfl) ((congrArg Loop.body hr0).trans rfl) ?_;refine bh.ou rfl rfl rfl rfl rfl (ax.aO H.ja) ?_;rintro _ g1 ⟨rfl,k8,e1',zz1⟩;refine bh.bT rfl rfl rfl rfl (ax.aB H.bV rfl rfl k8 (by first|rfl|(simp;done)|(simp;omega)) (by first|decide|exact of_decide_eq_true rfl|(simp;done)|(simp;omega)) (bS.one hnd)) ?_;rintro _ g2 ⟨rfl,k8',e2',zz2⟩;refine bh.done rfl ?_;have e12:av g g2:=e1'.only e2' (Nat.le_refl _);have k8':aL g2 g.size 291 (cX x.kind x.set w2):=k8';refine⟨(e12.block _ hlp.lt (fun k=>k)).trans hlp,?_⟩;obtain⟨g3,hg3⟩:∃g3,g3=Lw.bW g2 (h4.size+1) (.loop { r0 with state:=.busy }):=⟨_,rfl⟩
       rw[<-hg3];have hlz:=hlp.lt;have hz2:=e12.size;have e23:Ext (fun b=>b=h4.size+1) g2 g3:=by rw[hg3];exact Ext.bW _ _ _ rfl
       have hlp3:cy g3 (h4.size+1) { r0 with state:=.busy }:=by rw[cy,hg3];exact fI (by omega)
       have hz3:=e23.size;have e13:Ext (fun b=>b=h4.size+1) g g3:=(e12.mono fun _ _ k=>k.elim).trans e23;have l3:¬h.size=h4.size+1:=by omega
       have l5:¬h2.size=h4.size+1:=by omega
       have l6:¬h3.size=h4.size+1:=by omega
       have l8:¬g.size=h4.size+1:=by omega
       have ld:¬h4.size=h4.size+1:=by omega
       have q33:=q3g.ext e13 l3;have b53:=hb5.ext e13 l5;have cap3:=hcap.ext e13 l6;have k83:=k8'.ext e23 l8;have hown':∀b,v'.ownBlock=some b->¬b=h4.size+1:=fun b hb k=>hvg b (by omega) (by omega) (.inr hb.symm)
       have hn3g:b6 g3 (fun b=>O b\/(h2.size<=b/\b<hL.size)) nb v' (bJ (kids.drop (j+1)) ss to).1 st:=hng.ext e13 (by omega) hown' (fun b _ k=>.inr (by omega)) (fun b _ k=>k);have hnd3:bS g3 (dG nb v') (cX x.kind x.set w2) x:=hnd.mv ⟨e13.size,fun b hb hn=>⟨e13.block b hb (fun k=>hn (.inr (by omega))),fun k=>hn (.inl k)⟩⟩;refine bh.an rfl rfl rfl rfl rfl (ah H.j9 rfl (q33.cell (i:=0) rfl)) ?_;refine bh.an rfl rfl rfl rfl rfl (ai.aD H.dI H.bV rfl k83.row (by first|rfl|(simp;done)|(simp;omega))) ?_;refine bh.an rfl rfl rfl rfl rfl (ah H.bU rfl (b53.cell (i:=0) rfl)) ?_;refine bh.ou rfl rfl rfl rfl rfl (aj (vs:=[_,_,_]) func186 rfl H.uZ rfl (af.aX (ih (x:=x) (O:=fun b=>O b\/(h2.size<=b/\b<hL.size)) (to:=(bJ (kids.drop (j+1)) ss to).2) (by omega) hn3g (fun b hb=>by rcases hb with k|k;(have:=hO b k;omega);omega) hnd3 (vK hwl hx) (by omega)))) ?_;rintro _ g4 ⟨v4,rfl,hn4,nx4⟩;have hM4:∀b,h.size<=b->b<hL.size->¬(dG nb v' b\/False):=fun b h1 h2 k=>k.elim (hvg b h1 h2) id
       have b54:=b53.ext nx4.ext (hM4 _ (by omega) (by omega));refine bh.bT rfl rfl rfl rfl (ax.aH H.bG rfl rfl b54 (by first|decide|exact of_decide_eq_true rfl|(simp;done)|(simp;omega)) rfl) ?_;rintro _ g5 ⟨rfl,b55,e5',zz5⟩;refine bh.done rfl ?_;have b55:aL g5 h2.size 3 [.int .i64 ((lay x (bJ (kids.drop (j+1)) ss to).1 (bJ (kids.drop (j+1)) ss to).2).2:Nat)]:=b55;have hz4:=nx4.ext.size;have nx45:Nx (fun b=>h2.size<=b/\b<hL.size) nb g3 v' g5 v4:=⟨⟨by omega,fun b hb hn=>by rw[e5'.block b (by omega) (fun k=>hn (.inr (by omega))),nx4.ext.block b hb (fun k=>hn (k.elim .inl (fun k=>k.elim)))]⟩,nx4.own⟩
       have hlp5:cy g5 (h4.size+1) { r0 with state:=.busy }:=(hlp3.ext nx4.ext (hM4 _ (by omega) (by omega))).ext e5' (fun k=>by omega);have hr2:({ ({ r0 with state:=.busy }:Loop) with state:=.ready,pending:=none }:Loop)=r0:=by cases r0;simp at hst hpn;simp[hst,hpn]
       refine⟨_,hlp5,rfl,?_⟩;rw[hr2];have e56:Ext (fun b=>b=h4.size+1) g5 (Lw.bW g5 (h4.size+1) (.loop r0)):=Ext.bW _ _ _ rfl
       have hown4:∀b,v4.ownBlock=some b->¬b=h4.size+1/\¬b=h2.size:=fun b hb=>by
        rcases nx4.own b hb with k|k
        · exact⟨hown' b k,fun k'=>hvg b (by omega) (by omega) (.inr k.symm)⟩
        · omega
       have hdf5:g5[h4.size]? =some (.deferred (some [])):=by
        rw[e5'.block h4.size (by omega) (by omega),nx4.ext.block h4.size (by omega) (hM4 _ (by omega) (by omega)),e13.block h4.size (by omega) (by omega)];exact hdf
       have cap5:=(cap3.ext nx4.ext (hM4 _ (by omega) (by omega))).ext e5' (by omega);refine⟨v4,fI (by omega),by rw[e56.block h4.size (by omega) (by omega)];exact hdf5,cap5.ext e56 l6,?_,?_,?_⟩
       · rw[hcatd];have hn5:b6 g5 (fun b=>O b\/(h2.size<=b/\b<hL.size)) nb v4 (lay x (bJ (kids.drop (j+1)) ss to).1 (bJ (kids.drop (j+1)) ss to).2).1 st:=hn4.ext e5' (by omega) (fun b hb=>(hown4 b hb).2) (fun b _ k=>.inr (by omega)) (fun _ _ k=>k);exact hn5.ext e56 (by omega) (fun b hb=>(hown4 b hb).1) (fun b _ k=>.inr (by omega)) (fun _ _ k=>k)
       · rw[hcatd];exact b55.ext e56 l5
       · exact((nxg.trans ⟨e13.mono (fun b _ k=>.inr (by omega)),fun b k=>.inl k⟩ (fun b _ k=>k)).trans nx45 (fun b _ k=>k)).trans ⟨e56.mono (fun b _ k=>.inr (by omega)),fun b k=>.inl k⟩ (fun b _ k=>k)
     · refine(ql (l:=h4.size+1) (cap:=h3.size) (n:=kn) (c:=kc) (J:=IY nb h2.size h3.size h4.size r0 hL v (.slice oa kn kc) O kids ss st to) (by omega) (fun j g hJ=>by obtain⟨_,_,_,k,_⟩:=hJ;exact k.cell (i:=0) rfl) hy hJ0).mono fun e g hJ=>?_
       obtain⟨u,rfl,v',hlp,hdf,hcap,hng,hb5,nxg⟩:=hJ;rw[List.drop_zero] at hng hb5;refine⟨_,rfl,r0,hlp,by rw[hst];decide,hpn,?_⟩;have hzg:=nxg.ext.size;have hlz:=hlp.lt;have e1:Ext (fun b=>b=h4.size+1) g (Lw.bW g (h4.size+1) (.loop { r0 with state:=.exhausted })):=Ext.bW _ _ _ rfl;have b5e:=hb5.ext e1 (by omega);have hdfe:=(e1.block h4.size (by omega) (by omega)).trans hdf;have hvg:=hvM nxg;refine GD.aJ ?_;refine fc rfl ?_;refine GD.bB func186 rfl ?_;refine eo.an rfl rfl rfl rfl (ah H.bU rfl (b5e.cell (i:=0) rfl)) ?_;refine eo.an rfl rfl rfl rfl (ai.assign rfl) ?_;refine eo.done rfl ?_;refine GD.sub (ρ':=[(0,_),(1,_),(2,_),(3,_),(4,_),(5,_),(6,_),(15,_),(16,_),(25,_),(29,_)]) ⟨rfl,rfl,rfl,rfl,rfl,rfl,rfl,rfl,rfl,rfl,rfl,trivial⟩ ?_;refine GD.CW func186 rfl hdfe rfl ?_;have e2:Ext (fun b=>b=h4.size) (Lw.bW g (h4.size+1) (.loop { r0 with state:=.exhausted })) (Lw.bW (Lw.bW g (h4.size+1) (.loop { r0 with state:=.exhausted })) h4.size (.deferred none)):=Ext.bW _ _ _ rfl;have e12:Ext (fun b=>b=h4.size+1\/b=h4.size) g _:=(e1.mono fun _ _ k=>.inl k).trans (e2.mono fun _ _ k=>.inr k);have hownv:∀b,v'.ownBlock=some b->¬(b=h4.size+1\/b=h4.size):=fun b hb k=>hvg b (by omega) (by omega) (.inr hb.symm)
       refine⟨_,rfl,v',rfl,hng.ext e12 (by omega) hownv (fun b _ k=>.inr (by omega)) (fun b _ k=>.inl k),?_⟩;have nxe:Nx (fun b=>h2.size<=b) nb h v _ v':=((Nx.Lb e0L).trans nxg (fun b _ k=>k.1)).trans ⟨e12.mono (fun b _ k=>.inr k),fun b k=>.inl k⟩ (fun b hb k=>by omega);exact nxe.mono (fun b hb k=>by omega)
   · have h2k':¬k=2:=kk h2k;refine aQ func186 2 [0,1,2,3,4,5,6,15,16,25,37] rfl ?_;refine aN rfl rfl (fun h3k=>?_) (fun h3k=>?_)
     · obtain rfl:k=3:=by omega
       have hlay:lay (.mk 3 s kids) ss to=((bq kids ss to).1++[⟨0,0,(bq kids ss to).2,0⟩],(bq kids ss to).1.length):=by rw[lay];simp
       rw[hlay];refine aQ func186 1 [0,1,2,3,4,5,6,9,15,16,25,37] rfl ?_;refine ak rfl ?_;refine xr func186 rfl ?_;refine xp rfl (aa (off:=5) underlying291 rfl rfl H.yA rfl) ?_;refine xp rfl (ah H.tG rfl (q4.cell (i:=5) rfl)) ?_;refine xp rfl (ai.aI underlying289 rfl) ?_;refine aM 1 [0,1,2,3,4,5,6,9,15,16,25,37,40,41,42] rfl ?_;refine G.block rfl rfl ?_;refine bf (σ:=Nat×Value) (fun p=>[(3,.pointer (some ⟨h.size,0,none⟩)),(5,.pointer (some ⟨h2.size,0,none⟩)),(9,p.2),(40,.slice oa kn kc),(41,.int .i64 (kn:Nat)),(42,.int .i64 (p.1:Nat))]) (fun p h'=>p.1<=kn/\∃v',b6 h' (fun b=>O b\/cC p.2.ownBlock b) nb v' (bq (kids.take p.1) ss to).1 st/\eM gj (fun _=>True) h' h3.size 3 p.2 (bq (kids.take p.1) ss to).2/\Nx (fun _=>False) nb h3 v h' v'/\(∀b,p.2.ownBlock=some b->v'.ownBlock≠some b)) (fun p=>kn-p.1) ((0,.slice none 0 0)) rfl ⟨rfl,rfl,rfl,rfl,rfl,rfl,trivial⟩ ⟨Nat.zero_le _,v,by simpa [bq] using hn3.aq (Ext.refl _ _) (fun b _ k=>k.elim id (fun k=>by cases k)),by simpa [bq] using eM.nil gj (fun _=>True) h3 h3.size 3,Nx.refl,fun b hb=>by cases hb⟩ ?_;rintro⟨i,t9⟩ gh ⟨hi,v',hnH,htH,nxH,hdist⟩ ih2
       try dsimp only
       dsimp only at hi hnH htH nxH hdist;have hzH:=nxH.ext.size;have hz0:=e03.size;have q3H:=q3.ext nxH.ext (hnM _ (Nat.le_refl _));have q5H:=q5.ext nxH.ext (hnM _ (by omega));have hslH:bF pM gh (dG nb v') (.slice oa kn kc) kids:=hsl3.mv nxH.Lc;have ht9:∀b,t9.ownBlock=some b->h3.size<=b/\b<gh.size:=fun b hb=>by obtain⟨_,_,k,_⟩:=id htH;exact k.lt hb
       have hlenT:(bq (kids.take i) ss to).2.length=i:=by rw[kV,List.length_take];omega
       refine aQ func186 1 [3,5,9,40,41,42,43] rfl ?_;refine ak rfl ?_;refine aN rfl rfl (fun hlt=>?_) (fun hlt=>?_)
       · have hik:i<kids.length:=by omega
         obtain⟨x,hx⟩:∃x,kids[i]? =some x:=⟨_,List.getElem?_eq_getElem hik⟩
         obtain⟨oa',n',c',hv',_,_,_,hget⟩:=id hslH;cases hv';obtain⟨b,o,cs,ha,hob,hrow,hnd⟩:=hget i x hx;obtain⟨w2,rfl,-⟩:=hnd.open;have hszx:=Fe hx;have hbl:=dX (kids.take i) ss to;refine az rfl ?_;refine ak rfl ?_;refine G.block rfl rfl ?_;refine xr func186 rfl ?_;refine xp rfl (ai.aA underlying289 H.bV rfl rfl i rfl ha (by omega)) ?_;refine xp rfl (ai.aD H.dI H.bV rfl hrow (by first|rfl|(simp;done)|(simp;omega))) ?_;refine xo rfl (ax.aO H.ja) ?_;rintro _ h5 ⟨rfl,q11,e5,z5⟩;refine RW.bT rfl rfl rfl (ax.aB H.bV rfl rfl q11 (by first|rfl|(simp;done)|(simp;omega)) (by first|decide|exact of_decide_eq_true rfl|(simp;done)|(simp;omega)) (bS.one hnd)) ?_;rintro _ h6 ⟨rfl,q11',e6,z6⟩;have e56:av gh h6:=e5.only e6 (Nat.le_refl _);have q11':aL h6 gh.size 291 (cX x.kind x.set w2):=q11';have hn6:b6 h6 (fun b=>O b\/cC t9.ownBlock b) nb v' (bq (kids.take i) ss to).1 st:=hnH.aq e56 (fun _ _ k=>k);have nx6:Nx (fun _=>False) nb gh v' h6 v':=Nx.Lb e56;have hz6:=e56.size;have hnd6:=hnd.mv nx6.Lc;refine xd [3,5,9,11,40,41,42,43] rfl ?_;refine G.bB func186 rfl ?_;refine bO 1 rfl rfl (ah H.j9 rfl ((q3H.aq e56).cell (i:=0) rfl)) ?_;refine xp rfl (ai.aD H.dI H.bV rfl q11'.row (by first|rfl|(simp;done)|(simp;omega))) ?_;refine xp rfl (ah H.bU rfl ((q5H.aq e56).cell (i:=0) rfl)) ?_;refine xo rfl (aj (vs:=[_,_,_]) func186 rfl H.uZ rfl (af.aX (ih (x:=x) (O:=fun b=>O b\/cC t9.ownBlock b) (to:=to) (by omega) hn6 (fun b hb=>by rcases hb with k|k;(have:=hO3 b k;omega);(have:=ht9 b k.symm;omega)) hnd6 (vK hwl hx) (by omega)))) ?_;rintro _ h7 ⟨v7,rfl,hn7,nx7⟩
         have ht7:eM gj (fun _=>True) h7 h3.size 3 t9 (bq (kids.take i) ss to).2:=(htH.aq e56).DZ nx7.ext (fun b hb=>by
          rintro((k1|k1)|k1)
          · have:=ht9 b hb;omega
          · exact hdist b hb k1.symm
          · exact k1) (fun _ _ _=>trivial) (fun _ _ _=>trivial)
         obtain⟨css,hc1,hc2,hc3⟩:=id ht7;have hz7:=nx7.ext.size;refine xo rfl (ax.bA (us:=[_]) underlying101 H.lR rfl rfl (by decide) (by simp[Value.oneCell'])) ?_;rintro _ _ ⟨rfl,rfl⟩;refine xo rfl (ax.bN underlying101 H.lR rfl rfl (hc2) rfl rfl (by first|decide|simp[Value.oneCell']) (by omega) (by decide) (by omega)) ?_;rintro t9' h8 ⟨ho8,hx8,-,hv8⟩;refine aM 1 [3,5,9,11,40,41,42,43] rfl ?_;refine G.aJ ?_;refine G.bB func186 rfl ?_;refine xp rfl (ai.aT rfl rfl ⟨by omega,by omega⟩) ?_;refine aM 1 [3,5,9,11,40,41,42,43] rfl ?_;have ht8:eM gj (fun _=>True) h8 h3.size 3 t9' ((bq (kids.take i) ss to).2++[(lay x (bq (kids.take i) ss to).1 to).2]):=eM.mB hc1 hc3 ho8 hx8 hv8 rfl
         have hn8:b6 h8 (fun b=>O b\/cC t9'.ownBlock b) nb v7 (lay x (bq (kids.take i) ss to).1 to).1 st:=hn7.ext hx8 (fun k=>by have:=ht9 nb k.symm;omega) (fun b hb k=>by
          rcases nx7.own b hb with k'|k'
          · exact hdist b k.symm k'
          · have:=ht9 b k.symm;omega) (fun b _ k=>.inr k) (fun b hb k=>k.imp id (fun k=>by
            rcases hv8 b k.symm with k'|k'
            · exact k'.symm
            · omega))
         have hd8:∀b,t9'.ownBlock=some b->v7.ownBlock≠some b:=fun b hb k=>by
          rcases hv8 b hb with k'|k'
          · rcases nx7.own b k with k2|k2
            · exact hdist b k' k2
            · have:=ht9 b k';omega
          · have:=(hn7.own b k).2;omega
         exact ih2 (i+1,t9') _ _ ⟨rfl,rfl,rfl,rfl,rfl,rfl,trivial⟩ ⟨by show i+1<=kn;omega,v7,by rw[pF hx];exact hn8,by rw[pF hx];exact ht8,⟨⟨by have:=hx8.size;omega,fun b hb hn=>by rw[hx8.block b (by omega) (fun k=>by have:=ht9 b k.symm;omega)];exact((nxH.trans nx6 (fun _ _ k=>k)).trans nx7 (fun _ _ k=>k)).ext.block b hb hn⟩,((nxH.trans nx6 (fun _ _ k=>k)).trans nx7 (fun _ _ k=>k)).own⟩,hd8⟩ (by show kn-(i+1)<kn-i;omega)
       · obtain rfl:i=kn:=by omega
         have hall:kids.take i=kids:=List.take_of_length_le (by omega);rw[hall] at hnH htH hlenT;have hbl:=dX kids ss to
         have hrd:bF gj gh (fun b=>dG nb v' b\/O b) t9 (bq kids ss to).2:=htH.Fu (fun b hb=>by
          rintro((k1|k1)|k1)
          · have:=ht9 b hb;omega
          · exact hdist b hb k1.symm
          · have:=ht9 b hb;have:=hO3 b k1;omega) (fun _ _ _=>trivial)
         obtain⟨oa9,n9,c9,rfl,_⟩:=id hrd;refine aW rfl rfl ?_;refine xr func186 rfl ?_;refine xp rfl (ah H.j9 rfl (q3H.cell (i:=0) rfl)) ?_;refine bO 1 rfl rfl (aE (H.xS _ _ _) rfl) ?_;refine xo rfl (aj (vs:=[_,_]) func187 rfl H.rM rfl (af.aX (lD (O:=O) (hnH.aq (Ext.refl _ _) (fun b _ k=>.inl k)) (fun b hb=>by have:=hO3 b hb;omega) hrd (by omega)))) ?_;rintro _ h5 ⟨v5,rfl,hn5,nx5⟩;refine aM 1 [3,5,6,9,40,41,42,43] rfl ?_;refine G.ret func186 rfl rfl ?_;exact⟨_,rfl,v5,rfl,hn5,(nx3.trans nxH (fun _ _ k=>k)).trans nx5 (fun _ _ k=>k)⟩
     · have h3k':¬k=3:=kk h3k;refine aQ func186 2 [0,1,2,3,4,5,6,15,16,25,37,58] rfl ?_;refine aN rfl rfl (fun h6k=>?_) (fun h6k=>?_)
       · obtain rfl:k=6:=by omega
         have hone:kids.length=1:=by simp[qB] at hw;exact hw.1
         obtain⟨x,rfl⟩:∃x,kids=[x]:=by match kids,hone with| [x],_=>exact⟨x,rfl⟩
         have hkn1:kn=1:=by simpa using hkn.symm
         have hszx:lP x<=fm [x]:=by simp[fm]
         have hwx:qB x=true:=by simpa [qC] using hwl
         have hlay:lay (.mk 6 s [x]) ss to=((lay x ss to).1++[⟨0,0,[(lay x ss to).2,to],0⟩],(lay x ss to).1.length):=by rw[lay];simp[b8]
         rw[hlay];have hz0:=e03.size;obtain⟨oa',n',c',hv',_,_,_,hget⟩:=id hsl3;cases hv';obtain⟨b,o,cs,ha,hob,hrow,hnd⟩:=hget 0 x rfl;obtain⟨w2,rfl,-⟩:=hnd.open
         have hnM3:∀b,h.size<=b->b<h3.size->¬(dG nb v b\/h3.size<=b):=by
          rintro b hb hb' ((k1|k1)|k1)
          · omega
          · have:=hown b k1.symm;omega
          · omega
         have hbM:¬(dG nb v b\/h3.size<=b):=by
          rintro(k1|k1)
          · exact hob k1
          · have:=dz hrow (by simp[cX]);omega
         have m3:=hnM3 h.size (Nat.le_refl _) (by omega);have m4:=hnM3 h1.size (by omega) (by omega);have m5:=hnM3 h2.size (by omega) (by omega);have hlenx:=eG x ss to;refine ak rfl ?_;refine bK (fun b=>dG nb v b\/Array.size h3<=b) (fun i=>Nat.blt i 13) (sz:=13) (listed:= #[false,false,false,false,false,false,false,false,false,false,false,false,false]) func186 H.mixed rfl rfl rfl ?_;refine bn 0 1 (by kernel_rfl) rfl (fun h' e=>ah H.j9 rfl (e.cell m3 (q3.cell (i:=0) rfl))) ?_;refine bn 1 3 (by kernel_rfl) rfl (fun h' e=>ah H.j9 rfl (e.cell m3 (q3.cell (i:=0) rfl))) ?_;refine bn 2 7 (by kernel_rfl) rfl (fun h' e=>aa (off:=5) underlying291 rfl rfl H.yA rfl) ?_;refine bn 3 15 (by kernel_rfl) rfl (fun h' e=>ah H.tG rfl (e.cell m4 (q4.cell (i:=5) rfl))) ?_;refine bn 4 31 (by kernel_rfl) rfl (fun h' e=>ai.aA underlying289 H.bV rfl rfl 0 rfl ha (by omega)) ?_;refine bn 5 63 (by kernel_rfl) rfl (fun h' e=>ai.aD H.dI H.bV rfl (e.rowAt hbM hrow) (by first|rfl|(simp;done)|(simp;omega))) ?_;refine bn 6 127 (by kernel_rfl) rfl (fun h' e=>ah H.bU rfl (e.cell m5 (q5.cell (i:=0) rfl))) ?_;refine bn 8 383 (by kernel_rfl) rfl (fun h' e=>ah H.bU rfl (e.cell m5 (q5.cell (i:=0) rfl))) ?_;refine cE 7 511 (by kernel_rfl) rfl (aj (vs:=[_,_,_]) func186 rfl H.uZ rfl (af.aX (ih (x:=x) (O:=O) (to:=to) (by omega) hn3 hO3 hnd hwx (by omega)))) ?_;rintro _ h5 ⟨v5,rfl,hn5,nx5⟩;refine⟨fun _=>nx5.ext.mono (fun b _ k=>k.elim .inl (fun k=>k.elim)),?_⟩;have hz5:=nx5.ext.size;have hown5:=hn5.own
         have hnew5:∀t,bF gj (h5.push (.cells #[.int .i64 ((lay x ss to).2:Nat),.int .i64 (to:Nat)] t)) (fun b=>dG nb v5 b\/O b) (.slice (some ⟨h5.size,0,none⟩) 2 2) [(lay x ss to).2,to]:=fun t=>NR t _ _ (by
          rintro((k1|k1)|k1)
          · omega
          · have:=hown5 _ k1.symm;omega
          · have:=hO3 _ k1;omega)
         refine cE 9 1023 (by kernel_rfl) rfl (ax.bA (us:=[_,_]) underlying101 H.lR rfl rfl (by decide) (by simp[Value.oneCell'])) ?_;rintro _ _ ⟨rfl,rfl⟩;refine⟨fun _=>by first|exact Ext.push _ _ _|assumption,?_⟩;refine bn 10 2047 (by kernel_rfl) rfl (fun h' e=>aE (H.xS _ _ _) rfl) ?_;refine cE 11 4095 (by kernel_rfl) rfl (aj (vs:=[_,_]) func187 rfl H.rM rfl (af.aX (lD (O:=O) (hn5.aq (Ext.push _ _ _) (fun _ _ k=>k)) (fun b hb=>by have:=hO3 b hb;simp;omega) (hnew5 _) (by omega)))) ?_;rintro _ h6 ⟨v6,rfl,hn6,nx6⟩;refine⟨fun _=>nx6.ext.mono (fun b _ k=>by rcases k with (k1|k1)|k1;(exact .inl (.inl k1));(rcases nx5.own b k1.symm with k2|k2;(exact .inl (.inr k2.symm));exact .inr k2);exact k1.elim),?_⟩;refine bu 12 8191 (by kernel_rfl) rfl ?_;refine RD.done (by kernel_rfl) ?_;refine xu [0,1,2,3,4,5,6,15,16,25,37,58] rfl ?_;refine G.ret func186 rfl rfl ?_;exact⟨_,rfl,v6,rfl,hn6,((nx3.trans nx5 (fun _ _ k=>k)).trans (Nx.Lb (Ext.push _ _ _)) (fun _ _ k=>k)).trans nx6 (fun _ _ k=>k)⟩
       · have h6k':¬k=6:=kk h6k;refine ak rfl ?_;refine aQ func186 2 [0,1,2,3,4,5,6,15,16,25,37,58,72] rfl ?_;refine aN rfl rfl (fun h4k=>?_) (fun h4k=>?_)
         · obtain rfl:k=4:=by omega
           have hone:kids.length=1:=by simp[qB] at hw;exact hw.1
           obtain⟨x,rfl⟩:∃x,kids=[x]:=by match kids,hone with| [x],_=>exact⟨x,rfl⟩
           have hkn1:kn=1:=by simpa using hkn.symm
           have hszx:lP x<=fm [x]:=by simp[fm]
           have hwx:qB x=true:=by simpa [qC] using hwl
           have hlay:lay (.mk 4 s [x]) ss to=((lay x (ss++[⟨0,0,[],0⟩]) ss.length).1.set ss.length ⟨0,0,[(lay x (ss++[⟨0,0,[],0⟩]) ss.length).2,to],0⟩,ss.length):=by rw[lay];simp[b8]
           rw[hlay];refine az rfl ?_;refine ay rfl rfl (fun _=>?_) (fun hc=>absurd hc (by simp));refine xr func186 rfl ?_;refine xp rfl (ah H.j9 rfl (q3.cell (i:=0) rfl)) ?_;refine xp rfl (aE (H.GY ) rfl) ?_;refine xo rfl (aj (vs:=[_,_]) func187 rfl H.rM rfl (af.aX (lD (O:=O) (to:=[]) hn3 hO3 (bF.nil _ _ _) (by omega)))) ?_;rintro _ h5 ⟨v5,rfl,hn5,nx5⟩;have hz5:=nx5.ext.size;have hz0:=e03.size;have q3':=q3.ext nx5.ext (hnM _ (Nat.le_refl _));have q4':=q4.ext nx5.ext (hnM _ (by omega));have q5':=q5.ext nx5.ext (hnM _ (by omega));have hsl5:bF pM h5 (dG nb v5) (.slice oa kn kc) [x]:=hsl3.mv nx5.Lc;obtain⟨oa',n',c',hv',_,_,_,hget⟩:=id hsl5;cases hv';obtain⟨b,o,cs,ha,hob,hrow,hnd⟩:=hget 0 x rfl;obtain⟨w2,rfl,-⟩:=hnd.open;have hown5:=hn5.own
           have hnM5:∀b,h.size<=b->b<h3.size->¬(dG nb v5 b\/h5.size<=b):=by
            rintro b hb hb' ((k1|k1)|k1)
            · omega
            · rcases nx5.own b k1.symm with k2|k2
              · have:=hown b k2;omega
              · omega
            · omega
           have hbM:¬(dG nb v5 b\/h5.size<=b):=by
            rintro(k1|k1)
            · exact hob k1
            · have:=dz hrow (by simp[cX]);omega
           have m3:=hnM5 h.size (Nat.le_refl _) (by omega);have m4:=hnM5 h1.size (by omega) (by omega);refine aM 1 [0,1,2,3,4,5,6,12,15,16,25,37,58,72] rfl ?_;refine ak rfl ?_;refine bK (fun b=>dG nb v5 b\/Array.size h5<=b) (fun i=>Nat.blt i 8) (sz:=8) (listed:= #[false,false,false,false,false,false,false,false]) func186 H.mixed rfl rfl rfl ?_;refine bn 0 1 (by kernel_rfl) rfl (fun h' e=>ah H.j9 rfl (e.cell m3 (q3'.cell (i:=0) rfl))) ?_;refine bn 1 3 (by kernel_rfl) rfl (fun h' e=>aa (off:=5) underlying291 rfl rfl H.yA rfl) ?_;refine bn 2 7 (by kernel_rfl) rfl (fun h' e=>ah H.tG rfl (e.cell m4 (q4'.cell (i:=5) rfl))) ?_;refine bn 3 15 (by kernel_rfl) rfl (fun h' e=>ai.aA underlying289 H.bV rfl rfl 0 rfl ha (by omega)) ?_;refine bn 4 31 (by kernel_rfl) rfl (fun h' e=>ai.aD H.dI H.bV rfl (e.rowAt hbM hrow) (by first|rfl|(simp;done)|(simp;omega))) ?_;refine bu 5 63 (by kernel_rfl) rfl ?_;refine cE 6 127 (by kernel_rfl) rfl (aj (vs:=[_,_,_]) func186 rfl H.uZ rfl (af.aX (ih (x:=x) (O:=O) (to:=ss.length) (by omega) hn5 (fun b hb=>by have:=hO3 b hb;omega) hnd hwx (by simp;omega)))) ?_;rintro _ h6 ⟨v6,rfl,hn6,nx6⟩;refine⟨fun _=>nx6.ext.mono (fun b _ k=>k.elim .inl (fun k=>k.elim)),?_⟩;have hz6:=nx6.ext.size;have nx36:=nx5.trans nx6 (fun _ _ k=>k);have q3':=q3.ext nx36.ext (hnM _ (Nat.le_refl _));have q4':=q4.ext nx36.ext (hnM _ (by omega));have q5':=q5.ext nx36.ext (hnM _ (by omega));have hown6:=hn6.own;have hlen6:=eG x (ss++[⟨0,0,[],0⟩]) ss.length;rw[List.length_append,List.length_singleton] at hlen6;have hpre:(lay x (ss++[⟨0,0,[],0⟩]) ss.length).1[ss.length]? =some ⟨0,0,[],0⟩:=by rw[jF x _ _ _ (by simp)];simp
           have hn6c:=hn6.blk.cell (i:=0) rfl
           have hnM6:∀b,h.size<=b->b<h3.size->¬(dG nb v6 b\/h6.size<=b):=by
            rintro b hb hb' ((k1|k1)|k1)
            · omega
            · rcases nx36.own b k1.symm with k2|k2
              · have:=hown b k2;omega
              · omega
            · omega
           have hnew6:∀t,bF gj (h6.push (.cells #[.int .i64 ((lay x (ss++[⟨0,0,[],0⟩]) ss.length).2:Nat),.int .i64 (to:Nat)] t)) (fun b=>cC v6.ownBlock b\/b=nb\/O b) (.slice (some ⟨h6.size,0,none⟩) 2 2) [(lay x (ss++[⟨0,0,[],0⟩]) ss.length).2,to]:=fun t=>NR t _ _ (by
            rintro(k1|k1|k1)
            · have:=hown6 _ k1.symm;omega
            · omega
            · have:=hO3 _ k1;omega)
           generalize hout:lay x (ss++[⟨0,0,[],0⟩]) ss.length=out at *;have hn7:b6 (h6.push (.cells #[.int .i64 (out.2:Nat),.int .i64 (to:Nat)] 3)) O nb v6 out.1 st:=hn6.aq (Ext.push _ _ _) (fun _ _ k=>k);obtain⟨g,c6,cs6,hv6,hg1,hg2,hg3,hg4,hg5,hg6⟩:=hn7.row.put hpre;obtain⟨w6,rfl,_⟩:=hg5;subst hv6;have hput:=hg6 5 (.slice (some ⟨h6.size,0,none⟩) 2 2) ⟨0,0,[out.2,to],0⟩ (by decide) ⟨_,rfl,hnew6 _⟩;have hgb:h6.size=g\/g<h6.size:=by have:=hown6 g rfl;omega
           have hg6':g<h6.size:=(hown6 g rfl).2;have hcell7:cellAt (h6.push (.cells #[.int .i64 (out.2:Nat),.int .i64 (to:Nat)] 3)) ⟨g,0+ss.length*7+5,none⟩=some w6:=hg3 5 _ rfl;have m6:=hnM6 h1.size (by omega) (by omega);have j4:¬h1.size=g:=fun k=>m6 (.inl (.inr (by rw[k];rfl)))
           have j3:¬h6.size<=h.size:=by omega
           have j0:¬h6.size<=nb:=by omega
           have j5:¬h6.size<=h2.size:=by omega
           refine bu 7 255 (by kernel_rfl) rfl ?_;refine RD.done (by kernel_rfl) ?_;refine xu [0,1,2,3,4,5,6,12,13,15,16,25,37,58,72] rfl ?_;refine ak rfl ?_;refine bK (fun b=>Array.size h6<=b) (fun i=>Nat.blt i 10) (sz:=11) (listed:= #[false,false,false,false,false,false,false,false,false,false,false]) func186 H.mixed rfl rfl rfl ?_;refine bn 0 1 (by kernel_rfl) rfl (fun h' e=>ah H.j9 rfl (e.cell j3 (q3'.cell (i:=0) rfl))) ?_;refine bu 1 3 (by kernel_rfl) rfl ?_;refine bn 2 7 (by kernel_rfl) rfl (fun h' e=>aa (off:=0) underlying287 rfl rfl H.fq rfl) ?_;refine bn 3 15 (by kernel_rfl) rfl (fun h' e=>ah H.gp rfl (e.cell j0 hn6c)) ?_;refine bu 4 31 (by kernel_rfl) rfl ?_;refine bu 5 63 (by kernel_rfl) rfl ?_;refine bn 6 127 (by kernel_rfl) rfl (fun h' e=>ah H.bU rfl (e.cell j5 (q5'.cell (i:=0) rfl))) ?_;refine cE 7 255 (by kernel_rfl) rfl (ax.bA (us:=[_,_]) underlying101 H.lR rfl rfl (by decide) (by simp[Value.oneCell'])) ?_;rintro _ _ ⟨rfl,rfl⟩;refine⟨fun _=>by first|exact Ext.push _ _ _|assumption,?_⟩;refine cE 8 511 (by kernel_rfl) rfl (ai.aX (ai.aA underlying285 H.jT rfl rfl ss.length rfl rfl (by omega))) ?_;rintro _ hq_ ⟨rfl,hqe_⟩;replace hqe_:=hqe_.symm;subst hqe_;refine⟨fun _=>Ext.refl _ _,?_⟩;refine bn 9 1023 (by kernel_rfl) rfl (fun h' e=>aa (off:=5) underlying297 rfl rfl H.eC rfl) ?_;refine jP 10 2047 (by kernel_rfl) rfl (cB H.eC rfl rfl rfl hcell7 (hg4 _)) ?_;rintro _ _ ⟨rfl,rfl⟩;refine⟨fun hk=>(nomatch hk),?_⟩;refine RD.done (by kernel_rfl) ?_;refine xu [0,1,2,3,4,5,6,12,13,15,16,25,37,58,72] rfl ?_;refine ak rfl ?_;refine xr func186 rfl ?_;refine xp rfl (aa (off:=0) underlying291 rfl rfl H.bG rfl) ?_;have hz7:∀u,(dP (h6.push (.cells #[.int .i64 (out.2:Nat),.int .i64 (to:Nat)] 3)) ⟨g,0+ss.length*7+5,none⟩ u).size=h6.size+1:=fun u=>by rw[jh];simp
           have ex7:∀u,Ext (fun b=>b=g) h6 (dP (h6.push (.cells #[.int .i64 (out.2:Nat),.int .i64 (to:Nat)] 3)) ⟨g,0+ss.length*7+5,none⟩ u):=fun u=>⟨by rw[hz7];omega,fun b hb hn=>by rw[(Ext.dP (M:=fun b=>b=g) _ _ u rfl).block b (by simp;omega) hn,(Ext.push (fun _=>False) h6 _).block b hb (fun k=>k)]⟩
           refine xp rfl (ah H.bU rfl ((q4'.ext (ex7 _) j4).cell (i:=0) rfl)) ?_;refine aM 1 [0,1,2,3,4,5,6,12,13,15,16,25,37,58,72,97] rfl ?_;refine ay rfl rfl (fun hc=>absurd hc (by decide)) (fun _=>?_);refine az rfl ?_;refine aQ func186 2 [0,1,2,3,4,5,6,12,13,15,16,25,37,58,72,97] rfl ?_;refine G.ret func186 rfl rfl ?_;exact⟨_,rfl,_,rfl,⟨hn6.blk.ext (ex7 _) (by have:=hown6 g rfl;omega),hput⟩,((nx3.trans nx36 (fun _ _ k=>k)).trans ⟨(ex7 _).mono (fun b _ k=>.inl (.inr (by rw[k];rfl))),fun b k=>.inl k⟩ (fun _ _ k=>k))⟩
         · have h4k':¬k=4:=kk h4k;refine G.bB func186 rfl ?_;refine aM 2 [0,1,2,3,4,5,6,15,16,25,37,58,72] rfl ?_;refine aN rfl rfl (fun h5k=>?_) (fun h5k=>?_)
           · obtain rfl:k=5:=by omega
             have hone:kids.length=1:=by simp[qB] at hw;exact hw.1
             obtain⟨x,rfl⟩:∃x,kids=[x]:=by match kids,hone with| [x],_=>exact⟨x,rfl⟩
             have hkn1:kn=1:=by simpa using hkn.symm
             have hszx:lP x<=fm [x]:=by simp[fm]
             have hwx:qB x=true:=by simpa [qC] using hwl
             have hlay:lay (.mk 5 s [x]) ss to=((lay x (ss++[⟨0,0,[],0⟩]) ss.length).1.set ss.length ⟨0,0,[(lay x (ss++[⟨0,0,[],0⟩]) ss.length).2,to],0⟩,(lay x (ss++[⟨0,0,[],0⟩]) ss.length).2):=by rw[lay];simp[b8]
             rw[hlay];refine xr func186 rfl ?_;refine xp rfl (ah H.j9 rfl (q3.cell (i:=0) rfl)) ?_;refine xp rfl (aE (H.GY ) rfl) ?_;refine xo rfl (aj (vs:=[_,_]) func187 rfl H.rM rfl (af.aX (lD (O:=O) (to:=[]) hn3 hO3 (bF.nil _ _ _) (by omega)))) ?_;rintro _ h5 ⟨v5,rfl,hn5,nx5⟩;have hz5:=nx5.ext.size;have hz0:=e03.size;have q3':=q3.ext nx5.ext (hnM _ (Nat.le_refl _));have q4':=q4.ext nx5.ext (hnM _ (by omega));have q5':=q5.ext nx5.ext (hnM _ (by omega));have hsl5:bF pM h5 (dG nb v5) (.slice oa kn kc) [x]:=hsl3.mv nx5.Lc;obtain⟨oa',n',c',hv',_,_,_,hget⟩:=id hsl5;cases hv';obtain⟨b,o,cs,ha,hob,hrow,hnd⟩:=hget 0 x rfl;obtain⟨w2,rfl,-⟩:=hnd.open;have hown5:=hn5.own
             have hnM5:∀b,h.size<=b->b<h3.size->¬(dG nb v5 b\/h5.size<=b):=by
              rintro b hb hb' ((k1|k1)|k1)
              · omega
              · rcases nx5.own b k1.symm with k2|k2
                · have:=hown b k2;omega
                · omega
              · omega
             have hbM:¬(dG nb v5 b\/h5.size<=b):=by
              rintro(k1|k1)
              · exact hob k1
              · have:=dz hrow (by simp[cX]);omega
             have m3:=hnM5 h.size (Nat.le_refl _) (by omega);have m4:=hnM5 h1.size (by omega) (by omega);refine aM 1 [0,1,2,3,4,5,6,12,15,16,25,37,58,72] rfl ?_;refine ak rfl ?_;refine bK (fun b=>dG nb v5 b\/Array.size h5<=b) (fun i=>Nat.blt i 8) (sz:=8) (listed:= #[false,false,false,false,false,false,false,false]) func186 H.mixed rfl rfl rfl ?_;refine bn 0 1 (by kernel_rfl) rfl (fun h' e=>ah H.j9 rfl (e.cell m3 (q3'.cell (i:=0) rfl))) ?_;refine bn 1 3 (by kernel_rfl) rfl (fun h' e=>aa (off:=5) underlying291 rfl rfl H.yA rfl) ?_;refine bn 2 7 (by kernel_rfl) rfl (fun h' e=>ah H.tG rfl (e.cell m4 (q4'.cell (i:=5) rfl))) ?_;refine bn 3 15 (by kernel_rfl) rfl (fun h' e=>ai.aA underlying289 H.bV rfl rfl 0 rfl ha (by omega)) ?_;refine bn 4 31 (by kernel_rfl) rfl (fun h' e=>ai.aD H.dI H.bV rfl (e.rowAt hbM hrow) (by first|rfl|(simp;done)|(simp;omega))) ?_;refine bu 5 63 (by kernel_rfl) rfl ?_;refine cE 6 127 (by kernel_rfl) rfl (aj (vs:=[_,_,_]) func186 rfl H.uZ rfl (af.aX (ih (x:=x) (O:=O) (to:=ss.length) (by omega) hn5 (fun b hb=>by have:=hO3 b hb;omega) hnd hwx (by simp;omega)))) ?_;rintro _ h6 ⟨v6,rfl,hn6,nx6⟩;refine⟨fun _=>nx6.ext.mono (fun b _ k=>k.elim .inl (fun k=>k.elim)),?_⟩;have hz6:=nx6.ext.size;have nx36:=nx5.trans nx6 (fun _ _ k=>k);have q3':=q3.ext nx36.ext (hnM _ (Nat.le_refl _));have q4':=q4.ext nx36.ext (hnM _ (by omega));have q5':=q5.ext nx36.ext (hnM _ (by omega));have hown6:=hn6.own;have hlen6:=eG x (ss++[⟨0,0,[],0⟩]) ss.length;rw[List.length_append,List.length_singleton] at hlen6;have hpre:(lay x (ss++[⟨0,0,[],0⟩]) ss.length).1[ss.length]? =some ⟨0,0,[],0⟩:=by rw[jF x _ _ _ (by simp)];simp
             have hn6c:=hn6.blk.cell (i:=0) rfl
             have hnM6:∀b,h.size<=b->b<h3.size->¬(dG nb v6 b\/h6.size<=b):=by
              rintro b hb hb' ((k1|k1)|k1)
              · omega
              · rcases nx36.own b k1.symm with k2|k2
                · have:=hown b k2;omega
                · omega
              · omega
             have hnew6:∀t,bF gj (h6.push (.cells #[.int .i64 ((lay x (ss++[⟨0,0,[],0⟩]) ss.length).2:Nat),.int .i64 (to:Nat)] t)) (fun b=>cC v6.ownBlock b\/b=nb\/O b) (.slice (some ⟨h6.size,0,none⟩) 2 2) [(lay x (ss++[⟨0,0,[],0⟩]) ss.length).2,to]:=fun t=>NR t _ _ (by
              rintro(k1|k1|k1)
              · have:=hown6 _ k1.symm;omega
              · omega
              · have:=hO3 _ k1;omega)
             generalize hout:lay x (ss++[⟨0,0,[],0⟩]) ss.length=out at *;have hn7:b6 (h6.push (.cells #[.int .i64 (out.2:Nat),.int .i64 (to:Nat)] 3)) O nb v6 out.1 st:=hn6.aq (Ext.push _ _ _) (fun _ _ k=>k);obtain⟨g,c6,cs6,hv6,hg1,hg2,hg3,hg4,hg5,hg6⟩:=hn7.row.put hpre;obtain⟨w6,rfl,_⟩:=hg5;subst hv6;have hput:=hg6 5 (.slice (some ⟨h6.size,0,none⟩) 2 2) ⟨0,0,[out.2,to],0⟩ (by decide) ⟨_,rfl,hnew6 _⟩;have hgb:h6.size=g\/g<h6.size:=by have:=hown6 g rfl;omega
             have hg6':g<h6.size:=(hown6 g rfl).2;have hcell7:cellAt (h6.push (.cells #[.int .i64 (out.2:Nat),.int .i64 (to:Nat)] 3)) ⟨g,0+ss.length*7+5,none⟩=some w6:=hg3 5 _ rfl;have m6:=hnM6 h1.size (by omega) (by omega);have j4:¬h1.size=g:=fun k=>m6 (.inl (.inr (by rw[k];rfl)))
             have j3:¬h6.size<=h.size:=by omega
             have j0:¬h6.size<=nb:=by omega
             have j5:¬h6.size<=h2.size:=by omega
             refine bu 7 255 (by kernel_rfl) rfl ?_;refine RD.done (by kernel_rfl) ?_;refine xu [0,1,2,3,4,5,6,12,13,15,16,25,37,58,72] rfl ?_;refine ak rfl ?_;refine bK (fun b=>Array.size h6<=b) (fun i=>Nat.blt i 10) (sz:=11) (listed:= #[false,false,false,false,false,false,false,false,false,false,false]) func186 H.mixed rfl rfl rfl ?_;refine bn 0 1 (by kernel_rfl) rfl (fun h' e=>ah H.j9 rfl (e.cell j3 (q3'.cell (i:=0) rfl))) ?_;refine bu 1 3 (by kernel_rfl) rfl ?_;refine bn 2 7 (by kernel_rfl) rfl (fun h' e=>aa (off:=0) underlying287 rfl rfl H.fq rfl) ?_;refine bn 3 15 (by kernel_rfl) rfl (fun h' e=>ah H.gp rfl (e.cell j0 hn6c)) ?_;refine bu 4 31 (by kernel_rfl) rfl ?_;refine bu 5 63 (by kernel_rfl) rfl ?_;refine bn 6 127 (by kernel_rfl) rfl (fun h' e=>ah H.bU rfl (e.cell j5 (q5'.cell (i:=0) rfl))) ?_;refine cE 7 255 (by kernel_rfl) rfl (ax.bA (us:=[_,_]) underlying101 H.lR rfl rfl (by decide) (by simp[Value.oneCell'])) ?_;rintro _ _ ⟨rfl,rfl⟩;refine⟨fun _=>by first|exact Ext.push _ _ _|assumption,?_⟩;refine cE 8 511 (by kernel_rfl) rfl (ai.aX (ai.aA underlying285 H.jT rfl rfl ss.length rfl rfl (by omega))) ?_;rintro _ hq_ ⟨rfl,hqe_⟩;replace hqe_:=hqe_.symm;subst hqe_;refine⟨fun _=>Ext.refl _ _,?_⟩;refine bn 9 1023 (by kernel_rfl) rfl (fun h' e=>aa (off:=5) underlying297 rfl rfl H.eC rfl) ?_;refine jP 10 2047 (by kernel_rfl) rfl (cB H.eC rfl rfl rfl hcell7 (hg4 _)) ?_;rintro _ _ ⟨rfl,rfl⟩;refine⟨fun hk=>(nomatch hk),?_⟩;refine RD.done (by kernel_rfl) ?_;refine xu [0,1,2,3,4,5,6,12,13,15,16,25,37,58,72] rfl ?_;refine ak rfl ?_;refine xr func186 rfl ?_;refine xp rfl (aa (off:=0) underlying291 rfl rfl H.bG rfl) ?_;have hz7:∀u,(dP (h6.push (.cells #[.int .i64 (out.2:Nat),.int .i64 (to:Nat)] 3)) ⟨g,0+ss.length*7+5,none⟩ u).size=h6.size+1:=fun u=>by rw[jh];simp
             have ex7:∀u,Ext (fun b=>b=g) h6 (dP (h6.push (.cells #[.int .i64 (out.2:Nat),.int .i64 (to:Nat)] 3)) ⟨g,0+ss.length*7+5,none⟩ u):=fun u=>⟨by rw[hz7];omega,fun b hb hn=>by rw[(Ext.dP (M:=fun b=>b=g) _ _ u rfl).block b (by simp;omega) hn,(Ext.push (fun _=>False) h6 _).block b hb (fun k=>k)]⟩
             refine xp rfl (ah H.bU rfl ((q4'.ext (ex7 _) j4).cell (i:=0) rfl)) ?_;refine aM 1 [0,1,2,3,4,5,6,12,13,15,16,25,37,58,72,97] rfl ?_;refine ay rfl rfl (fun _=>?_) (fun hc=>absurd hc (by decide));refine aQ func186 2 [0,1,2,3,4,5,6,12,13,15,16,25,37,58,72,97] rfl ?_;refine G.ret func186 rfl rfl ?_;exact⟨_,rfl,_,rfl,⟨hn6.blk.ext (ex7 _) (by have:=hown6 g rfl;omega),hput⟩,((nx3.trans nx36 (fun _ _ k=>k)).trans ⟨(ex7 _).mono (fun b _ k=>.inl (.inr (by rw[k];rfl))),fun b k=>.inl k⟩ (fun _ _ k=>k))⟩
           · have h5k':¬k=5:=kk h5k;have hlay:lay (.mk k s kids) ss to=(ss,to):=by rw[lay];simp[h1k',h2k',h3k',h4k',h5k',h6k']
             rw[hlay];refine az rfl ?_;refine G.aJ ?_;refine xr func186 rfl ?_;refine xp rfl (ah H.bU rfl (q5.cell (i:=0) rfl)) ?_;refine aM 1 [0,1,2,3,4,5,6,15,16,25,37,58,72] rfl ?_;refine G.ret func186 rfl rfl ?_;exact⟨_,rfl,v,rfl,hn3,nx3⟩
theorem F1:∀n,Hg n
 | 0=>by
  intro hs;have:=CJ ‹Nd›;omega
 |n+1=>F2 (F1 n)
def Iv:fF By:=.flat (fun s=>.string (bs s)) fun _=>rfl
def vH (h h':au) (rules:List By) (r:Value):Prop :=
 match dV rules with
 |.inl e=>r= .tuple #[.pointer none,.int .i64 e]
 |.inr (ss,st)=>∃nb v,r= .tuple #[.pointer (some ⟨nb,0,none⟩),.int .i64 0]/\h.size<=nb/\b6 h' (fun b=>b<h.size) nb v ss st
theorem G7 (i:Nat) (hn:b6 h O nb v ss st) (hO:∀b,O b->b<h.size) (hl:ss.length<=1000000) :
 af Tryz.prog 187 #[.pointer (some ⟨nb,0,none⟩),.agg #[.int .i64 2,.int .u64 0,.int .u64 0,.int .u64 0,.int .u64 0,.slice none 0 0,.int .i64 (i:Nat)]] h (bC (IT O nb h v st (ss++[⟨2,0,[],i⟩],ss.length))):=by
 have h1:=xV (x:=⟨2,0,[],i⟩) hn hO ⟨.slice none 0 0,rfl,bF.nil _ _ _⟩ hl;simp only[DH,JO] at h1;exact h1
theorem BJ {lim:Nat}(hg:Sg h lim) (hlim:lim<=h.size){rv:Value}(hr:bF Iv h (fun _=>False) rv rules) (hrl:∀s∈rules,s.length<=1000000) :
 af Tryz.prog 119 #[rv] h (bC fun r h'=>vH h h' rules r/\av h h'):=by
 obtain⟨oa,kn,kc,rfl,hsl⟩:=id hr.open;have hkn:=hsl.len;have hkc:=hsl.le;have hcap:=hsl.cap;generalize htgt:jm 0 rules [] []=tgt;refine af.of func119 rfl rfl ?_;refine aQ func119 2 [0,2,3] rfl ?_;refine ak rfl ?_;refine ak rfl ?_;refine G.bH [(18,.bool (decide (kn=0\/64<kn)))] [(0,_),(2,_),(3,_)] ⟨rfl,rfl,rfl,trivial⟩ func119 rfl ?_ ?_
 · refine bO 1 rfl rfl (ai.aI underlying59 rfl) ?_;refine br 2 rfl ?_;refine bI (d:=14) rfl (fun hg=>?_) (fun hg=>?_)
   · refine br 4 rfl ?_;refine RW.done rfl ?_;exact⟨rfl,aK rfl (by have:=of_decide_eq_true hg;simp;omega),rfl,rfl,rfl,trivial⟩
   · refine bO 1 rfl rfl (ai.aI underlying59 rfl) ?_;refine br 2 rfl ?_;refine RW.done rfl ?_;exact⟨rfl,aK rfl (by have:=of_decide_eq_false hg;simp only[decide_eq_decide];omega),rfl,rfl,rfl,trivial⟩
 · refine aN rfl rfl (fun hbig=>?_) (fun hbig=>?_)
   · refine aQ func119 2 [0,2,3,18] rfl ?_;refine G.ret func119 rfl rfl ?_;refine⟨_,rfl,?_,Ext.refl _ _⟩;have:dV rules= .inl 2:=by unfold dV;rw[if_pos (show rules.length=0\/64<rules.length by omega)]
     rw[vH,this];rfl
   · have hmk:dV rules=match jm 0 rules [] [] with|.inl e=>.inl e|.inr (ss,t)=>if 2000<tY rules then .inl 70 else .inr (ss++[⟨0,0,t,0⟩],ss.length):=by unfold dV;rw[if_neg (show ¬(rules.length=0\/64<rules.length) by omega)]<;>rfl
     rw[htgt] at hmk;refine az rfl ?_;refine xr func119 rfl ?_;refine xp rfl (aE (H.KX ) rfl) ?_;refine xo rfl (ax.cq rfl) ?_;rintro _ h1 ⟨rfl,q4,e1,z1⟩;have q4:aL h1 h.size 287 [.slice none 0 0,.int .i64 (0:Nat)]:=q4;have hn1:b6 h1 (fun b=>b<h.size) h.size (.slice none 0 0) [] 0:=⟨q4,eM.nil _ _ _ _ _⟩
     refine aM 1 [0,2,3,4,18] rfl ?_;refine aQ func119 1 [0,2,3,4,5,18] rfl ?_;refine aQ func119 1 [0,2,3,4,5,6,18] rfl ?_;refine ak rfl ?_;refine bg func119 1 rfl ?_;refine xp rfl (ai.aI underlying59 rfl) ?_;refine aM 1 [0,2,3,4,5,6,18,21,22,23] rfl ?_;refine G.block rfl rfl ?_;refine bf (σ:=Nat×Value) (fun p=>[(4,.pointer (some ⟨h.size,0,none⟩)),(5,p.2),(6,.int .i64 (tY (rules.take p.1):Nat)),(21,.slice oa kn kc),(22,.int .i64 (kn:Nat)),(23,.int .i64 (p.1:Nat))]) (fun p h'=>p.1<=kn/\∃v ss t,b6 h' (fun b=>b<h.size\/cC p.2.ownBlock b) h.size v ss 0/\eM gj (fun _=>True) h' h1.size 3 p.2 t/\Nx (fun _=>False) h.size h1 (.slice none 0 0) h' v/\(∀b,p.2.ownBlock=some b->v.ownBlock≠some b)/\(ss.length<=402*p.1/\tY (rules.take p.1)<=200*p.1/\t.length=p.1)/\jm p.1 (rules.drop p.1) ss t=tgt) (fun p=>kn-p.1) ((0,.slice none 0 0)) rfl ⟨rfl,rfl,rfl,rfl,rfl,rfl,trivial⟩ ⟨Nat.zero_le _,_,[],[],hn1.aq (Ext.refl _ _) (fun b _ k=>k.elim id (fun k=>by cases k)),eM.nil _ _ _ _ _,Nx.refl,fun b hb=>(by cases hb),⟨Nat.zero_le _,by simp[tY],rfl⟩,htgt⟩ ?_;rintro⟨i,tv⟩ g0 ⟨hi,v,ss,t,hng,htg,nxg,hdist,⟨hss,htot,htl⟩,hcon⟩ ih
     try dsimp only
     dsimp only at hi hng htg nxg hdist hss htot htl hcon;have hz0:=nxg.ext.size;have htv:∀b,tv.ownBlock=some b->h1.size<=b/\b<g0.size:=fun b hb=>by obtain⟨_,_,k,_⟩:=id htg;exact k.lt hb
     have e0g:av h g0:=⟨by omega,fun b hb _=>(nxg.ext.block b (by omega) (by
      rintro((k|k)|k)
      · omega
      · cases k
      · exact k)).trans (e1.block b hb (fun k=>k))⟩
     have hown:=hng.own;have hnlt:=hng.blk.lt;refine aQ func119 1 [4,5,6,21,22,23,24] rfl ?_;refine ak rfl ?_;refine aN rfl rfl (fun hlt=>?_) (fun hlt=>?_)
     · obtain⟨s,hs⟩:∃s,rules[i]? =some s:=⟨_,List.getElem?_eq_getElem (by omega)⟩
       have hdr:rules.drop i=s::rules.drop (i+1):=by
        obtain⟨hi',rfl⟩:=List.getElem?_eq_some_iff.1 hs;exact List.drop_eq_getElem_cons hi'
       rw[hdr,jm] at hcon;obtain⟨oa',n',c',hv',_,_,_,hget⟩:=id (hr.aq e0g);cases hv';obtain⟨b,o,cs,ha,hob,hrow,rfl⟩:=hget i s hs;refine az rfl ?_;refine ak rfl ?_;refine G.block rfl rfl ?_;refine bg func119 1 rfl ?_;refine xp rfl (ai.aA underlying59 H.gU rfl rfl i rfl ha (by omega)) ?_;refine xp rfl (ah H.gr rfl (hrow 0 _ rfl)) ?_;refine aM 2 [4,5,6,7,8,21,22,23,24] rfl ?_;refine bg func119 1 rfl ?_;refine xo rfl (aj (vs:=[_]) func185 rfl H.Mm rfl (af.aX (y8 (hg.ext e0g (fun _ k=>k.elim)) (by omega) s (hrl s (List.mem_of_getElem? hs))))) ?_;rintro _ g1 ⟨⟨w,rfl,hnd⟩,e01⟩;refine br 3 rfl ?_;refine xo rfl (ax.aO H.ja) ?_;rintro _ g2 ⟨rfl,k9,e12,z12⟩;refine RW.bT rfl rfl rfl (ax.aB H.bV rfl rfl k9 (by first|rfl|(simp;done)|(simp;omega)) (by first|decide|exact of_decide_eq_true rfl|(simp;done)|(simp;omega)) (bS.one hnd)) ?_;rintro _ g3 ⟨rfl,k9',e23,z23⟩;refine aM 1 [4,5,6,7,8,9,10,21,22,23,24] rfl ?_;refine ak rfl ?_;refine aQ func119 2 [4,5,6,7,8,9,10,21,22,23,24,34] rfl ?_;have k9':aL g3 g1.size 291 (cX (bR s).1.kind (bR s).1.set w):=k9';refine aN rfl rfl (fun herr=>?_) (fun herr=>?_)
       · rw[if_pos (by exact herr)] at hcon;refine aQ func119 3 [2,3,4,5,6,7,8,9,10,21,22,23,24,34] rfl ?_;refine G.ret func119 rfl rfl ?_;have e3:av h g3:=(e0g.trans e01).trans (e12.only e23 (Nat.le_refl _));refine⟨_,rfl,?_,e3⟩;rw[<-hcon] at hmk;rw[vH,hmk];rfl
       · have h0:(bR s).2=0:=by simpa using herr
         rw[if_neg (by simpa using h0)] at hcon;have hsmall:=ny h0;have hbs:=aR s;have ecc:av g1 g3:=e12.only e23 (Nat.le_refl _);have e03:av g0 g3:=e01.trans ecc;have hz1:=e01.size;have hz3:=ecc.size;have hz13:g1.size<g3.size:=by omega
         refine az rfl ?_;refine ak rfl ?_;refine G.bH [(6,.int .i64 (tY (rules.take (i+1)):Nat))] [(4,_),(5,_),(7,_),(8,_),(9,_),(10,_),(21,_),(22,_),(23,_),(24,_),(34,_)] ⟨rfl,rfl,rfl,rfl,rfl,rfl,rfl,rfl,rfl,rfl,rfl,trivial⟩ func119 rfl ?_ ?_
         · refine bO 2 rfl rfl (ai.aU underlying9 rfl) ?_;refine xp rfl (ai.aT rfl rfl ⟨by omega,by omega⟩) ?_;refine br 1 rfl ?_;refine RW.done rfl ?_;exact⟨rfl,(by show some (Value.int _ _)=some (Value.int _ _);rw[uH hs];congr 2),rfl,rfl,rfl,rfl,rfl,rfl,rfl,rfl,rfl,rfl,rfl,trivial⟩
         · have hn3:b6 g3 (fun b=>b<h.size\/cC tv.ownBlock b) h.size v ss 0:=hng.aq e03 (fun _ _ k=>k);have hO3:∀b,(b<h.size\/cC tv.ownBlock b)->b<g3.size:=fun b hb=>by rcases hb with k|k;omega;(have:=htv b k.symm;omega)
           have hnd3:bS g3 (dG h.size v) (cX (bR s).1.kind (bR s).1.set w) (bR s).1:=hnd.mv ⟨ecc.size,fun b hb hn=>⟨ecc.block b hb (fun k=>k),by
            rintro(k|k)
            · exact hn (by show b<g0.size;omega)
            · exact hn (by show b<g0.size;exact(hown b k.symm).2)⟩⟩
           have hK1:¬(dG h.size v g1.size\/False):=by
            rintro((k|k)|k)
            · omega
            · have:=hown _ k.symm;omega
            · exact k
           refine bK (fun b=>¬b=Array.size g1) (fun i=>Nat.blt i 11) (sz:=11) (listed:= #[false,false,false,false,false,false,false,false,false,false,false]) func119 H.mixed rfl rfl rfl ?_;refine bu 0 1 (by kernel_rfl) rfl ?_;refine bu 1 3 (by kernel_rfl) rfl ?_;refine bn 2 7 (by kernel_rfl) rfl (fun h' e=>ai.aD H.dI H.bV rfl (e.rowAt (fun k=>k rfl) k9'.row) (by first|rfl|(simp;done)|(simp;omega))) ?_;refine bu 3 15 (by kernel_rfl) rfl ?_;refine bu 4 31 (by kernel_rfl) rfl ?_;refine bn 5 63 (by kernel_rfl) rfl (fun h' e=>aE (H.Et _ _) rfl) ?_;refine cE 6 127 (by kernel_rfl) rfl (aj (vs:=[_,_]) func187 rfl H.rM rfl (af.aX (G7 i hn3 hO3 (by omega)))) ?_;rintro _ g4 ⟨v4,rfl,hn4,nx4⟩;refine⟨fun _=>nx4.ext.mono (fun b _ k e=>hK1 (e▸k)),?_⟩;have hz4:=nx4.ext.size
           have hK2:¬(dG h.size v4 g1.size\/False):=by
            rintro((k|k)|k)
            · omega
            · rcases nx4.own _ k.symm with k2|k2
              · exact hK1 (.inl (.inr k2.symm))
              · omega
            · exact k
           refine cE 7 255 (by kernel_rfl) rfl (aj (vs:=[_,_,_]) func186 rfl H.uZ rfl (af.aX (F1 401 (x:=(bR s).1) (to:=ss.length) hsmall.1 hn4 (fun b hb=>by have:=hO3 b hb;omega) (hnd3.mv nx4.Lc) hsmall.2.1 (by have:=hsmall.1;simp only[List.length_append,List.length_singleton];omega)))) ?_;rintro _ g5 ⟨v5,rfl,hn5,nx5⟩;refine⟨fun _=>nx5.ext.mono (fun b _ k e=>hK2 (e▸k)),?_⟩;have hz5:=nx5.ext.size;have nx45:Nx (fun _=>False) h.size g3 v g5 v5:=nx4.trans nx5 (fun _ _ k=>k)
           have ht5:eM gj (fun _=>True) g5 h1.size 3 tv t:=(htg.aq e03).DZ nx45.ext (fun b hb=>by
            rintro((k1|k1)|k1)
            · have:=htv b hb;omega
            · exact hdist b hb k1.symm
            · exact k1) (fun _ _ _=>trivial) (fun _ _ _=>trivial)
           obtain⟨css,hc1,hc2,hc3⟩:=id ht5;have hKt:¬cC tv.ownBlock g1.size:=fun k=>by have:=htv _ k.symm;omega
           refine cE 8 511 (by kernel_rfl) rfl (ax.bA (us:=[_]) underlying101 H.lR rfl rfl (by decide) (by simp[Value.oneCell'])) ?_;rintro _ _ ⟨rfl,rfl⟩;refine⟨fun _=>by first|exact Ext.push _ _ _|assumption,?_⟩;refine cE 9 1023 (by kernel_rfl) rfl (ax.bN underlying101 H.lR rfl rfl (hc2) rfl rfl (by first|decide|simp[Value.oneCell']) (by omega) (by decide) (by omega)) ?_;rintro t6 g6 ⟨ho6,hx6,hx6',hv6⟩;refine⟨fun _=>hx6'.mono (fun b _ k e=>hKt (e▸k)),?_⟩;refine bu 10 2047 (by kernel_rfl) rfl ?_;refine RD.done (by kernel_rfl) ?_;refine xu [4,5,6,7,8,9,10,21,22,23,24,34] rfl ?_;refine G.aJ ?_;refine G.bB func119 rfl ?_;refine xp rfl (ai.aT rfl rfl ⟨by omega,by omega⟩) ?_;refine aM 1 [4,5,6,7,8,9,10,21,22,23,24,34] rfl ?_;have ht6:=eM.mB hc1 hc3 ho6 hx6 hv6 (y:=(lay (bR s).1 (ss++[(⟨2,0,[],i⟩:bM)]) ss.length).2) rfl
           have hn6:b6 g6 (fun b=>b<h.size\/cC t6.ownBlock b) h.size v5 (lay (bR s).1 (ss++[⟨2,0,[],i⟩]) ss.length).1 0:=hn5.ext hx6 (fun k=>by have:=htv _ k.symm;omega) (fun b hb k=>by
            rcases nx45.own b hb with k'|k'
            · exact hdist b k.symm k'
            · have:=htv b k.symm;omega) (fun b _ k=>.inr k) (fun b hb k=>k.imp id (fun k=>by
              rcases hv6 b k.symm with k'|k'
              · exact k'.symm
              · omega))
           have hd6:∀b,t6.ownBlock=some b->v5.ownBlock≠some b:=fun b hb k=>by
            rcases hv6 b hb with k'|k'
            · rcases nx45.own b k with k2|k2
              · exact hdist b k' k2
              · have:=htv b k';omega
            · have:=(hn5.own b k).2;omega
           have nx05:Nx (fun _=>False) h.size h1 (.slice none 0 0) g5 v5:=(nxg.trans (Nx.Lb e03) (fun _ _ k=>k)).trans nx45 (fun _ _ k=>k);have nx06:Nx (fun _=>False) h.size h1 (.slice none 0 0) g6 v5:=⟨⟨by have:=hx6.size;omega,fun b hb hn=>by rw[hx6.block b (by omega) (fun k=>by have:=htv b k.symm;omega)];exact nx05.ext.block b hb hn⟩,nx05.own⟩
           have hlenl:=(eG (bR s).1 (ss++[⟨2,0,[],i⟩]) ss.length).2;rw[List.length_append,List.length_singleton] at hlenl;have htt:=uH hs;exact ih (i+1,t6) _ _ ⟨rfl,rfl,rfl,rfl,rfl,rfl,trivial⟩ ⟨by show i+1<=kn;omega,v5,_,_,hn6,ht6,nx06,hd6,⟨by have:=hsmall.1;show _<=402*(i+1);omega,by have:=hsmall.2.2;show tY (rules.take (i+1))<=200*(i+1);omega,by simp[htl]⟩,hcon⟩ (by show kn-(i+1)<kn-i;omega)
     · obtain rfl:i=kn:=by omega
       have hall:rules.take i=rules:=List.take_of_length_le (by omega);have hnil:rules.drop i=[]:=List.drop_of_length_le (by omega);rw[hnil,jm] at hcon;rw[<-hcon] at hmk;rw[hall] at htot;simp only[hall];refine aW rfl rfl ?_;refine ak rfl ?_;refine aQ func119 2 [4,5,6,21,22,23,24,52] rfl ?_;refine aN rfl rfl (fun hbig2=>?_) (fun hbig2=>?_)
       · refine aQ func119 2 [2,3,4,5,6,21,22,23,24,52] rfl ?_;refine G.ret func119 rfl rfl ?_;refine⟨_,rfl,?_,e0g⟩;have:dV rules= .inl 70:=by rw[hmk];exact if_pos (by omega)
         rw[vH,this];rfl
       · have hmk2:dV rules= .inr (ss++[⟨0,0,t,0⟩],ss.length):=by rw[hmk];exact if_neg (by omega)
         have hrd:bF gj g0 (fun b=>dG h.size v b\/b<h.size) tv t:=htg.Fu (fun b hb=>by
          rintro((k1|k1)|k1)
          · have:=htv b hb;omega
          · exact hdist b hb k1.symm
          · have:=htv b hb;omega) (fun _ _ _=>trivial)
         obtain⟨oa9,n9,c9,rfl,_⟩:=id hrd;refine az rfl ?_;refine bg func119 3 rfl ?_;refine xp rfl (aE (H.xS _ _ _) rfl) ?_;refine xo rfl (aj (vs:=[_,_]) func187 rfl H.rM rfl (af.aX (lD (O:=fun b=>b<h.size) (to:=t) (hng.aq (Ext.refl _ _) (fun b _ k=>.inl k)) (fun b hb=>by omega) hrd (by omega)))) ?_;rintro _ g4 ⟨v4,rfl,hn4,nx4⟩;refine bO 1 rfl rfl (aa (off:=1) underlying287 rfl rfl H.bG rfl) ?_;refine RW.bT rfl rfl rfl (ax.aH H.bG rfl rfl hn4.blk (by first|decide|exact of_decide_eq_true rfl|(simp;done)|(simp;omega)) rfl) ?_;rintro _ g5 ⟨rfl,hk5,hx5,hz5⟩;refine xd [4,5,6,21,22,23,24,52] rfl ?_;refine aQ func119 3 [2,3,4,5,6,21,22,23,24,52] rfl ?_;refine G.ret func119 rfl rfl ?_;have hn5:b6 g5 (fun b=>b<h.size) h.size v4 (ss++[⟨0,0,t,0⟩]) ss.length:=⟨hk5,hn4.row.DZ hx5 (fun b hb k=>by have:=(hn4.own b hb).1;omega) (fun b _ k=>.inl k) (fun b _ k=>k)⟩
         have e4:av h g5:=⟨by have:=hx5.size;have:=nx4.ext.size;omega,fun b hb _=>by
          rw[hx5.block b (by have:=nx4.ext.size;omega) (by omega),nx4.ext.block b (by omega) ?_]
          · exact e0g.block b hb (fun k=>k)
          · rintro((k|k)|k)
            · omega
            · rcases nxg.own b k.symm with k2|k2
              · cases k2
              · omega
            · exact k⟩
         refine⟨_,rfl,?_,e4⟩;rw[vH,hmk2];exact⟨h.size,v4,rfl,Nat.le_refl _,hn5⟩
theorem mD (hn:b6 h O nb v ss st):af Tryz.prog 242 #[.pointer (some ⟨nb,0,none⟩)] h (bC fun r h'=>r= .bool (decide (ss.length=0))/\h'=h):=by
 obtain⟨css,hc1,hc2,hc3⟩:=id hn.row;obtain⟨oa,c,rfl,_⟩:=hc2.open;refine af.of func242 rfl rfl ?_;refine aQ func242 1 [0,2] rfl ?_;refine ak rfl ?_;refine G.bH [(2,.bool (decide (ss.length=0)))] [(0,_)] ⟨rfl,trivial⟩ func242 rfl ?_ ?_
 · refine bO 1 rfl rfl (ai.fN underlying223 rfl rfl) ?_;refine br 1 rfl ?_;refine RW.b7 (d:=5) (b':=false) rfl (rfl) ?_;refine bO 2 rfl rfl (aa (off:=0) underlying287 rfl rfl H.fq rfl) ?_;refine xp rfl (ah H.gp rfl (hn.blk.cell (i:=0) rfl)) ?_;refine xp rfl (ai.aI underlying285 rfl) ?_;refine br 3 rfl ?_;refine RW.done rfl ?_;exact⟨rfl,aK rfl (by simp only[decide_eq_decide];omega),rfl,trivial⟩
 · refine G.ret func242 rfl rfl ?_;exact⟨_,rfl,rfl,rfl⟩
theorem FC {base:Nat}{t:TypeId}{m:Nat}(k:cj cT h base t v todo) (hm:todo.length=m+1) :
 ∃g c x,v= .slice (some ⟨g,0,none⟩) (m+1) c/\m+1<=c/\g<h.size/\base<=g/\cellAt h ⟨g,0+m*1,none⟩=some (.int .i64 (x:Nat))/\todo=todo.dropLast++[x] /\
  cj cT h base t (.slice (bQ (some ⟨g,0,none⟩) 0 1 c) m c) todo.dropLast/\(Value.slice (bQ (some ⟨g,0,none⟩) 0 1 c) m c).ownBlock=some g:=by
 have k':aC h base t 1 v todo.length (todo.map cT):=k;obtain⟨oa,c,rfl,ho⟩:=k'.open;have hne:todo≠[]:=by intro e;rw[e] at hm;cases hm
 have hlast:todo=todo.dropLast++[todo.getLast hne]:=(List.dropLast_concat_getLast hne).symm
 have hx:(todo.map cT)[m]? =some (cT (todo.getLast hne)):=by
  rw[List.getElem?_map,List.getLast_eq_getElem,List.getElem?_eq_getElem (by omega)];simp[hm]
 obtain⟨g,rfl,hb,hlt,hc,_⟩:=ho.at hx;have ht:=ho.take (m:=m) (by omega) 1
 have hd:(todo.map cT).take (m*1)=todo.dropLast.map cT:=by
  rw[Nat.mul_one,List.dropLast_eq_take,hm,Nat.add_sub_cancel,List.map_take]
 rw[hd] at ht;refine⟨g,c,todo.getLast hne,by rw[hm],by have:=ho.le;omega,hlt,hb,hc,hlast,?_,?_⟩
 · have hl:todo.dropLast.length=m:=by simp[hm]
   unfold cj;rw[hl];exact ht
 · unfold bQ;split<;>simp[Value.ownBlock,Addr.add]
theorem b6.get (k:b6 h O nb v ss st) (hx:ss[i]? =some x) :
 ∃g c w,v= .slice (some ⟨g,0,none⟩) ss.length c/\g<h.size/\Lw.rowAt h g (0+i*7) (DH x.kind x.set w x.rule)/\bF gj h (fun b=>cC v.ownBlock b\/b=nb\/O b) w x.to:=by
 obtain⟨g,c,cs,rfl,_,hg,hrow,_,⟨w,rfl,hw⟩,_⟩:=k.row.put hx;exact⟨g,c,w,rfl,hg,hrow,hw⟩
theorem AV {oa:Option Addr}{c:Nat}{xs:List Nat}(k:bF gj h O (.slice oa n c) xs):xs.length=n/\(n=0\/∃b o,oa=some ⟨b,o,none⟩/\Lw.rowAt h b o (xs.map cT))/\n<=maxLen:=by
 obtain⟨oa',n',c',hv,hl,hc,hm,hg⟩:=k;cases hv;have hs:Sl gj h O oa n c xs:=⟨hl,hc,hm,hg⟩
 exact⟨hl,Sl.row hs,by omega⟩
theorem B8 (ht:todo.getLast? =some i) (hs:seen[i]? =some true):gH ss (n+1) todo seen=gH ss n todo.dropLast seen:=by
 rw[gH,ht];simp[hs]
theorem Eo (ht:todo.getLast? =some i) (hs:seen[i]? =some false) (hx:ss[i]? =some x):gH ss (n+1) todo seen=gH ss n (if x.kind=0 then todo.dropLast++x.to else todo.dropLast) (seen.set i true):=by
 rw[gH,ht];simp[hs,hx]
theorem En:gH ss n [] seen=seen:=by cases n<;>simp[gH]
def EM (ss:List bM) (seen:List Bool) (i:Nat):Bool:=seen[i]? ==some true && (ss[i]?.map (·.kind)) !=some 0
theorem nN {tv:Value}{base:Nat}{tb:Option Nat}(hn:b6 h O nb v ss st) (hgood:Good ss) (hss:ss.length<=1000000) (htd:cj cT h base 3 tv todo) (htb:tv.ownBlock=tb)
 (hbase:base<=h.size) (hOt:∀b,tb=some b->O b/\b≠nb/\v.ownBlock≠some b) (hlt:∀j∈todo,j<ss.length) (hpot:todo.length+o7 ss (List.replicate ss.length false)<=1000000) :
 af Tryz.prog 243 #[.pointer (some ⟨nb,0,none⟩),tv] h (bC fun r h'=>cj cT h' h.size 3 r (closed ss todo)/\Ext (cC tb) h h'):=by
 obtain⟨css,hc1,hc2,hc3⟩:=id hn.row;obtain⟨va,vc,rfl,_⟩:=hc2.open
 have htl:tb=none\/∃b,tb=some b/\b<h.size:=by
  cases tb with
  |none=>exact .inl rfl
  |some b=>exact .inr ⟨b,rfl,(aC.lt htd htb).2⟩
 obtain⟨oa,c,rfl,_⟩:=(show aC h base 3 1 tv todo.length (todo.map cT) from htd).open;generalize htgt:gH ss (todo.length+o7 ss (List.replicate ss.length false)) todo (List.replicate ss.length false)=tgt;refine af.of func243 rfl rfl ?_;refine aQ func243 1 [0,1,4] rfl ?_;refine ak rfl ?_;refine bg func243 1 rfl ?_;refine xp rfl (ai.aI underlying101 rfl) ?_;refine aM 1 [0,1,4,12] rfl ?_;refine aN rfl rfl (fun hz=>?_) (fun hz=>?_)
 · refine aQ func243 1 [0,1,4,12] rfl ?_;refine G.ret func243 rfl rfl ?_;have:closed ss todo=[]:=by unfold closed;rw[if_pos (by omega)]
   rw[this];exact⟨_,rfl,cj.nil _ _ _ _,Ext.refl _ _⟩
 · refine az rfl ?_;refine bg func243 2 rfl ?_;refine xp rfl (aa (off:=0) underlying287 rfl rfl H.fq rfl) ?_;refine xp rfl (ah H.gp rfl (hn.blk.cell (i:=0) rfl)) ?_;refine xp rfl (ai.aI underlying285 rfl) ?_;refine xo rfl (ax.nA underlying142 H.OH H.Ny rfl rfl rfl (by omega) (by decide)) ?_;rintro _ h1 ⟨rfl,hk1,e1⟩;refine aM 1 [0,1,4,5,12] rfl ?_;refine ak rfl ?_;refine G.block rfl rfl ?_;refine bf (σ:=Nat×Value×List Nat×List Bool) (fun q=>[(0,.pointer (some ⟨nb,0,none⟩)),(1,q.2.1),(5,.slice (some ⟨h.size,0,none⟩) ss.length ss.length)]) (fun q h'=>Ext (cC tb) h h'/\cj cT h' base 3 q.2.1 q.2.2.1/\(∀b,q.2.1.ownBlock=some b->tb=some b\/h1.size<=b)/\aC h' h.size 4 1 (.slice (some ⟨h.size,0,none⟩) ss.length ss.length) ss.length (q.2.2.2.map .bool)/\q.2.2.2.length=ss.length/\(∀j∈q.2.2.1,j<ss.length)/\(q.2.2.1.length+o7 ss q.2.2.2<=q.1/\q.1<=1000000/\h1.size<=h'.size)/\gH ss q.1 q.2.2.1 q.2.2.2=tgt) (fun q=>q.1) ((todo.length+o7 ss (List.replicate ss.length false),.slice oa todo.length c,todo,List.replicate ss.length false)) rfl ⟨rfl,rfl,rfl,trivial⟩ ⟨e1.mono fun _ _ k=>k.elim,aC.sO htd e1,fun b hb=>.inl (htb.symm.trans hb),by simpa using hk1,by simp,hlt,⟨Nat.le_refl _,hpot,Nat.le_refl _⟩,htgt⟩ ?_;rintro⟨n,dv,td,seen⟩ g ⟨eg,hd,hdo,hs,hsl,hlt',⟨hp,hn1,hgz⟩,hcon⟩ ih
   try dsimp only
   dsimp only at hd hdo hs hsl hlt' hp hn1 hcon;have hz1:h.size<h1.size:=by have:=(aC.lt hk1 rfl).2;exact this
   have hsow:=hs.open;obtain⟨sa,sc,hsv,hsow⟩:=hsow;cases hsv
   rcases Nat.eq_zero_or_pos td.length with hpos|hpos
   · obtain rfl:td=[]:=List.eq_nil_of_length_eq_zero hpos;obtain⟨oad,cd,rfl,_⟩:=(show aC g base 3 1 dv ([]:List Nat).length (([]:List Nat).map cT) from hd).open;rw[En] at hcon;refine ak rfl ?_;refine bg func243 1 rfl ?_;refine xp rfl (ai.aI underlying101 rfl) ?_;refine aM 1 [0,1,5,21] rfl ?_;refine ay rfl rfl (fun hc=>absurd hc (by simp)) (fun _=>?_);have hnc:∀{h':au},Ext (cC tb) h h'->b6 h' O nb (.slice va ss.length vc) ss st:=fun e=>hn.ext e (fun k=>(hOt nb k.symm).2.1 rfl) (fun b hb k=>(hOt b k.symm).2.2 hb) (fun b _ k=>(hOt b k.symm).1) (fun _ _ k=>k)
     have hcl:closed ss todo=(List.range ss.length).filter (EM ss seen):=by
      unfold closed;rw[if_neg (by omega),htgt,<-hcon];rfl
     refine aW rfl rfl ?_;refine aQ func243 1 [0,1,5,7,21] rfl ?_;refine ak rfl ?_;refine bg func243 1 rfl ?_;refine xp rfl (ai.aI underlying142 rfl) ?_;refine aM 1 [0,1,5,7,21,59,60,61] rfl ?_;refine G.block rfl rfl ?_;refine bf (σ:=Nat×Value) (fun q=>[(0,.pointer (some ⟨nb,0,none⟩)),(7,q.2),(59,.slice (some ⟨h.size,0,none⟩) ss.length ss.length),(60,.int .i64 (ss.length:Nat)),(61,.int .i64 (q.1:Nat))]) (fun q h'=>q.1<=ss.length/\av g h'/\cj cT h' g.size 3 q.2 ((List.range q.1).filter (EM ss seen))) (fun q=>ss.length-q.1) ((0,.slice none 0 0)) rfl ⟨rfl,rfl,rfl,rfl,rfl,trivial⟩ ⟨Nat.zero_le _,Ext.refl _ _,cj.nil _ _ _ _⟩ ?_;rintro⟨i,ov⟩ g2 ⟨hi,e2,ho2⟩ ih2
     try dsimp only
     dsimp only at hi ho2;have eg2:Ext (cC tb) h g2:=eg.trans (e2.mono fun _ _ k=>k.elim);have hn2:=hnc eg2;have hz2:=e2.size;refine aQ func243 1 [0,7,59,60,61,62] rfl ?_;refine ak rfl ?_;refine aN rfl rfl (fun hlti=>?_) (fun hlti=>?_)
     · have hil:i<ss.length:=by omega
       obtain⟨bx,hbx⟩:∃bx,seen[i]? =some bx:=⟨_,List.getElem?_eq_getElem (by omega)⟩
       obtain⟨y,hy⟩:∃y,ss[i]? =some y:=⟨_,List.getElem?_eq_getElem hil⟩
       obtain⟨sa2,sc2,hsv2,hsow2⟩:=(aC.sO hs e2).open;cases hsv2;obtain⟨g',hg',_,hsg,hscell,hsnf⟩:=hsow2.at (i:=i) (x:=.bool bx) (by rw[List.getElem?_map,hbx];rfl);cases hg';obtain⟨gs,cs,ws,hvs,hgs,hrow,hws⟩:=hn2.get hy;cases hvs;have hlen2:((List.range i).filter (EM ss seen)).length<=i:=by have:=List.length_filter_le (EM ss seen) (List.range i);simpa using this
       have hnext:(List.range (i+1)).filter (EM ss seen)=(List.range i).filter (EM ss seen)++(if EM ss seen i then [i] else []):=by
        rw[List.range_succ,List.filter_append];cases hpr:EM ss seen i<;>simp[hpr]
       refine az rfl ?_;refine ak rfl ?_;refine G.block rfl rfl ?_;refine bg func243 1 rfl ?_;refine xp rfl (ai.aA underlying142 H.qo rfl rfl i rfl rfl (by omega)) ?_;refine xp rfl (ah H.Hv rfl hscell) ?_;refine aM 2 [0,7,8,9,59,60,61,62] rfl ?_;refine ak rfl ?_;refine G.bH [(77,.bool (EM ss seen i))] [(0,_),(7,_),(8,_),(9,_),(59,_),(60,_),(61,_),(62,_)] ⟨rfl,rfl,rfl,rfl,rfl,rfl,rfl,rfl,trivial⟩ func243 rfl ?_ ?_
       · refine br 2 rfl ?_;refine bI (d:=67) rfl (fun hg=>?_) (fun hg=>?_)
         · refine bO 2 rfl rfl (aa (off:=0) underlying287 rfl rfl H.fq rfl) ?_;refine xp rfl (ah H.gp rfl (hn2.blk.cell (i:=0) rfl)) ?_;refine bO 1 rfl rfl (ai.aA underlying285 H.jT rfl rfl i rfl rfl hil) ?_;refine xp rfl (aa (off:=0) underlying297 rfl rfl H.bG rfl) ?_;refine xp rfl (ah H.bU rfl (hrow 0 _ rfl)) ?_;refine br 2 rfl ?_;refine RW.done rfl ?_;exact⟨rfl,aK rfl (by subst hg;simp[EM,hbx,hy];by_cases hk0:y.kind=0<;>simp[hk0]),rfl,rfl,rfl,rfl,rfl,rfl,rfl,rfl,trivial⟩
         · refine br 10 rfl ?_;refine RW.done rfl ?_;exact⟨rfl,aK rfl (by subst hg;simp[EM,hbx]),rfl,rfl,rfl,rfl,rfl,rfl,rfl,rfl,trivial⟩
       · refine ay rfl rfl (fun hb=>?_) (fun hb=>?_)
         · rw[if_pos hb] at hnext;refine G.bB func243 rfl ?_;refine br 2 rfl ?_;refine xo rfl (ax.bA (us:=[_]) underlying101 H.lR rfl rfl (by decide) (by simp[Value.oneCell'])) ?_;rintro _ _ ⟨rfl,rfl⟩;refine xo rfl (ax.bN underlying101 H.lR rfl rfl (ho2) rfl rfl (by first|decide|simp[Value.oneCell']) (by omega) (by decide) (by omega)) ?_;rintro ov3 g3 ⟨ho3,hx3,-,hv3⟩;refine aM 1 [0,7,8,9,59,60,61,62,77] rfl ?_;refine G.aJ ?_;refine G.bB func243 rfl ?_;refine xp rfl (ai.aT rfl rfl ⟨by omega,by omega⟩) ?_;refine aM 1 [0,7,8,9,59,60,61,62,77] rfl ?_;have ho3':cj cT g3 g.size 3 ov3 ((List.range (i+1)).filter (EM ss seen)):=by rw[hnext];exact cj.of (ys:=[i]) ho3 rfl rfl rfl
           have e3:av g g3:=cj.grown e2 ho2 (Nat.le_refl _) hx3;exact ih2 (i+1,ov3) _ _ ⟨rfl,rfl,rfl,rfl,rfl,trivial⟩ ⟨by show i+1<=_;omega,e3,ho3'⟩ (by show ss.length-(i+1)<ss.length-i;omega)
         · rw[if_neg (by rw[hb];decide)] at hnext;rw[List.append_nil] at hnext;rw[<-hnext] at ho2;refine az rfl ?_;refine G.aJ ?_;refine G.bB func243 rfl ?_;refine xp rfl (ai.aT rfl rfl ⟨by omega,by omega⟩) ?_;refine aM 1 [0,7,8,9,59,60,61,62,77] rfl ?_;exact ih2 (i+1,ov) _ _ ⟨rfl,rfl,rfl,rfl,rfl,trivial⟩ ⟨by show i+1<=_;omega,e2,ho2⟩ (by show ss.length-(i+1)<ss.length-i;omega)
     · obtain rfl:i=ss.length:=by omega
       refine aW rfl rfl ?_;refine aQ func243 2 [0,4,7,59,60,61,62] rfl ?_;refine G.ret func243 rfl rfl ?_;rw[hcl];exact⟨_,rfl,aC.lower ho2 (by omega),eg2⟩
   · obtain⟨m,hm⟩:∃m,td.length=m+1:=⟨td.length-1,by omega⟩
     obtain⟨gd,cd,x,rfl,hcd,hgd,hbd,hcell,hlast,hcut,hcb⟩:=FC hd hm;have hgl:td.getLast? =some x:=by rw[hlast];simp
     have hxl:x<ss.length:=hlt' x (by rw[hlast];simp);have hltd:∀j∈td.dropLast,j<ss.length:=fun j hj=>hlt' j (List.dropLast_subset _ hj)
     have hdl:td.dropLast.length=m:=by simp[hm]
     obtain⟨n,rfl⟩:∃n',n=n'+1:=⟨n-1,by omega⟩
     obtain⟨bx,hbx⟩:∃bx,seen[x]? =some bx:=⟨_,List.getElem?_eq_getElem (by omega)⟩
     obtain⟨y,hy⟩:∃y,ss[x]? =some y:=⟨_,List.getElem?_eq_getElem hxl⟩
     obtain⟨g',hg',_,hsg,hscell,hsnf⟩:=hsow.at (i:=x) (x:=.bool bx) (by rw[List.getElem?_map,hbx];rfl);cases hg';refine ak rfl ?_;refine bg func243 1 rfl ?_;refine xp rfl (ai.aI underlying101 rfl) ?_;refine aM 1 [0,1,5,21] rfl ?_;refine ay rfl rfl (fun _=>?_) (fun hc=>absurd hc (by simp only[decide_eq_false_iff_not];omega));refine az rfl ?_;refine G.block rfl rfl ?_;refine bg func243 2 rfl ?_;refine xp rfl (ai.aI underlying101 rfl) ?_;refine xp rfl (ai.fh rfl rfl ⟨by omega,by omega⟩) ?_;refine xp rfl (ai.aA underlying101 H.bG rfl rfl m (by omega) rfl (by omega)) ?_;refine xp rfl (ah H.bU rfl hcell) ?_;refine aM 1 [0,1,5,6,21] rfl ?_;refine bg func243 2 rfl ?_;refine xp rfl (ai.aI underlying101 rfl) ?_;refine xp rfl (ai.fh rfl rfl ⟨by omega,by omega⟩) ?_;refine xp rfl (ai.gL underlying101 H.bG rfl rfl m (by omega) (by omega)) ?_;refine aM 1 [0,1,5,6,21] rfl ?_;refine ak rfl ?_;refine bg func243 2 rfl ?_;refine xp rfl (ai.aA underlying142 H.qo rfl rfl x rfl rfl (by omega)) ?_;refine xp rfl (ah H.Hv rfl hscell) ?_;refine xd [0,1,5,6,21,36] rfl ?_;refine ay rfl rfl (fun hb=>?_) (fun hb=>?_)
     · subst hb;rw[B8 hgl hbx] at hcon;refine aW rfl rfl ?_;exact ih (n,_,td.dropLast,seen) _ _ ⟨rfl,rfl,rfl,trivial⟩ ⟨eg,hcut,fun b hb=>hdo b (by rw[<-hb];exact hcb▸rfl),hs,hsl,hltd,⟨by show td.dropLast.length+o7 ss seen<=n;omega,by show n<=_;omega,hgz⟩,hcon⟩ (by show n<n+1;omega)
     · subst hb;rw[Eo hgl hbx hy] at hcon;have hpt:=wC ss seen x y hy hbx
       have hgne:¬gd=h.size:=fun k=>by
        rcases hdo gd rfl with k2|k2
        · rcases htl with k3|⟨b3,k3,k4⟩
          · rw[k3] at k2;cases k2
          · rw[k3] at k2;cases k2;omega
        · omega
       refine az rfl ?_;refine bg func243 2 rfl ?_;refine xp rfl (ai.aA underlying142 H.qo rfl rfl x rfl rfl (by omega)) ?_;refine RW.bT rfl rfl rfl (cB H.qo rfl rfl rfl hscell hsnf) ?_;rintro _ g2 ⟨rfl,hg2⟩;have x2:Ext (fun b=>b=h.size) g g2:=by rw[hg2];exact Ext.dP _ _ _ rfl
       have hz2:=x2.size;have eg2:Ext (cC tb) h g2:=⟨by omega,fun b hb hn=>by rw[x2.block b (by omega) (by omega)];exact eg.block b hb hn⟩
       have hs2:aC g2 h.size 4 1 (.slice (some ⟨h.size,0,none⟩) ss.length ss.length) ss.length ((seen.set x true).map .bool):=by
        have k:=(hsow.set (i:=x) rfl hxl (.bool true)).own;rw[<-hg2] at k;rw[List.map_set];exact k
       have hcut2:aC g2 base 3 1 _ td.dropLast.length (td.dropLast.map cT):=aC.ext x2 hcut (fun b hb k=>hgne (by have:=hcb.symm.trans hb;cases this;exact k));have hn2:b6 g2 O nb _ ss st:=hn.ext eg2 (fun k=>(hOt nb k.symm).2.1 rfl) (fun b hb k=>(hOt b k.symm).2.2 hb) (fun b _ k=>(hOt b k.symm).1) (fun _ _ k=>k);obtain⟨gs,cs,ws,hvs,hgs,hrow,hws⟩:=hn2.get hy;cases hvs;have hsl2:(seen.set x true).length=ss.length:=by simpa using hsl
       refine xd [0,1,5,6,21,36] rfl ?_;refine bg func243 2 rfl ?_;refine xp rfl (aa (off:=0) underlying287 rfl rfl H.fq rfl) ?_;refine xp rfl (ah H.gp rfl (hn2.blk.cell (i:=0) rfl)) ?_;refine bO 1 rfl rfl (ai.aA underlying285 H.jT rfl rfl x rfl rfl hxl) ?_;refine xp rfl (aa (off:=0) underlying297 rfl rfl H.bG rfl) ?_;refine xp rfl (ah H.bU rfl (hrow 0 _ rfl)) ?_;refine aM 1 [0,1,5,6,21,36,48] rfl ?_;refine aN rfl rfl (fun hk=>?_) (fun hk=>?_)
       · rw[if_pos (by omega)] at hcon;obtain⟨wa,wn,wc,rfl,_⟩:=id hws;obtain⟨hwl,hwn,hwm⟩:=AV hws;rw[hdl] at hcut2;refine G.bB func243 rfl ?_;refine bO 3 rfl rfl (aa (off:=0) underlying287 rfl rfl H.fq rfl) ?_;refine xp rfl (ah H.gp rfl (hn2.blk.cell (i:=0) rfl)) ?_;refine bO 1 rfl rfl (ai.aA underlying285 H.jT rfl rfl x rfl rfl hxl) ?_;refine xp rfl (aa (off:=5) underlying297 rfl rfl H.eC rfl) ?_;refine xp rfl (ah H.iL rfl (hrow 5 _ rfl)) ?_;refine xo rfl (ax.append underlying101 H.lR rfl rfl hcut2 (by simp[hwl]) hwn (by intro u hu;simp at hu;obtain⟨j,_,rfl⟩:=hu;rfl) (by simp only[maxLen];omega) (by omega) (by omega)) ?_;rintro dv3 g3 ⟨hd3,ex3,-,ho3⟩;refine aM 1 [0,1,5,6,21,36,48] rfl ?_;refine G.aJ ?_;have hz3:=ex3.size;rw[hcb] at ex3 ho3
         have hd3':cj cT g3 base 3 dv3 (td.dropLast++y.to):=by
          unfold cj;rw[List.length_append,hdl,hwl,List.map_append];exact hd3
         have hdo3:∀b,dv3.ownBlock=some b->tb=some b\/h1.size<=b:=fun b hb=>by
          rcases ho3 b hb with k|k
          · exact hdo b k
          · exact .inr (by omega)
         have eg3:Ext (cC tb) h g3:=⟨by omega,fun b hb hn=>by
          rw[ex3.block b (by omega) ?_]
          · exact eg2.block b hb hn
          · intro k;cases k
            rcases hdo gd rfl with k2|k2
            · exact hn k2.symm
            · omega⟩
         have hgood':∀j∈td.dropLast++y.to,j<ss.length:=fun j hj=>by
          rcases List.mem_append.1 hj with k|k
          · exact hltd j k
          · exact hgood y (List.mem_of_getElem? hy) j k
         exact ih (n,dv3,td.dropLast++y.to,seen.set x true) _ _ ⟨rfl,rfl,rfl,trivial⟩ ⟨eg3,hd3',hdo3,aC.ext ex3 hs2 (fun b hb k=>by cases k;cases hb;exact hgne rfl),hsl2,hgood',⟨by show (td.dropLast++y.to).length+o7 ss (seen.set x true)<=n;rw[List.length_append];omega,by show n<=_;omega,by show h1.size<=g3.size;omega⟩,hcon⟩ (by show n<n+1;omega)
       · rw[if_neg (by omega)] at hcon;refine az rfl ?_;refine G.aJ ?_;exact ih (n,_,td.dropLast,seen.set x true) _ _ ⟨rfl,rfl,rfl,trivial⟩ ⟨eg2,hcut2,fun b hb=>hdo b (by rw[<-hb];exact hcb▸rfl),hs2,hsl2,hltd,⟨by show td.dropLast.length+o7 ss (seen.set x true)<=n;omega,by show n<=_;omega,by show h1.size<=g2.size;omega⟩,hcon⟩ (by show n<n+1;omega)
theorem yE (hn:b6 h O nb v ss st) (hgood:Good ss) (hss:ss.length<=1000000) (hst:ss.length=0\/st<ss.length) (hpot:1+o7 ss (List.replicate ss.length false)<=1000000) :
 af Tryz.prog 189 #[.pointer (some ⟨nb,0,none⟩)] h (bC fun r h'=>cj cT h' h.size 3 r (cg ss st)/\av h h'):=by
 have hown:=hn.own;have hnlt:=hn.blk.lt;refine af.of func189 rfl rfl ?_;refine aQ func189 1 [0,2] rfl ?_;refine ak rfl ?_;refine bg func189 1 rfl ?_;refine xo rfl (aj (vs:=[_]) func242 rfl H.FH rfl (af.aX (mD hn))) ?_;rintro _ h0 ⟨rfl,hh0⟩;refine xd [0,2,4] rfl ?_;subst hh0;refine aN rfl rfl (fun hz=>?_) (fun hz=>?_)
 · refine aQ func189 1 [0,2,4] rfl ?_;refine G.ret func189 rfl rfl ?_;rw[cg,if_pos hz];exact⟨_,rfl,cj.nil _ _ _ _,Ext.refl _ _⟩
 · have hn1:b6 (h0.push (.cells #[.int .i64 (st:Nat)] 3)) (fun b=>O b\/b=h0.size) nb v ss st:=hn.aq (Ext.push _ _ _) (fun b hb k=>k.elim id (fun k=>by omega));have ho1:cj cT (h0.push (.cells #[.int .i64 (st:Nat)] 3)) h0.size 3 (.slice (some ⟨h0.size,0,none⟩) 1 1) [st]:=tQ cT h0 3 [st] 1 rfl (by simp[maxLen]) h0.size (Nat.le_refl _) rfl;refine az rfl ?_;refine bg func189 3 rfl ?_;refine xp rfl (aa (off:=1) underlying287 rfl rfl H.bG rfl) ?_;refine xp rfl (ah H.bU rfl (hn.blk.cell (i:=1) rfl)) ?_;refine xo rfl (ax.bA (us:=[_]) underlying101 H.lR rfl rfl (by decide) (by simp[Value.oneCell'])) ?_;rintro _ _ ⟨rfl,rfl⟩;refine xo rfl (aj (vs:=[_,_]) func243 rfl H.Jp rfl (af.aX (nN (tb:=some h0.size) hn1 hgood hss ho1 rfl (by simp) (fun b hb=>by cases hb;exact⟨.inr rfl,by omega,fun k=>by have:=(hown _ k).2;omega⟩) (fun j hj=>by simp at hj;omega) hpot))) ?_;rintro _ h2 ⟨ho2,hx2⟩;refine aM 1 [0,2,4] rfl ?_;refine G.ret func189 rfl rfl ?_;rw[cg,if_neg hz];have hps:(h0.push (.cells #[.int .i64 (st:Nat)] 3)).size=h0.size+1:=by simp
   refine⟨_,rfl,aC.lower ho2 (by omega),⟨by have:=hx2.size;omega,fun b hb _=>?_⟩⟩;rw[hx2.block b (by omega) (fun k=>by cases k;omega)];exact(Ext.push (fun _=>False) h0 _).block b hb (fun k=>k)
theorem uA {nv:Value}{now:List Nat}(hn:b6 h O nb v ss st) (_hss:ss.length<=1000000) (hnow:bF gj h (fun _=>False) nv now) (hlt:∀j∈now,j<ss.length) (hnn:now.length<=1000000) :
 af Tryz.prog 192 #[.pointer (some ⟨nb,0,none⟩),nv] h (bC fun r h'=>r= .int .i64 (bz ss now)/\h'=h):=by
 obtain⟨css,hc1,hc2,hc3⟩:=id hn.row;obtain⟨va,vc,rfl,_⟩:=hc2.open;obtain⟨na,nn,nc,rfl,hnl,hnc,hnm,hget⟩:=id hnow;generalize htgt:mQ ss now (-1)=tgt;refine af.of func192 rfl rfl ?_;refine aQ func192 1 [0,1,4] rfl ?_;refine aQ func192 1 [0,1,4,5] rfl ?_;refine ak rfl ?_;refine bg func192 1 rfl ?_;refine xo rfl (aj (vs:=[_]) func242 rfl H.FH rfl (af.aX (mD hn))) ?_;rintro _ h0 ⟨rfl,hh0⟩;refine xd [0,1,4,5,9] rfl ?_;subst hh0;refine aN rfl rfl (fun hz=>?_) (fun hz=>?_)
 · refine aQ func192 2 [0,1,4,5,9] rfl ?_;refine G.ret func192 rfl rfl ?_;rw[bz,if_pos hz];exact⟨_,rfl,rfl,rfl⟩
 · refine az rfl ?_;refine ak rfl ?_;refine bg func192 1 rfl ?_;refine xp rfl (ai.aI underlying101 rfl) ?_;refine aM 1 [0,1,4,5,9,11,12,13] rfl ?_;refine G.block rfl rfl ?_;refine bf (σ:=Nat×Int) (fun q=>[(0,.pointer (some ⟨nb,0,none⟩)),(5,.int .i64 q.2),(11,.slice na nn nc),(12,.int .i64 (nn:Nat)),(13,.int .i64 (q.1:Nat))]) (fun q h'=>h'=h0/\q.1<=nn/\mQ ss (now.drop q.1) q.2=tgt) (fun q=>nn-q.1) ((0,-1)) rfl ⟨rfl,rfl,rfl,rfl,rfl,trivial⟩ ⟨rfl,Nat.zero_le _,htgt⟩ ?_;rintro⟨i,b⟩ h1 ⟨rfl,hi,hcon⟩ ih
   try dsimp only
   dsimp only at hi hcon;refine aQ func192 1 [0,5,11,12,13,14] rfl ?_;refine ak rfl ?_;refine aN rfl rfl (fun hlti=>?_) (fun hlti=>?_)
   · obtain⟨j,hj⟩:∃j,now[i]? =some j:=⟨_,List.getElem?_eq_getElem (by omega)⟩
     obtain⟨bb,o,cs,ha,_,hrow,rfl⟩:=hget i j hj;have hjl:j<ss.length:=hlt j (List.mem_of_getElem? hj);obtain⟨y,hy⟩:∃y,ss[j]? =some y:=⟨_,List.getElem?_eq_getElem hjl⟩
     obtain⟨gs,cs,ws,hvs,hgs,hrw,hws⟩:=hn.get hy;cases hvs
     have hdr:now.drop i=j::now.drop (i+1):=by
      obtain⟨hi',rfl⟩:=List.getElem?_eq_some_iff.1 hj;exact List.drop_eq_getElem_cons hi'
     rw[hdr,mQ,hy] at hcon;simp only at hcon;refine az rfl ?_;refine ak rfl ?_;refine G.block rfl rfl ?_;refine xr func192 rfl ?_;refine xp rfl (ai.aA underlying101 H.bG rfl rfl i rfl ha (by omega)) ?_;refine xp rfl (ah H.bU rfl (hrow 0 _ rfl)) ?_;refine aM 1 [0,5,7,11,12,13,14] rfl ?_;refine ak rfl ?_;refine G.bH [(54,.bool (nS y b))] [(0,_),(5,_),(7,_),(11,_),(12,_),(13,_),(14,_)] ⟨rfl,rfl,rfl,rfl,rfl,rfl,rfl,trivial⟩ func192 rfl ?_ ?_
     · refine br 3 rfl ?_;refine RW.b7 (d:=19) (b':=true) rfl (decide_eq_true (by omega)) ?_;refine bO 3 rfl rfl (aa (off:=0) underlying287 rfl rfl H.fq rfl) ?_;refine xp rfl (ah H.gp rfl (hn.blk.cell (i:=0) rfl)) ?_;refine xp rfl (ai.aI underlying285 rfl) ?_;refine br 3 rfl ?_;refine RW.b7 (d:=28) (b':=true) rfl (decide_eq_true (by omega)) ?_;refine bO 2 rfl rfl (aa (off:=0) underlying287 rfl rfl H.fq rfl) ?_;refine xp rfl (ah H.gp rfl (hn.blk.cell (i:=0) rfl)) ?_;refine bO 1 rfl rfl (ai.aA underlying285 H.jT rfl rfl j rfl rfl hjl) ?_;refine xp rfl (aa (off:=0) underlying297 rfl rfl H.bG rfl) ?_;refine xp rfl (ah H.bU rfl (hrw 0 _ rfl)) ?_;refine br 3 rfl ?_;refine bI (d:=39) rfl (fun hk=>?_) (fun hk=>?_)
       · have hk':=of_decide_eq_true hk;refine br 3 rfl ?_;refine bI (d:=42) rfl (fun hb=>?_) (fun hb=>?_)
         · have hb':=of_decide_eq_true hb;refine br 12 rfl ?_;refine RW.done rfl ?_;exact⟨rfl,aK rfl (by simp[nS];omega),rfl,rfl,rfl,rfl,rfl,rfl,rfl,trivial⟩
         · have hb':=of_decide_eq_false hb;refine bO 2 rfl rfl (aa (off:=0) underlying287 rfl rfl H.fq rfl) ?_;refine xp rfl (ah H.gp rfl (hn.blk.cell (i:=0) rfl)) ?_;refine bO 1 rfl rfl (ai.aA underlying285 H.jT rfl rfl j rfl rfl hjl) ?_;refine xp rfl (aa (off:=6) underlying297 rfl rfl H.bG rfl) ?_;refine xp rfl (ah H.bU rfl (hrw 6 _ rfl)) ?_;refine br 4 rfl ?_;refine RW.done rfl ?_;exact⟨rfl,aK rfl (by simp only[nS,decide_eq_decide];omega),rfl,rfl,rfl,rfl,rfl,rfl,rfl,trivial⟩
       · have hk':=of_decide_eq_false hk;refine br 15 rfl ?_;refine RW.done rfl ?_;exact⟨rfl,aK rfl (by simp[nS];omega),rfl,rfl,rfl,rfl,rfl,rfl,rfl,trivial⟩
     · refine ay rfl rfl (fun hb=>?_) (fun hb=>?_)
       · rw[if_pos hb] at hcon;refine G.bB func192 rfl ?_;refine bO 2 rfl rfl (aa (off:=0) underlying287 rfl rfl H.fq rfl) ?_;refine xp rfl (ah H.gp rfl (hn.blk.cell (i:=0) rfl)) ?_;refine bO 1 rfl rfl (ai.aA underlying285 H.jT rfl rfl j rfl rfl hjl) ?_;refine xp rfl (aa (off:=6) underlying297 rfl rfl H.bG rfl) ?_;refine xp rfl (ah H.bU rfl (hrw 6 _ rfl)) ?_;refine aM 1 [0,5,7,11,12,13,14,54] rfl ?_;refine G.aJ ?_;refine G.bB func192 rfl ?_;refine xp rfl (ai.aT rfl rfl ⟨by omega,by omega⟩) ?_;refine aM 1 [0,5,7,11,12,13,14,54] rfl ?_;exact ih (i+1,(y.rule:Int)) _ _ ⟨rfl,rfl,rfl,rfl,rfl,trivial⟩ ⟨rfl,by show i+1<=nn;omega,hcon⟩ (by show nn-(i+1)<nn-i;omega)
       · rw[if_neg (by rw[hb];decide)] at hcon;refine az rfl ?_;refine G.aJ ?_;refine G.bB func192 rfl ?_;refine xp rfl (ai.aT rfl rfl ⟨by omega,by omega⟩) ?_;refine aM 1 [0,5,7,11,12,13,14,54] rfl ?_;exact ih (i+1,b) _ _ ⟨rfl,rfl,rfl,rfl,rfl,trivial⟩ ⟨rfl,by show i+1<=nn;omega,hcon⟩ (by show nn-(i+1)<nn-i;omega)
   · have hnil:now.drop i=[]:=List.drop_of_length_le (by omega);rw[hnil,mQ] at hcon;refine aW rfl rfl ?_;refine aQ func192 2 [0,4,5,11,12,13,14] rfl ?_;refine G.ret func192 rfl rfl ?_;rw[bz,if_neg hz,htgt];exact⟨_,rfl,by rw[hcon];rfl,rfl⟩
theorem Bi {nv:Value}{now:List Nat}(c:UInt8) (hn:b6 h O nb v ss st) (hgood:Good ss) (hss:ss.length<=1000000) (hnow:bF gj h (fun _=>False) nv now) (hlt:∀j∈now,j<ss.length) (hnn:now.length<=1000000)
 (hpot:(stepG ss c now []).length+o7 ss (List.replicate ss.length false)<=1000000) :
 af Tryz.prog 191 #[.pointer (some ⟨nb,0,none⟩),nv,.int .u8 (c.toNat:Nat)] h (bC fun r h'=>cj cT h' h.size 3 r (cz ss c now)/\av h h'):=by
 have hown:=hn.own;have hnlt:=hn.blk.lt;obtain⟨css,hc1,hc2,hc3⟩:=id hn.row;obtain⟨va,vc,rfl,_⟩:=hc2.open;obtain⟨na,nn,nc,rfl,hnl,hnc,hnm,hget⟩:=id hnow;generalize htgt:stepG ss c now []=tgt at *;refine af.of func191 rfl rfl ?_;refine aQ func191 1 [0,1,2,6] rfl ?_;refine ak rfl ?_;refine bg func191 1 rfl ?_;refine xo rfl (aj (vs:=[_]) func242 rfl H.FH rfl (af.aX (mD hn))) ?_;rintro _ h0 ⟨rfl,hh0⟩;refine xd [0,1,2,6,11] rfl ?_;subst hh0;refine aN rfl rfl (fun hz=>?_) (fun hz=>?_)
 · refine aQ func191 1 [0,1,2,6,11] rfl ?_;refine G.ret func191 rfl rfl ?_;rw[cz,if_pos hz];exact⟨_,rfl,cj.nil _ _ _ _,Ext.refl _ _⟩
 · refine az rfl ?_;refine aQ func191 1 [0,1,2,6,7,11] rfl ?_;refine ak rfl ?_;refine bg func191 1 rfl ?_;refine xp rfl (ai.aI underlying101 rfl) ?_;refine aM 1 [0,1,2,6,7,11,12,13,14] rfl ?_;refine G.block rfl rfl ?_;refine bf (σ:=Nat×Value×List Nat) (fun q=>[(0,.pointer (some ⟨nb,0,none⟩)),(2,.int .u8 (c.toNat:Nat)),(7,q.2.1),(12,.slice na nn nc),(13,.int .i64 (nn:Nat)),(14,.int .i64 (q.1:Nat))]) (fun q h'=>av h0 h'/\q.1<=nn/\cj cT h' h0.size 3 q.2.1 q.2.2/\(∀j∈q.2.2,j<ss.length)/\stepG ss c (now.drop q.1) q.2.2=tgt) (fun q=>nn-q.1) ((0,.slice none 0 0,[])) rfl ⟨rfl,rfl,rfl,rfl,rfl,rfl,trivial⟩ ⟨Ext.refl _ _,Nat.zero_le _,cj.nil _ _ _ _,(fun j hj=>by cases hj),htgt⟩ ?_;rintro⟨i,ov,acc⟩ h1 ⟨e1,hi,ho,hal,hcon⟩ ih
   try dsimp only
   dsimp only at hi ho hal hcon;have hz1:=e1.size;have hn1:b6 h1 O nb (.slice va ss.length vc) ss st:=hn.aq e1 (fun _ _ k=>k);have hacc:acc.length<=tgt.length:=by rw[<-hcon];exact n8 _ _ _ _
   refine aQ func191 1 [0,2,7,12,13,14,15] rfl ?_;refine ak rfl ?_;refine aN rfl rfl (fun hlti=>?_) (fun hlti=>?_)
   · obtain⟨j,hj⟩:∃j,now[i]? =some j:=⟨_,List.getElem?_eq_getElem (by omega)⟩
     obtain⟨bb,o,cs,ha,_,hrow,rfl⟩:=hget i j hj;have hjl:j<ss.length:=hlt j (List.mem_of_getElem? hj);obtain⟨y,hy⟩:∃y,ss[j]? =some y:=⟨_,List.getElem?_eq_getElem hjl⟩
     obtain⟨gs,cs,ws,hvs,hgs,hrw,hws⟩:=hn1.get hy;cases hvs
     have hdr:now.drop i=j::now.drop (i+1):=by
      obtain⟨hi',rfl⟩:=List.getElem?_eq_some_iff.1 hj;exact List.drop_eq_getElem_cons hi'
     rw[hdr,stepG,hy] at hcon;simp only at hcon;have hrow1:Lw.rowAt h1 bb (o+i*1) [cT j]:=e1.rowAt (fun k=>k) hrow
     have hset:Lw.rowAt h1 gs (0+j*7+1) (sS y.set):=fun q u hu=>by
      have hq:(DH y.kind y.set ws y.rule)[1+q]? =some u:=by
       match q with
       | 0=>exact hu
       | 1=>exact hu
       | 2=>exact hu
       | 3=>exact hu
       |q+4=>simp[sS] at hu
      have:=hrw (1+q) u hq
      rwa [<-Nat.add_assoc] at this
     refine az rfl ?_;refine ak rfl ?_;refine G.block rfl rfl ?_;refine xr func191 rfl ?_;refine xp rfl (ai.aA underlying101 H.bG rfl rfl i rfl ha (by omega)) ?_;refine xp rfl (ah H.bU rfl (hrow1 0 _ rfl)) ?_;refine aM 1 [0,2,7,9,12,13,14,15] rfl ?_;refine ak rfl ?_;refine G.rC (fun(_u:Unit) (h':au)=>av h1 h') (fun(_u:Unit)=>[(51,.bool (gY y c))]) [(0,_),(2,_),(7,_),(9,_),(12,_),(13,_),(14,_),(15,_)] ⟨rfl,rfl,rfl,rfl,rfl,rfl,rfl,rfl,trivial⟩ func191 rfl ?_ ?_
     · refine br 3 rfl ?_;refine RW.b7 (d:=20) (b':=true) rfl (decide_eq_true (by omega)) ?_;refine bO 3 rfl rfl (aa (off:=0) underlying287 rfl rfl H.fq rfl) ?_;refine xp rfl (ah H.gp rfl (hn1.blk.cell (i:=0) rfl)) ?_;refine xp rfl (ai.aI underlying285 rfl) ?_;refine br 3 rfl ?_;refine RW.b7 (d:=29) (b':=true) rfl (decide_eq_true (by omega)) ?_;refine bO 2 rfl rfl (aa (off:=0) underlying287 rfl rfl H.fq rfl) ?_;refine xp rfl (ah H.gp rfl (hn1.blk.cell (i:=0) rfl)) ?_;refine bO 1 rfl rfl (ai.aA underlying285 H.jT rfl rfl j rfl rfl hjl) ?_;refine xp rfl (aa (off:=0) underlying297 rfl rfl H.bG rfl) ?_;refine xp rfl (ah H.bU rfl (hrw 0 _ rfl)) ?_;refine br 3 rfl ?_;refine bI (d:=40) rfl (fun hk=>?_) (fun hk=>?_)
       · have hk':=of_decide_eq_true hk;have hk2:y.kind=1:=by omega
         refine bO 2 rfl rfl (aa (off:=0) underlying287 rfl rfl H.fq rfl) ?_;refine xp rfl (ah H.gp rfl (hn1.blk.cell (i:=0) rfl)) ?_;refine bO 1 rfl rfl (ai.aA underlying285 H.jT rfl rfl j rfl rfl hjl) ?_;refine xp rfl (aa (off:=1) underlying297 rfl rfl H.jU rfl) ?_;refine xp rfl (ai.aD H.Ka H.jU rfl hset (by first|rfl|(simp;done)|(simp;omega))) ?_;refine br 1 rfl ?_;refine xo rfl (aj (vs:=[_,_]) func244 rfl H.L6 rfl (af.aX (Ea y.set c))) ?_;rintro _ h2 ⟨rfl,e2⟩;refine br 1 rfl ?_;refine RW.done rfl ?_;exact⟨(),e2,aK rfl (by simp[gY,hk2]),rfl,rfl,rfl,rfl,rfl,rfl,rfl,rfl,trivial⟩
       · have hk':=of_decide_eq_false hk;have hk2:¬y.kind=1:=by omega
         refine br 11 rfl ?_;refine RW.done rfl ?_;exact⟨(),Ext.refl _ _,aK rfl (by simp[gY,hk2]),rfl,rfl,rfl,rfl,rfl,rfl,rfl,rfl,trivial⟩
     · rintro _ h2 e2;have e02:=e1.trans e2;have ho2:cj cT h2 h0.size 3 ov acc:=cj.aq ho e2;have hn2:b6 h2 O nb _ ss st:=hn.aq e02 (fun _ _ k=>k);have hz2:=e02.size;refine ay rfl rfl (fun hb=>?_) (fun hb=>?_)
       · rw[if_pos hb] at hcon;have hacc2:(acc++y.to).length<=tgt.length:=by rw[<-hcon];exact n8 _ _ _ _
         rw[List.length_append] at hacc2;obtain⟨gs,cs,ws,hvs,hgs,hrw2,hws2⟩:=hn2.get hy;cases hvs;obtain⟨wa,wn,wc,rfl,_⟩:=id hws2;obtain⟨hwl,hwn,hwm⟩:=AV hws2;refine G.bB func191 rfl ?_;refine bO 3 rfl rfl (aa (off:=0) underlying287 rfl rfl H.fq rfl) ?_;refine xp rfl (ah H.gp rfl (hn2.blk.cell (i:=0) rfl)) ?_;refine bO 1 rfl rfl (ai.aA underlying285 H.jT rfl rfl j rfl rfl hjl) ?_;refine xp rfl (aa (off:=5) underlying297 rfl rfl H.eC rfl) ?_;refine xp rfl (ah H.iL rfl (hrw2 5 _ rfl)) ?_;refine xo rfl (ax.append underlying101 H.lR rfl rfl ho2 (by simp[hwl]) hwn (by intro u hu;simp at hu;obtain⟨j,_,rfl⟩:=hu;rfl) (by simp only[maxLen];omega) (by omega) (by omega)) ?_;rintro ov3 h3 ⟨ho3,hx3,-,hv3⟩;refine aM 1 [0,2,7,9,12,13,14,15,51] rfl ?_;refine G.aJ ?_;refine G.bB func191 rfl ?_;refine xp rfl (ai.aT rfl rfl ⟨by omega,by omega⟩) ?_;refine aM 1 [0,2,7,9,12,13,14,15,51] rfl ?_
         have ho3':cj cT h3 h0.size 3 ov3 (acc++y.to):=by
          unfold cj;rw[List.length_append,hwl,List.map_append];exact ho3
         have e3:av h0 h3:=cj.grown e02 ho2 (Nat.le_refl _) hx3
         have hal3:∀j∈acc++y.to,j<ss.length:=fun j hj=>by
          rcases List.mem_append.1 hj with k|k
          · exact hal j k
          · exact hgood y (List.mem_of_getElem? hy) j k
         exact ih (i+1,ov3,acc++y.to) _ _ ⟨rfl,rfl,rfl,rfl,rfl,rfl,trivial⟩ ⟨e3,by show i+1<=nn;omega,ho3',hal3,hcon⟩ (by show nn-(i+1)<nn-i;omega)
       · rw[if_neg (by rw[hb];decide)] at hcon;refine az rfl ?_;refine G.aJ ?_;refine G.bB func191 rfl ?_;refine xp rfl (ai.aT rfl rfl ⟨by omega,by omega⟩) ?_;refine aM 1 [0,2,7,9,12,13,14,15,51] rfl ?_;exact ih (i+1,ov,acc) _ _ ⟨rfl,rfl,rfl,rfl,rfl,rfl,trivial⟩ ⟨e02,by show i+1<=nn;omega,ho2,hal,hcon⟩ (by show nn-(i+1)<nn-i;omega)
   · have hnil:now.drop i=[]:=List.drop_of_length_le (by omega);rw[hnil,stepG] at hcon;subst hcon;have hol:∀b,ov.ownBlock=some b->h0.size<=b/\b<h1.size:=fun b hb=>aC.lt ho hb
     have hn':b6 h1 (fun b=>O b\/cC ov.ownBlock b) nb (.slice va ss.length vc) ss st:=hn.aq e1 (fun b hb k=>k.elim id (fun k=>by have:=(hol b k.symm).1;omega));refine aW rfl rfl ?_;refine bg func191 2 rfl ?_;refine xo rfl (aj (vs:=[_,_]) func243 rfl H.Jp rfl (af.aX (nN (tb:=ov.ownBlock) hn' hgood hss ho rfl (by omega) (fun b hb=>⟨.inr hb.symm,by have:=hol b hb;omega,fun k=>by have:=hol b hb;have:=(hown b k).2;omega⟩) hal hpot))) ?_;rintro _ h2 ⟨ho2,hx2⟩;refine aM 1 [0,2,6,7,12,13,14,15] rfl ?_;refine G.ret func191 rfl rfl ?_;rw[cz,if_neg hz,htgt];refine⟨_,rfl,aC.lower ho2 (by omega),⟨by have:=hx2.size;omega,fun b hb _=>?_⟩⟩;rw[hx2.block b (by omega) (fun k=>by have:=hol b k.symm;omega)];exact e1.block b hb (fun k=>k)
theorem tL {α:Type}{e:fF α}{Q Q':Nat->Prop}{xs:List α}(k:bF e h Q v xs) (hq:∀b,Q' b->Q b):bF e h Q' v xs:=k.mv ⟨Nat.le_refl _,fun b _ hn=>⟨rfl,fun k=>hn (hq b k)⟩⟩
def K5 (h:au) (p:Value) (rules:List By):Prop:=∃(O:Nat->Prop) (nb:Nat) (v:Value) (ss:List bM) (st:Nat),p= .pointer (some ⟨nb,0,none⟩)/\b6 h O nb v ss st/\dV rules= .inr (ss,st)
def JC (rules:List By):Int:=match dV rules with|.inl e=>e|.inr _=>0
theorem D0 {lim:Nat}(hg:Sg h lim) (hlim:lim<=h.size){rv:Value}(hr:bF Iv h (fun _=>False) rv rules) (hrl:∀s∈rules,s.length<=1000000) :
 af Tryz.prog 119 #[rv] h (bC fun r h'=>(∃p,r= .tuple #[p,.int .i64 (JC rules)]/\((∃e,dV rules= .inl e/\p= .pointer none)\/K5 h' p rules))/\av h h') :=
 (BJ hg hlim hr hrl).ret fun r h' k=>by
  obtain⟨k1,k2⟩:=k;refine⟨?_,k2⟩;unfold vH at k1;unfold JC;cases hm:dV rules with
  |inl e=>rw[hm] at k1;exact⟨_,k1,.inl ⟨e,rfl,rfl⟩⟩
  |inr q =>
   obtain⟨ss,st⟩:=q;rw[hm] at k1;obtain⟨nb,v,h1,_,h3⟩:=k1;exact⟨_,h1,.inr ⟨_,nb,v,ss,st,rfl,h3,hm⟩⟩
theorem zA (k:Made rules ss st):ss.length<=1000000/\1+o7 ss (List.replicate ss.length false)<=1000000/\∀c now,List.Sublist now (List.range ss.length)->(stepG ss c now []).length+o7 ss (List.replicate ss.length false)<=1000000:=by
 have h1:=k.len;have h2:=k.tot;have h3:=Fy ss (List.replicate ss.length false);refine⟨by omega,by omega,fun c now hs=>?_⟩;have:=DG c hs;omega
end
end Go.Proofs.YtdihgdeciopfpaaGreatDoor
