/- What the proof of the statement leans on (part 19). -/
import Derived.Test.YtpjgdgdnbkjoiaaGreatDoorRows
import Derived.Test.YtpjgdgdnbkjoiaaGreatDoorQr

namespace Go.Proofs.YtpjgdgdnbkjoiaaGreatDoor.H
open Go Go.Lw
theorem OQ:aU Tryz.prog 103=some false:=by kernel_rfl
theorem JR:aU Tryz.prog 128=some true:=by kernel_rfl
theorem OP:aU Tryz.prog 143=some false:=by kernel_rfl
theorem OO:aU Tryz.prog 146=some false:=by kernel_rfl
theorem ON:aU Tryz.prog 147=some true:=by kernel_rfl
theorem L3:aU Tryz.prog 148=some false:=by kernel_rfl
theorem zU:aU Tryz.prog 150=some true:=by kernel_rfl
theorem OM:aU Tryz.prog 156=some true:=by kernel_rfl
theorem OL:aU Tryz.prog 160=some false:=by kernel_rfl
theorem L2:aU Tryz.prog 162=some true:=by kernel_rfl
theorem OK:aU Tryz.prog 165=some false:=by kernel_rfl
theorem OJ:aU Tryz.prog 171=some true:=by kernel_rfl
theorem JQ:aU Tryz.prog 21=some false:=by kernel_rfl
theorem OI:aU Tryz.prog 215=some false:=by kernel_rfl
theorem OH:aU Tryz.prog 216=some false:=by kernel_rfl
theorem Da:aU Tryz.prog 22=some false:=by kernel_rfl
theorem OG:aU Tryz.prog 272=some false:=by kernel_rfl
theorem Br:aU Tryz.prog 28=some true:=by kernel_rfl
theorem OF:aU Tryz.prog 29=some false:=by kernel_rfl
theorem gS:aU Tryz.prog 3=some false:=by kernel_rfl
theorem iZ:aU Tryz.prog 31=some true:=by kernel_rfl
theorem Bq:aU Tryz.prog 35=some true:=by kernel_rfl
theorem Qa:aU Tryz.prog 37=some true:=by kernel_rfl
theorem Qr:aU Tryz.prog 4=some false:=by kernel_rfl
theorem yN:aU Tryz.prog 41=some false:=by kernel_rfl
theorem xX:aU Tryz.prog 44=some true:=by kernel_rfl
theorem JP:aU Tryz.prog 49=some false:=by kernel_rfl
theorem M4:aU Tryz.prog 50=some false:=by kernel_rfl
theorem JO:aU Tryz.prog 51=some false:=by kernel_rfl
theorem JN:aU Tryz.prog 53=some true:=by kernel_rfl
theorem M3:aU Tryz.prog 60=some false:=by kernel_rfl
theorem OE:aU Tryz.prog 65=some false:=by kernel_rfl
theorem P9:aU Tryz.prog 78=some false:=by kernel_rfl
theorem JM:aU Tryz.prog 85=some true:=by kernel_rfl
theorem xW:aU Tryz.prog 86=some false:=by kernel_rfl
theorem ve:aU Tryz.prog 9=some false:=by kernel_rfl
theorem P8:aU Tryz.prog 90=some true:=by kernel_rfl
theorem P7:aU Tryz.prog 91=some false:=by kernel_rfl
theorem KZ:aU Tryz.prog 92=some false:=by kernel_rfl
theorem P6:aU Tryz.prog 96=some false:=by kernel_rfl
theorem OD:aU Tryz.prog 99=some false:=by kernel_rfl
theorem M1  : Tryz.prog.built 128 []=some #[.int .i64 (0),.int .i64 (0),.int .i64 (0)]:=by kernel_rfl
theorem oG (a0:Int) (a1:Int) (a2:Int):Tryz.prog.built 128 [(0,.int .i64 a0),(1,.int .i64 a1),(2,.int .i64 a2)]=some #[.int .i64 a0,.int .i64 a1,.int .i64 a2]:=by kernel_rfl
theorem FJ (a0:ByteArray):Tryz.prog.built 131 [(0,.string a0)]=some #[.string a0,.slice none 0 0]:=by kernel_rfl
theorem Ho (a0:Bool) (a1:Option Addr) (n1 c1:Nat):Tryz.prog.built 137 [(0,.bool a0),(1,.slice a1 n1 c1)]=some #[.bool a0,.slice a1 n1 c1,.int .i64 (0)]:=by kernel_rfl
theorem M0  : Tryz.prog.built 145 []=some #[.slice none 0 0,.int .i64 (0)]:=by kernel_rfl
theorem EI  : Tryz.prog.built 150 []=some #[.int .i64 (0),.int .u64 (0),.int .u64 (0),.int .u64 (0),.int .u64 (0),.slice none 0 0]:=by kernel_rfl
theorem tE (a0:Int) (a2:Option Addr) (n2 c2:Nat):Tryz.prog.built 150 [(0,.int .i64 a0),(2,.slice a2 n2 c2)]=some #[.int .i64 a0,.int .u64 (0),.int .u64 (0),.int .u64 (0),.int .u64 (0),.slice a2 n2 c2]:=by kernel_rfl
theorem FI (a0:Int):Tryz.prog.built 150 [(0,.int .i64 a0)]=some #[.int .i64 a0,.int .u64 (0),.int .u64 (0),.int .u64 (0),.int .u64 (0),.slice none 0 0]:=by kernel_rfl
theorem JJ  : Tryz.prog.built 156 []=some #[.int .i64 (0),.int .u64 (0),.int .u64 (0),.int .u64 (0),.int .u64 (0),.slice none 0 0,.int .i64 (0)]:=by kernel_rfl
theorem C4 (a0:Int) (a1_0 a1_1 a1_2 a1_3:Value) (a2:Option Addr) (n2 c2:Nat):Tryz.prog.built 156 [(0,.int .i64 a0),(1,.agg #[a1_0,a1_1,a1_2,a1_3]),(2,.slice a2 n2 c2)]=some #[.int .i64 a0,a1_0,a1_1,a1_2,a1_3,.slice a2 n2 c2,.int .i64 (0)]:=by kernel_rfl
theorem Hl (a0:Int) (a3:Int):Tryz.prog.built 156 [(0,.int .i64 a0),(3,.int .i64 a3)]=some #[.int .i64 a0,.int .u64 (0),.int .u64 (0),.int .u64 (0),.int .u64 (0),.slice none 0 0,.int .i64 a3]:=by kernel_rfl
theorem Bo (a2:Option Addr) (n2 c2:Nat):Tryz.prog.built 156 [(2,.slice a2 n2 c2)]=some #[.int .i64 (0),.int .u64 (0),.int .u64 (0),.int .u64 (0),.int .u64 (0),.slice a2 n2 c2,.int .i64 (0)]:=by kernel_rfl
theorem MZ  : Tryz.prog.built 162 []=some #[.string ⟨#[]⟩,.int .i64 (0),.int .i64 (0)]:=by kernel_rfl
theorem JI  : Tryz.prog.built 167 []=some #[.slice none 0 0,.slice none 0 0]:=by kernel_rfl
theorem iE  : Tryz.prog.built 205 []=some #[]:=by kernel_rfl
theorem KX (a0:ByteArray):Tryz.prog.built 208 [(0,.string a0)]=some #[.string a0]:=by kernel_rfl
theorem EH (a0:Int) (a1:Int) (a2:Int):Tryz.prog.built 28 [(0,.int .i64 a0),(1,.int .i64 a1),(2,.int .i64 a2)]=some #[.int .i64 a0,.int .i64 a1,.int .i64 a2,.string ⟨#[]⟩,.bool false]:=by kernel_rfl
theorem EG (a0:Int) (a2:Int) (a3:ByteArray):Tryz.prog.built 28 [(0,.int .i64 a0),(2,.int .i64 a2),(3,.string a3)]=some #[.int .i64 a0,.int .i64 (0),.int .i64 a2,.string a3,.bool false]:=by kernel_rfl
theorem OB  : Tryz.prog.built 31 []=some #[.string ⟨#[]⟩,.int .i64 (0),.int .i64 (0),.int .i64 (0),.slice none 0 0,.slice none 0 0,.int .i64 (0),.string ⟨#[]⟩,.int .i64 (0),.int .i64 (0),.int .i64 (0),.string ⟨#[]⟩,.int .i64 (0),.string ⟨#[]⟩,.int .i64 (0),.int .i64 (0),.slice none 0 0,.slice none 0 0,.int .i64 (0)]:=by kernel_rfl
theorem MY (a3:Int):Tryz.prog.built 31 [(3,.int .i64 a3)]=some #[.string ⟨#[]⟩,.int .i64 (0),.int .i64 (0),.int .i64 a3,.slice none 0 0,.slice none 0 0,.int .i64 (0),.string ⟨#[]⟩,.int .i64 (0),.int .i64 (0),.int .i64 (0),.string ⟨#[]⟩,.int .i64 (0),.string ⟨#[]⟩,.int .i64 (0),.int .i64 (0),.slice none 0 0,.slice none 0 0,.int .i64 (0)]:=by kernel_rfl
theorem C3 (a0:Int) (a1:Int):Tryz.prog.built 35 [(0,.int .i64 a0),(1,.int .i32 a1)]=some #[.int .i64 a0,.int .i32 a1,.string ⟨#[]⟩]:=by kernel_rfl
theorem MX (a0:Int):Tryz.prog.built 35 [(0,.int .i64 a0)]=some #[.int .i64 a0,.int .i32 (0),.string ⟨#[]⟩]:=by kernel_rfl
theorem JH  : Tryz.prog.built 44 []=some #[.int .i64 (0),.int .i64 (0)]:=by kernel_rfl
theorem JG (a0:Int) (a1:Int):Tryz.prog.built 44 [(0,.int .i64 a0),(1,.int .i64 a1)]=some #[.int .i64 a0,.int .i64 a1]:=by kernel_rfl
theorem MW (a0:Int):Tryz.prog.built 44 [(0,.int .i64 a0)]=some #[.int .i64 a0,.int .i64 (0)]:=by kernel_rfl
theorem FH  : Tryz.prog.built 53 []=some #[.int .i64 (0),.bool false]:=by kernel_rfl
theorem OA  : Tryz.prog.built 57 []=some #[.string ⟨#[]⟩,.int .i64 (0),.int .i64 (0),.int .i64 (0),.slice none 0 0,.slice none 0 0,.int .i64 (0),.string ⟨#[]⟩,.int .i64 (0),.int .i64 (0),.int .i64 (0),.string ⟨#[]⟩,.int .i64 (0),.string ⟨#[]⟩,.int .i64 (0),.int .i64 (0),.slice none 0 0,.slice none 0 0,.int .i64 (0),.pointer none,.pointer none,.pointer none,.int .i64 (0),.bool false,.int .i64 (0),.int .i32 (0)]:=by kernel_rfl
theorem Bn (a0_0 a0_1 a0_2 a0_3 a0_4 a0_5 a0_6 a0_7 a0_8 a0_9 a0_10 a0_11 a0_12 a0_13 a0_14 a0_15 a0_16 a0_17 a0_18:Value) (a1:Option Addr) (a2:Option Addr) (a3:Option Addr):Tryz.prog.built 57 [(0,.agg #[a0_0,a0_1,a0_2,a0_3,a0_4,a0_5,a0_6,a0_7,a0_8,a0_9,a0_10,a0_11,a0_12,a0_13,a0_14,a0_15,a0_16,a0_17,a0_18]),(1,.pointer a1),(2,.pointer a2),(3,.pointer a3)]=some #[a0_0,a0_1,a0_2,a0_3,a0_4,a0_5,a0_6,a0_7,a0_8,a0_9,a0_10,a0_11,a0_12,a0_13,a0_14,a0_15,a0_16,a0_17,a0_18,.pointer a1,.pointer a2,.pointer a3,.int .i64 (0),.bool false,.int .i64 (0),.int .i32 (0)]:=by kernel_rfl
theorem xN (a0:Option Addr) (a1:Int):Tryz.prog.built 85 [(0,.pointer a0),(1,.int .i64 a1)]=some #[.pointer a0,.int .i64 a1]:=by kernel_rfl
theorem MV (a0_0 a0_1:Value):Tryz.prog.built 88 [(0,.agg #[a0_0,a0_1])]=some #[a0_0,a0_1,.slice none 0 0,.slice none 0 0,.int .i64 (0)]:=by kernel_rfl
theorem L0  : Tryz.prog.built 90 []=some #[.int .i64 (0),.int .i64 (0),.int .i64 (0)]:=by kernel_rfl
theorem JF (a0:Int) (a1_0 a1_1:Value):Tryz.prog.built 90 [(0,.int .i64 a0),(1,.agg #[a1_0,a1_1])]=some #[.int .i64 a0,a1_0,a1_1]:=by kernel_rfl
theorem JE (a0:Option Addr) (a5:Option Addr) (n5 c5:Nat):Tryz.prog.built 94 [(0,.pointer a0),(5,.slice a5 n5 c5)]=some #[.pointer a0,.string ⟨#[]⟩,.slice none 0 0,.slice none 0 0,.int .i64 (0),.int .i64 (0),.slice a5 n5 c5,.int .i64 (0)]:=by kernel_rfl
theorem Oz  : Tryz.prog.built 98 []=some #[.slice none 0 0]:=by kernel_rfl
theorem LN:Tryz.prog.concrete 205=true:=by kernel_rfl
set_option maxRecDepth 100000 in
theorem On:dW Tryz.prog 103 1 8:=⟨⟨_,_,rfl,rfl,rfl,rfl,rfl⟩,by decide⟩
set_option maxRecDepth 100000 in
theorem lG:dW Tryz.prog 128 3 24:=⟨⟨_,_,rfl,rfl,rfl,rfl,rfl⟩,by decide⟩
set_option maxRecDepth 100000 in
theorem Jq:dW Tryz.prog 150 6 64:=⟨⟨_,_,rfl,rfl,rfl,rfl,rfl⟩,by decide⟩
set_option maxRecDepth 100000 in
theorem LL:dW Tryz.prog 156 7 72:=⟨⟨_,_,rfl,rfl,rfl,rfl,rfl⟩,by decide⟩
set_option maxRecDepth 100000 in
theorem FA:dW Tryz.prog 171 256 2048:=⟨⟨_,_,rfl,rfl,rfl,rfl,rfl⟩,by decide⟩
set_option maxRecDepth 100000 in
theorem Om:dW Tryz.prog 28 5 48:=⟨⟨_,_,rfl,rfl,rfl,rfl,rfl⟩,by decide⟩
set_option maxRecDepth 100000 in
theorem Ol:dW Tryz.prog 3 1 8:=⟨⟨_,_,rfl,rfl,rfl,rfl,rfl⟩,by decide⟩
set_option maxRecDepth 100000 in
theorem P0:dW Tryz.prog 37 9 88:=⟨⟨_,_,rfl,rfl,rfl,rfl,rfl⟩,by decide⟩
set_option maxRecDepth 100000 in
theorem No:dW Tryz.prog 4 1 1:=⟨⟨_,_,rfl,rfl,rfl,rfl,rfl⟩,by decide⟩
set_option maxRecDepth 100000 in
theorem sj:dW Tryz.prog 44 2 16:=⟨⟨_,_,rfl,rfl,rfl,rfl,rfl⟩,by decide⟩
set_option maxRecDepth 100000 in
theorem QW:dW Tryz.prog 5 1 1:=⟨⟨_,_,rfl,rfl,rfl,rfl,rfl⟩,by decide⟩
set_option maxRecDepth 100000 in
theorem PZ:dW Tryz.prog 78 1 24:=⟨⟨_,_,rfl,rfl,rfl,rfl,rfl⟩,by decide⟩
set_option maxRecDepth 100000 in
theorem G4:dW Tryz.prog 85 2 16:=⟨⟨_,_,rfl,rfl,rfl,rfl,rfl⟩,by decide⟩
set_option maxRecDepth 100000 in
theorem xw:dW Tryz.prog 9 1 16:=⟨⟨_,_,rfl,rfl,rfl,rfl,rfl⟩,by decide⟩
set_option maxRecDepth 100000 in
theorem MN:dW Tryz.prog 90 3 24:=⟨⟨_,_,rfl,rfl,rfl,rfl,rfl⟩,by decide⟩
theorem mixed:Tryz.prog.follows .mixedOrders=true:=by kernel_rfl
theorem IM:(Tryz.f10.name == "runtime.NumGoroutine")=false:=by decide +kernel
theorem Oa:(Tryz.f105.name == "runtime.NumGoroutine")=false:=by decide +kernel
theorem N9:(Tryz.f11.name == "runtime.NumGoroutine")=false:=by decide +kernel
theorem N8:(Tryz.f113.name == "runtime.NumGoroutine")=false:=by decide +kernel
theorem PU:(Tryz.f12.name == "runtime.NumGoroutine")=false:=by decide +kernel
theorem N7:(Tryz.f129.name == "runtime.NumGoroutine")=false:=by decide +kernel
theorem PT:(Tryz.f13.name == "runtime.NumGoroutine")=false:=by decide +kernel
theorem LD:(Tryz.f139.name == "runtime.NumGoroutine")=false:=by decide +kernel
theorem PS:(Tryz.f14.name == "runtime.NumGoroutine")=false:=by decide +kernel
theorem Kx:(Tryz.f15.name == "runtime.NumGoroutine")=false:=by decide +kernel
theorem N6:(Tryz.f155.name == "runtime.NumGoroutine")=false:=by decide +kernel
theorem N5:(Tryz.f156.name == "runtime.NumGoroutine")=false:=by decide +kernel
theorem PO:(Tryz.f16.name == "runtime.NumGoroutine")=false:=by decide +kernel
theorem PN:(Tryz.f17.name == "runtime.NumGoroutine")=false:=by decide +kernel
theorem PM:(Tryz.f18.name == "runtime.NumGoroutine")=false:=by decide +kernel
theorem PL:(Tryz.f19.name == "runtime.NumGoroutine")=false:=by decide +kernel
theorem uL:(Tryz.f20.name == "runtime.NumGoroutine")=false:=by decide +kernel
theorem PK:(Tryz.f21.name == "runtime.NumGoroutine")=false:=by decide +kernel
theorem N4:(Tryz.f22.name == "runtime.NumGoroutine")=false:=by decide +kernel
theorem PJ:(Tryz.f23.name == "runtime.NumGoroutine")=false:=by decide +kernel
theorem Mx:(Tryz.f24.name == "runtime.NumGoroutine")=false:=by decide +kernel
theorem PI:(Tryz.f25.name == "runtime.NumGoroutine")=false:=by decide +kernel
theorem PG:(Tryz.f27.name == "runtime.NumGoroutine")=false:=by decide +kernel
theorem PF:(Tryz.f29.name == "runtime.NumGoroutine")=false:=by decide +kernel
theorem N3:(Tryz.f35.name == "runtime.NumGoroutine")=false:=by decide +kernel
theorem N2:(Tryz.f36.name == "runtime.NumGoroutine")=false:=by decide +kernel
theorem PE:(Tryz.f41.name == "runtime.NumGoroutine")=false:=by decide +kernel
theorem Kw:(Tryz.f42.name == "runtime.NumGoroutine")=false:=by decide +kernel
theorem PD:(Tryz.f44.name == "runtime.NumGoroutine")=false:=by decide +kernel
theorem PC:(Tryz.f48.name == "runtime.NumGoroutine")=false:=by decide +kernel
theorem PB:(Tryz.f49.name == "runtime.NumGoroutine")=false:=by decide +kernel
theorem Qn:(Tryz.f5.name == "runtime.NumGoroutine")=false:=by decide +kernel
theorem PA:(Tryz.f50.name == "runtime.NumGoroutine")=false:=by decide +kernel
theorem Mw:(Tryz.f51.name == "runtime.NumGoroutine")=false:=by decide +kernel
theorem Pz:(Tryz.f52.name == "runtime.NumGoroutine")=false:=by decide +kernel
theorem Mu:(Tryz.f53.name == "runtime.NumGoroutine")=false:=by decide +kernel
theorem Mt:(Tryz.f54.name == "runtime.NumGoroutine")=false:=by decide +kernel
theorem Py:(Tryz.f55.name == "runtime.NumGoroutine")=false:=by decide +kernel
theorem Px:(Tryz.f56.name == "runtime.NumGoroutine")=false:=by decide +kernel
theorem QN:(Tryz.f6.name == "runtime.NumGoroutine")=false:=by decide +kernel
theorem Pw:(Tryz.f65.name == "runtime.NumGoroutine")=false:=by decide +kernel
theorem Pv:(Tryz.f66.name == "runtime.NumGoroutine")=false:=by decide +kernel
theorem Pu:(Tryz.f69.name == "runtime.NumGoroutine")=false:=by decide +kernel
theorem Qm:(Tryz.f7.name == "runtime.NumGoroutine")=false:=by decide +kernel
theorem Pr:(Tryz.f70.name == "runtime.NumGoroutine")=false:=by decide +kernel
theorem Pq:(Tryz.f71.name == "runtime.NumGoroutine")=false:=by decide +kernel
theorem IL:(Tryz.f72.name == "runtime.NumGoroutine")=false:=by decide +kernel
theorem Pp:(Tryz.f73.name == "runtime.NumGoroutine")=false:=by decide +kernel
theorem Po:(Tryz.f75.name == "runtime.NumGoroutine")=false:=by decide +kernel
theorem Nj:(Tryz.f8.name == "runtime.NumGoroutine")=false:=by decide +kernel
theorem Pn:(Tryz.f85.name == "runtime.NumGoroutine")=false:=by decide +kernel
theorem Pm:(Tryz.f86.name == "runtime.NumGoroutine")=false:=by decide +kernel
theorem N1:(Tryz.f87.name == "runtime.NumGoroutine")=false:=by decide +kernel
theorem QM:(Tryz.f9.name == "runtime.NumGoroutine")=false:=by decide +kernel
theorem Pk:(Tryz.f93.name == "runtime.NumGoroutine")=false:=by decide +kernel
theorem Pj:(Tryz.f94.name == "runtime.NumGoroutine")=false:=by decide +kernel
theorem Ph:(Tryz.f95.name == "runtime.NumGoroutine")=false:=by decide +kernel
theorem NL:cq Tryz.prog 103=some 1:=by kernel_rfl
theorem jW:cq Tryz.prog 128=some 3:=by kernel_rfl
theorem Lu:cq Tryz.prog 143=some 1:=by kernel_rfl
theorem NK:cq Tryz.prog 146=some 1:=by kernel_rfl
theorem H9:cq Tryz.prog 147=some 4:=by kernel_rfl
theorem NJ:cq Tryz.prog 148=some 1:=by kernel_rfl
theorem nE:cq Tryz.prog 150=some 6:=by kernel_rfl
theorem NI:cq Tryz.prog 156=some 7:=by kernel_rfl
theorem NH:cq Tryz.prog 160=some 1:=by kernel_rfl
theorem H8:cq Tryz.prog 162=some 3:=by kernel_rfl
theorem Lt:cq Tryz.prog 165=some 1:=by kernel_rfl
theorem NG:cq Tryz.prog 171=some 256:=by kernel_rfl
theorem H7:cq Tryz.prog 21=some 1:=by kernel_rfl
theorem Ls:cq Tryz.prog 215=some 1:=by kernel_rfl
theorem Lr:cq Tryz.prog 216=some 1:=by kernel_rfl
theorem nD:cq Tryz.prog 22=some 1:=by kernel_rfl
theorem sS:cq Tryz.prog 28=some 5:=by kernel_rfl
theorem H6:cq Tryz.prog 29=some 1:=by kernel_rfl
theorem ck:cq Tryz.prog 3=some 1:=by kernel_rfl
theorem cn:cq Tryz.prog 31=some 19:=by kernel_rfl
theorem rz:cq Tryz.prog 35=some 3:=by kernel_rfl
theorem Mg:cq Tryz.prog 37=some 9:=by kernel_rfl
theorem Ko:cq Tryz.prog 4=some 1:=by kernel_rfl
theorem uI:cq Tryz.prog 41=some 1:=by kernel_rfl
theorem ia:cq Tryz.prog 44=some 2:=by kernel_rfl
theorem vw:cq Tryz.prog 49=some 1:=by kernel_rfl
theorem QL:cq Tryz.prog 5=some 1:=by kernel_rfl
theorem Mf:cq Tryz.prog 50=some 1:=by kernel_rfl
theorem Kn:cq Tryz.prog 51=some 1:=by kernel_rfl
theorem uH:cq Tryz.prog 53=some 2:=by kernel_rfl
theorem Me:cq Tryz.prog 60=some 1:=by kernel_rfl
theorem NF:cq Tryz.prog 65=some 1:=by kernel_rfl
theorem F6:cq Tryz.prog 78=some 1:=by kernel_rfl
theorem iM:cq Tryz.prog 85=some 2:=by kernel_rfl
theorem lW:cq Tryz.prog 86=some 1:=by kernel_rfl
theorem lS:cq Tryz.prog 9=some 1:=by kernel_rfl
theorem ND:cq Tryz.prog 90=some 3:=by kernel_rfl
theorem NC:cq Tryz.prog 91=some 1:=by kernel_rfl
theorem F5:cq Tryz.prog 92=some 1:=by kernel_rfl
theorem NB:cq Tryz.prog 96=some 1:=by kernel_rfl
theorem vh:(Tryz.prog.info? 128).bind (·.zero)=some (.agg #[.int .i64 (0),.int .i64 (0),.int .i64 (0)]):=by kernel_rfl
theorem Lo:(Tryz.prog.info? 150).bind (·.zero)=some (.agg #[.int .i64 (0),.int .u64 (0),.int .u64 (0),.int .u64 (0),.int .u64 (0),.slice none 0 0]):=by kernel_rfl
theorem Ln:(Tryz.prog.info? 162).bind (·.zero)=some (.agg #[.string ⟨#[]⟩,.int .i64 (0),.int .i64 (0)]):=by kernel_rfl
theorem Nr:(Tryz.prog.info? 171).bind (·.zero)=some (.agg (Array.replicate 256 (.int .i64 (0)))):=by kernel_rfl
theorem Nq:(Tryz.prog.info? 218).bind (·.zero)=some (.agg #[.pointer none,.slice none 0 0]):=by kernel_rfl
theorem O7:(Tryz.prog.info? 22).bind (·.zero)=some (.slice none 0 0):=by kernel_rfl
theorem O6:(Tryz.prog.info? 28).bind (·.zero)=some (.agg #[.int .i64 (0),.int .i64 (0),.int .i64 (0),.string ⟨#[]⟩,.bool false]):=by kernel_rfl
theorem Qf:(Tryz.prog.info? 3).bind (·.zero)=some (.int .i64 (0)):=by kernel_rfl
theorem zY:(Tryz.prog.info? 31).bind (·.zero)=some (.agg #[.string ⟨#[]⟩,.int .i64 (0),.int .i64 (0),.int .i64 (0),.slice none 0 0,.slice none 0 0,.int .i64 (0),.string ⟨#[]⟩,.int .i64 (0),.int .i64 (0),.int .i64 (0),.string ⟨#[]⟩,.int .i64 (0),.string ⟨#[]⟩,.int .i64 (0),.int .i64 (0),.slice none 0 0,.slice none 0 0,.int .i64 (0)]):=by kernel_rfl
theorem O5:(Tryz.prog.info? 35).bind (·.zero)=some (.agg #[.int .i64 (0),.int .i32 (0),.string ⟨#[]⟩]):=by kernel_rfl
theorem Qe:(Tryz.prog.info? 4).bind (·.zero)=some (.bool false):=by kernel_rfl
theorem Bx:(Tryz.prog.info? 44).bind (·.zero)=some (.agg #[.int .i64 (0),.int .i64 (0)]):=by kernel_rfl
theorem O4:(Tryz.prog.info? 53).bind (·.zero)=some (.agg #[.int .i64 (0),.bool false]):=by kernel_rfl
theorem O3:(Tryz.prog.info? 60).bind (·.zero)=some (.int .i64 (0)):=by kernel_rfl
theorem Np:(Tryz.prog.info? 90).bind (·.zero)=some (.agg #[.int .i64 (0),.int .i64 (0),.int .i64 (0)]):=by kernel_rfl
end Go.Proofs.YtpjgdgdnbkjoiaaGreatDoor.H
namespace Go.Proofs.YtpjgdgdnbkjoiaaGreatDoor.H
open Go.Proofs.Tryz
open Go Go.Lw
set_option maxRecDepth 100000 in
instance:Le Tryz.prog:=⟨by decide +kernel⟩
instance:ni Tryz.prog 103 false:=⟨OQ⟩
instance:ni Tryz.prog 128 true:=⟨JR⟩
instance:ni Tryz.prog 143 false:=⟨OP⟩
instance:ni Tryz.prog 146 false:=⟨OO⟩
instance:ni Tryz.prog 147 true:=⟨ON⟩
instance:ni Tryz.prog 148 false:=⟨L3⟩
instance:ni Tryz.prog 150 true:=⟨zU⟩
instance:ni Tryz.prog 156 true:=⟨OM⟩
instance:ni Tryz.prog 160 false:=⟨OL⟩
instance:ni Tryz.prog 162 true:=⟨L2⟩
instance:ni Tryz.prog 165 false:=⟨OK⟩
instance:ni Tryz.prog 171 true:=⟨OJ⟩
instance:ni Tryz.prog 215 false:=⟨OI⟩
instance:ni Tryz.prog 216 false:=⟨OH⟩
instance:ni Tryz.prog 22 false:=⟨Da⟩
instance:ni Tryz.prog 272 false:=⟨OG⟩
instance:ni Tryz.prog 28 true:=⟨Br⟩
instance:ni Tryz.prog 29 false:=⟨OF⟩
instance:ni Tryz.prog 3 false:=⟨gS⟩
instance:ni Tryz.prog 31 true:=⟨iZ⟩
instance:ni Tryz.prog 4 false:=⟨Qr⟩
instance:ni Tryz.prog 41 false:=⟨yN⟩
instance:ni Tryz.prog 44 true:=⟨xX⟩
instance:ni Tryz.prog 51 false:=⟨JO⟩
instance:ni Tryz.prog 60 false:=⟨M3⟩
instance:ni Tryz.prog 65 false:=⟨OE⟩
instance:ni Tryz.prog 78 false:=⟨P9⟩
instance:ni Tryz.prog 9 false:=⟨ve⟩
instance:ni Tryz.prog 90 true:=⟨P8⟩
instance:ni Tryz.prog 91 false:=⟨P7⟩
instance:ni Tryz.prog 92 false:=⟨KZ⟩
instance:ni Tryz.prog 96 false:=⟨P6⟩
instance:ni Tryz.prog 99 false:=⟨OD⟩
instance:Qt Tryz.prog 205:=⟨LN⟩
instance:EY Tryz.prog 103 1 8:=⟨On⟩
instance:EY Tryz.prog 128 3 24:=⟨lG⟩
instance:EY Tryz.prog 150 6 64:=⟨Jq⟩
instance:EY Tryz.prog 156 7 72:=⟨LL⟩
instance:EY Tryz.prog 3 1 8:=⟨Ol⟩
instance:EY Tryz.prog 4 1 1:=⟨No⟩
instance:EY Tryz.prog 44 2 16:=⟨sj⟩
instance:EY Tryz.prog 5 1 1:=⟨QW⟩
instance:EY Tryz.prog 78 1 24:=⟨PZ⟩
instance:EY Tryz.prog 9 1 16:=⟨xw⟩
instance:EY Tryz.prog 90 3 24:=⟨MN⟩
instance:jc Tryz.prog 128 0 0:=⟨⟨_,_,_,underlying128,rfl,rfl,ck⟩⟩
instance:jc Tryz.prog 128 1 1:=⟨⟨_,_,_,underlying128,rfl,rfl,ck⟩⟩
instance:jc Tryz.prog 128 2 2:=⟨⟨_,_,_,underlying128,rfl,rfl,ck⟩⟩
instance:jc Tryz.prog 131 0 0:=⟨⟨_,_,_,underlying131,rfl,rfl,lS⟩⟩
instance:jc Tryz.prog 131 1 1:=⟨⟨_,_,_,underlying131,rfl,rfl,F6⟩⟩
instance:jc Tryz.prog 137 0 0:=⟨⟨_,_,_,underlying137,rfl,rfl,Ko⟩⟩
instance:jc Tryz.prog 137 1 1:=⟨⟨_,_,_,underlying137,rfl,rfl,nD⟩⟩
instance:jc Tryz.prog 137 2 2:=⟨⟨_,_,_,underlying137,rfl,rfl,ck⟩⟩
instance:jc Tryz.prog 145 0 0:=⟨⟨_,_,_,underlying145,rfl,rfl,Lu⟩⟩
instance:jc Tryz.prog 145 1 1:=⟨⟨_,_,_,underlying145,rfl,rfl,ck⟩⟩
instance:jc Tryz.prog 150 0 0:=⟨⟨_,_,_,underlying150,rfl,rfl,ck⟩⟩
instance:jc Tryz.prog 150 1 1:=⟨⟨_,_,_,underlying150,rfl,rfl,H9⟩⟩
instance:jc Tryz.prog 150 2 5:=⟨⟨_,_,_,underlying150,rfl,rfl,NJ⟩⟩
instance:jc Tryz.prog 156 0 0:=⟨⟨_,_,_,underlying156,rfl,rfl,ck⟩⟩
instance:jc Tryz.prog 156 1 1:=⟨⟨_,_,_,underlying156,rfl,rfl,H9⟩⟩
instance:jc Tryz.prog 156 2 5:=⟨⟨_,_,_,underlying156,rfl,rfl,F6⟩⟩
instance:jc Tryz.prog 156 3 6:=⟨⟨_,_,_,underlying156,rfl,rfl,ck⟩⟩
instance:jc Tryz.prog 162 1 1:=⟨⟨_,_,_,underlying162,rfl,rfl,ck⟩⟩
instance:jc Tryz.prog 162 2 2:=⟨⟨_,_,_,underlying162,rfl,rfl,ck⟩⟩
instance:jc Tryz.prog 167 0 0:=⟨⟨_,_,_,underlying167,rfl,rfl,Lt⟩⟩
instance:jc Tryz.prog 167 1 1:=⟨⟨_,_,_,underlying167,rfl,rfl,F6⟩⟩
instance:jc Tryz.prog 208 0 0:=⟨⟨_,_,_,underlying208,rfl,rfl,lS⟩⟩
instance:jc Tryz.prog 218 0 0:=⟨⟨_,_,_,underlying218,rfl,rfl,Ls⟩⟩
instance:jc Tryz.prog 218 1 1:=⟨⟨_,_,_,underlying218,rfl,rfl,Lr⟩⟩
instance:jc Tryz.prog 28 0 0:=⟨⟨_,_,_,underlying28,rfl,rfl,ck⟩⟩
instance:jc Tryz.prog 28 1 1:=⟨⟨_,_,_,underlying28,rfl,rfl,ck⟩⟩
instance:jc Tryz.prog 28 2 2:=⟨⟨_,_,_,underlying28,rfl,rfl,ck⟩⟩
instance:jc Tryz.prog 28 4 4:=⟨⟨_,_,_,underlying28,rfl,rfl,Ko⟩⟩
instance:jc Tryz.prog 31 0 0:=⟨⟨_,_,_,underlying31,rfl,rfl,lS⟩⟩
instance:jc Tryz.prog 31 1 1:=⟨⟨_,_,_,underlying31,rfl,rfl,ck⟩⟩
instance:jc Tryz.prog 31 10 10:=⟨⟨_,_,_,underlying31,rfl,rfl,ck⟩⟩
instance:jc Tryz.prog 31 16 16:=⟨⟨_,_,_,underlying31,rfl,rfl,nD⟩⟩
instance:jc Tryz.prog 31 17 17:=⟨⟨_,_,_,underlying31,rfl,rfl,H6⟩⟩
instance:jc Tryz.prog 31 18 18:=⟨⟨_,_,_,underlying31,rfl,rfl,ck⟩⟩
instance:jc Tryz.prog 31 2 2:=⟨⟨_,_,_,underlying31,rfl,rfl,ck⟩⟩
instance:jc Tryz.prog 31 3 3:=⟨⟨_,_,_,underlying31,rfl,rfl,ck⟩⟩
instance:jc Tryz.prog 31 4 4:=⟨⟨_,_,_,underlying31,rfl,rfl,nD⟩⟩
instance:jc Tryz.prog 31 5 5:=⟨⟨_,_,_,underlying31,rfl,rfl,nD⟩⟩
instance:jc Tryz.prog 31 6 6:=⟨⟨_,_,_,underlying31,rfl,rfl,ck⟩⟩
instance:jc Tryz.prog 31 7 7:=⟨⟨_,_,_,underlying31,rfl,rfl,lS⟩⟩
instance:jc Tryz.prog 31 8 8:=⟨⟨_,_,_,underlying31,rfl,rfl,ck⟩⟩
instance:jc Tryz.prog 31 9 9:=⟨⟨_,_,_,underlying31,rfl,rfl,ck⟩⟩
instance:jc Tryz.prog 44 0 0:=⟨⟨_,_,_,underlying44,rfl,rfl,ck⟩⟩
instance:jc Tryz.prog 44 1 1:=⟨⟨_,_,_,underlying44,rfl,rfl,ck⟩⟩
instance:jc Tryz.prog 90 0 0:=⟨⟨_,_,_,underlying90,rfl,rfl,ck⟩⟩
instance:jc Tryz.prog 94 0 0:=⟨⟨_,_,_,underlying94,rfl,rfl,NF⟩⟩
instance:jc Tryz.prog 94 2 2:=⟨⟨_,_,_,underlying94,rfl,rfl,uI⟩⟩
instance:jc Tryz.prog 94 3 3:=⟨⟨_,_,_,underlying94,rfl,rfl,F5⟩⟩
instance:jc Tryz.prog 94 5 6:=⟨⟨_,_,_,underlying94,rfl,rfl,NC⟩⟩
instance:jc Tryz.prog 98 0 0:=⟨⟨_,_,_,underlying98,rfl,rfl,NB⟩⟩
instance:b6 Tryz.prog 106 f106:=⟨func106⟩
instance:b6 Tryz.prog 107 f107:=⟨func107⟩
instance:b6 Tryz.prog 108 f108:=⟨func108⟩
instance:b6 Tryz.prog 109 f109:=⟨func109⟩
instance:b6 Tryz.prog 110 f110:=⟨func110⟩
instance:b6 Tryz.prog 111 f111:=⟨func111⟩
instance:b6 Tryz.prog 112 f112:=⟨func112⟩
instance:b6 Tryz.prog 117 f117:=⟨func117⟩
instance:b6 Tryz.prog 118 f118:=⟨func118⟩
instance:b6 Tryz.prog 119 f119:=⟨func119⟩
instance:b6 Tryz.prog 120 Tryz.f120:=⟨func120⟩
instance:b6 Tryz.prog 121 f121:=⟨func121⟩
instance:b6 Tryz.prog 122 f122:=⟨func122⟩
instance:b6 Tryz.prog 123 f123:=⟨func123⟩
instance:b6 Tryz.prog 124 f124:=⟨func124⟩
instance:b6 Tryz.prog 125 f125:=⟨func125⟩
instance:b6 Tryz.prog 126 f126:=⟨func126⟩
instance:b6 Tryz.prog 127 f127:=⟨func127⟩
instance:b6 Tryz.prog 129 Tryz.f129:=⟨func129⟩
instance:b6 Tryz.prog 130 f130:=⟨func130⟩
instance:b6 Tryz.prog 131 f131:=⟨func131⟩
instance:b6 Tryz.prog 132 f132:=⟨func132⟩
instance:b6 Tryz.prog 133 f133:=⟨func133⟩
instance:b6 Tryz.prog 134 f134:=⟨func134⟩
instance:b6 Tryz.prog 135 f135:=⟨func135⟩
instance:b6 Tryz.prog 136 f136:=⟨func136⟩
instance:b6 Tryz.prog 137 Tryz.f137:=⟨func137⟩
instance:b6 Tryz.prog 138 f138:=⟨func138⟩
instance:b6 Tryz.prog 140 f140:=⟨func140⟩
instance:b6 Tryz.prog 142 f142:=⟨func142⟩
instance:b6 Tryz.prog 143 Tryz.f143:=⟨func143⟩
instance:b6 Tryz.prog 144 Tryz.f144:=⟨func144⟩
instance:b6 Tryz.prog 145 f145:=⟨func145⟩
instance:b6 Tryz.prog 146 f146:=⟨func146⟩
instance:b6 Tryz.prog 147 f147:=⟨func147⟩
instance:b6 Tryz.prog 148 Tryz.f148:=⟨func148⟩
instance:b6 Tryz.prog 149 Tryz.f149:=⟨func149⟩
instance:b6 Tryz.prog 155 f155:=⟨func155⟩
instance:b6 Tryz.prog 156 f156:=⟨func156⟩
instance:b6 Tryz.prog 16 f16:=⟨func16⟩
instance:b6 Tryz.prog 162 f162:=⟨func162⟩
instance:b6 Tryz.prog 163 f163:=⟨func163⟩
instance:b6 Tryz.prog 164 f164:=⟨func164⟩
instance:b6 Tryz.prog 165 Tryz.f165:=⟨func165⟩
instance:b6 Tryz.prog 166 Tryz.f166:=⟨func166⟩
instance:b6 Tryz.prog 167 f167:=⟨func167⟩
instance:b6 Tryz.prog 168 f168:=⟨func168⟩
instance:b6 Tryz.prog 169 Tryz.f169:=⟨func169⟩
instance:b6 Tryz.prog 170 Tryz.f170:=⟨func170⟩
instance:b6 Tryz.prog 171 Tryz.f171:=⟨func171⟩
instance:b6 Tryz.prog 172 f172:=⟨func172⟩
instance:b6 Tryz.prog 173 f173:=⟨func173⟩
instance:b6 Tryz.prog 174 f174:=⟨func174⟩
instance:b6 Tryz.prog 175 f175:=⟨func175⟩
instance:b6 Tryz.prog 176 f176:=⟨func176⟩
instance:b6 Tryz.prog 177 f177:=⟨func177⟩
instance:b6 Tryz.prog 178 f178:=⟨func178⟩
instance:b6 Tryz.prog 179 f179:=⟨func179⟩
instance:b6 Tryz.prog 180 f180:=⟨func180⟩
instance:b6 Tryz.prog 181 f181:=⟨func181⟩
instance:b6 Tryz.prog 182 f182:=⟨func182⟩
instance:b6 Tryz.prog 184 f184:=⟨func184⟩
instance:b6 Tryz.prog 187 f187:=⟨func187⟩
instance:b6 Tryz.prog 188 f188:=⟨func188⟩
instance:b6 Tryz.prog 189 f189:=⟨func189⟩
instance:b6 Tryz.prog 19 f19:=⟨func19⟩
instance:b6 Tryz.prog 190 f190:=⟨func190⟩
instance:b6 Tryz.prog 191 f191:=⟨func191⟩
instance:b6 Tryz.prog 192 f192:=⟨func192⟩
instance:b6 Tryz.prog 193 f193:=⟨func193⟩
instance:b6 Tryz.prog 195 f195:=⟨func195⟩
instance:b6 Tryz.prog 196 f196:=⟨func196⟩
instance:b6 Tryz.prog 197 Tryz.f197:=⟨func197⟩
instance:b6 Tryz.prog 198 f198:=⟨func198⟩
instance:b6 Tryz.prog 201 f201:=⟨func201⟩
instance:b6 Tryz.prog 204 f204:=⟨func204⟩
instance:b6 Tryz.prog 210 f210:=⟨func210⟩
instance:b6 Tryz.prog 211 f211:=⟨func211⟩
instance:b6 Tryz.prog 212 Tryz.f212:=⟨func212⟩
instance:b6 Tryz.prog 225 Tryz.f225:=⟨func225⟩
instance:b6 Tryz.prog 226 f226:=⟨func226⟩
instance:b6 Tryz.prog 227 f227:=⟨func227⟩
instance:b6 Tryz.prog 228 f228:=⟨func228⟩
instance:b6 Tryz.prog 235 f235:=⟨func235⟩
instance:b6 Tryz.prog 236 f236:=⟨func236⟩
instance:b6 Tryz.prog 29 f29:=⟨func29⟩
instance:b6 Tryz.prog 34 f34:=⟨func34⟩
instance:b6 Tryz.prog 35 f35:=⟨func35⟩
instance:b6 Tryz.prog 37 f37:=⟨func37⟩
instance:b6 Tryz.prog 38 f38:=⟨func38⟩
instance:b6 Tryz.prog 39 f39:=⟨func39⟩
instance:b6 Tryz.prog 40 f40:=⟨func40⟩
instance:b6 Tryz.prog 42 f42:=⟨func42⟩
instance:b6 Tryz.prog 45 f45:=⟨func45⟩
instance:b6 Tryz.prog 46 f46:=⟨func46⟩
instance:b6 Tryz.prog 47 f47:=⟨func47⟩
instance:b6 Tryz.prog 49 f49:=⟨func49⟩
instance:b6 Tryz.prog 50 f50:=⟨func50⟩
instance:b6 Tryz.prog 65 f65:=⟨func65⟩
instance:b6 Tryz.prog 66 f66:=⟨func66⟩
instance:b6 Tryz.prog 67 f67:=⟨func67⟩
instance:b6 Tryz.prog 69 f69:=⟨func69⟩
instance:b6 Tryz.prog 70 f70:=⟨func70⟩
instance:b6 Tryz.prog 71 f71:=⟨func71⟩
instance:b6 Tryz.prog 72 f72:=⟨func72⟩
instance:b6 Tryz.prog 73 f73:=⟨func73⟩
instance:b6 Tryz.prog 74 f74:=⟨func74⟩
instance:b6 Tryz.prog 75 f75:=⟨func75⟩
instance:b6 Tryz.prog 76 f76:=⟨func76⟩
instance:b6 Tryz.prog 77 f77:=⟨func77⟩
instance:b6 Tryz.prog 78 f78:=⟨func78⟩
instance:b6 Tryz.prog 79 f79:=⟨func79⟩
instance:b6 Tryz.prog 80 f80:=⟨func80⟩
instance:b6 Tryz.prog 81 f81:=⟨func81⟩
instance:b6 Tryz.prog 82 f82:=⟨func82⟩
instance:b6 Tryz.prog 83 f83:=⟨func83⟩
instance:b6 Tryz.prog 84 f84:=⟨func84⟩
instance:b6 Tryz.prog 87 f87:=⟨func87⟩
instance:b6 Tryz.prog 88 f88:=⟨func88⟩
instance:b6 Tryz.prog 89 f89:=⟨func89⟩
instance:b6 Tryz.prog 91 f91:=⟨func91⟩
instance:b6 Tryz.prog 93 f93:=⟨func93⟩
instance:b6 Tryz.prog 94 f94:=⟨func94⟩
instance:b6 Tryz.prog 95 f95:=⟨func95⟩
instance:M7 Tryz.prog:=⟨mixed⟩
instance:ql Tryz.prog 103 1:=⟨NL⟩
instance:ql Tryz.prog 128 3:=⟨jW⟩
instance:ql Tryz.prog 143 1:=⟨Lu⟩
instance:ql Tryz.prog 146 1:=⟨NK⟩
instance:ql Tryz.prog 147 4:=⟨H9⟩
instance:ql Tryz.prog 150 6:=⟨nE⟩
instance:ql Tryz.prog 156 7:=⟨NI⟩
instance:ql Tryz.prog 160 1:=⟨NH⟩
instance:ql Tryz.prog 162 3:=⟨H8⟩
instance:ql Tryz.prog 165 1:=⟨Lt⟩
instance:ql Tryz.prog 171 256:=⟨NG⟩
instance:ql Tryz.prog 215 1:=⟨Ls⟩
instance:ql Tryz.prog 216 1:=⟨Lr⟩
instance:ql Tryz.prog 22 1:=⟨nD⟩
instance:ql Tryz.prog 28 5:=⟨sS⟩
instance:ql Tryz.prog 29 1:=⟨H6⟩
instance:ql Tryz.prog 3 1:=⟨ck⟩
instance:ql Tryz.prog 31 19:=⟨cn⟩
instance:ql Tryz.prog 4 1:=⟨Ko⟩
instance:ql Tryz.prog 44 2:=⟨ia⟩
instance:ql Tryz.prog 60 1:=⟨Me⟩
instance:ql Tryz.prog 78 1:=⟨F6⟩
instance:ql Tryz.prog 9 1:=⟨lS⟩
instance:ql Tryz.prog 90 3:=⟨ND⟩
instance:ql Tryz.prog 91 1:=⟨NC⟩
instance:ql Tryz.prog 96 1:=⟨NB⟩
instance:pL Tryz.prog 143 (.slice 156):=⟨underlying143⟩
instance:pL Tryz.prog 147 (.array 4 146):=⟨underlying147⟩
instance:pL Tryz.prog 148 (.slice 150):=⟨underlying148⟩
instance:pL Tryz.prog 160 (.slice 162):=⟨underlying160⟩
instance:pL Tryz.prog 163 (.array 3 160):=⟨underlying163⟩
instance:pL Tryz.prog 165 (.slice 171):=⟨underlying165⟩
instance:pL Tryz.prog 170 (.slice 78):=⟨underlying170⟩
instance:pL Tryz.prog 171 (.array 256 3):=⟨underlying171⟩
instance:pL Tryz.prog 216 (.slice 5):=⟨underlying216⟩
instance:pL Tryz.prog 22 (.slice 9):=⟨underlying22⟩
instance:pL Tryz.prog 246 (.int .u64):=⟨underlying246⟩
instance:pL Tryz.prog 29 (.slice 4):=⟨underlying29⟩
instance:pL Tryz.prog 3 (.int .i64):=⟨underlying3⟩
instance:pL Tryz.prog 41 (.slice 128):=⟨underlying41⟩
instance:pL Tryz.prog 5 (.int .u8):=⟨underlying5⟩
instance:pL Tryz.prog 78 (.slice 3):=⟨underlying78⟩
instance:pL Tryz.prog 9 (.string):=⟨underlying9⟩
instance:pL Tryz.prog 91 (.slice 90):=⟨underlying91⟩
instance:pL Tryz.prog 92 (.slice 44):=⟨underlying92⟩
instance:pL Tryz.prog 96 (.slice 103):=⟨underlying96⟩
instance:JV Tryz.prog 128 (.agg #[.int .i64 (0),.int .i64 (0),.int .i64 (0)]):=⟨vh⟩
instance:JV Tryz.prog 150 (.agg #[.int .i64 (0),.int .u64 (0),.int .u64 (0),.int .u64 (0),.int .u64 (0),.slice none 0 0]):=⟨Lo⟩
instance:JV Tryz.prog 162 (.agg #[.string ⟨#[]⟩,.int .i64 (0),.int .i64 (0)]):=⟨Ln⟩
instance:JV Tryz.prog 171 (.agg (Array.replicate 256 (.int .i64 (0)))):=⟨Nr⟩
instance:JV Tryz.prog 218 (.agg #[.pointer none,.slice none 0 0]):=⟨Nq⟩
instance:JV Tryz.prog 22 (.slice none 0 0):=⟨O7⟩
instance:JV Tryz.prog 31 (.agg #[.string ⟨#[]⟩,.int .i64 (0),.int .i64 (0),.int .i64 (0),.slice none 0 0,.slice none 0 0,.int .i64 (0),.string ⟨#[]⟩,.int .i64 (0),.int .i64 (0),.int .i64 (0),.string ⟨#[]⟩,.int .i64 (0),.string ⟨#[]⟩,.int .i64 (0),.int .i64 (0),.slice none 0 0,.slice none 0 0,.int .i64 (0)]):=⟨zY⟩
instance:JV Tryz.prog 44 (.agg #[.int .i64 (0),.int .i64 (0)]):=⟨Bx⟩
instance:JV Tryz.prog 60 (.int .i64 (0)):=⟨O3⟩
instance:JV Tryz.prog 90 (.agg #[.int .i64 (0),.int .i64 (0),.int .i64 (0)]):=⟨Np⟩
end Go.Proofs.YtpjgdgdnbkjoiaaGreatDoor.H
namespace Go.Proofs.YtpjgdgdnbkjoiaaGreatDoor
section
variable {k i n to st:Nat}{fin:Nat->Prop}{todo:List Nat}
abbrev By:=List UInt8
inductive Nd where
  |mk (kind:Nat) (set:Nat) (kids:List Nd)
def Nd.kind:Nd->Nat|.mk k _ _=>k
def Nd.set:Nd->Nat|.mk _ s _=>s
def Nd.kids:Nd->List Nd|.mk _ _ l=>l
def JL:Nat:=2 ^ 256-1
def yZ (s a:Nat):Nat->Nat
  | 0=>s
  |n+1=>yZ (s |||(1 <<< a)) (a+1) n
def pW (s:Nat) (a b:UInt8):Nat:=yZ s a.toNat (b.toNat+1-a.toNat)
def nT (s:Nat):Nat:=JL ^^^ s
def Bj (b:UInt8):Nd:=.mk 1 (pW 0 b b) []
def LM:Nd:=.mk 1 (pW (pW 0 0 9) 11 255) []
def pe:Nd:=.mk 0 0 []
def fX:By:=[40,41,91,93,124,42,43,63,46,92,45,94]
def mo (b:UInt8):Option Nat :=
  if 48<=b.toNat/\b.toNat<=57 then some (b.toNat-48) else if 97<=b.toNat/\b.toNat<=102 then some (b.toNat-87) else if 65<=b.toNat/\b.toNat<=70 then some (b.toNat-55) else none
def se:By->Option (UInt8×By)
  | []=>none
  |b::r =>
    if b=110 then some (10,r) else if b=116 then some (9,r) else if b=114 then some (13,r)
    else if b=120 then
      match r with
      |x::y::r=>match mo x,mo y with
        |some m,some n=>some (UInt8.ofNat (m*16+n),r)
        |_,_=>none
      |_=>none
    else if b∈fX then some (b,r) else none
def qA:By->Option (UInt8×By)
  | []=>none
  |b::r=>if b=92 then se r else if b∈fX then none else some (b,r)
def fj (s:By):Option ((UInt8×UInt8)×By) :=
  match qA s with
  |none=>none
  |some (a,r)=>match r with
    | 45::r'=>match qA r' with
      |none=>none
      |some (b,r'')=>if b.toNat<a.toNat then none else some ((a,b),r'')
    |_=>some ((a,a),r)
def mR:Nat->Nat->By->Option (Nat×By)
  | 0,_,_=>none
  |n+1,acc,s=>match fj s with
    |none=>none
    |some ((a,b),r)=>match r with
      | 93::r'=>some (pW acc a b,r')
      |_=>mR n (pW acc a b) r
def iP (s:By):Option (Nd×By) :=
  match s with
  | 94::r=>(mR (r.length+1) 0 r).map fun p=>(.mk 1 (nT p.1) [],p.2)
  |_=>(mR (s.length+1) 0 s).map fun p=>(.mk 1 p.1 [],p.2)
def fH (rows:By->Option (Nd×By)):By->Option (Nd×By)
  | []=>none
  |c::r =>
    if c=40 then
      match rows r with
      |none=>none
      |some (n,r')=>match r' with
        | 41::r''=>some (n,r'')
        |_=>none
    else if c=91 then iP r
    else if c=46 then some (LM,r)
    else if c=92 then (se r).map fun p=>(Bj p.1,p.2)
    else if c∈[(41:UInt8),93,124,42,43,63] then none
    else some (Bj c,r)
def dD (c:UInt8):Nat:=if c=42 then 4 else if c=43 then 5 else if c=63 then 6 else 0
def eW (n:Nd):By->Nd×By
  | []=>(n,[])
  |c::r=>if dD c=0 then (n,c::r) else eW (.mk (dD c) 0 [n]) r
def gC (rows:By->Option (Nd×By)) (s:By):Option (Nd×By) :=
  (fH rows s).map fun p=>eW p.1 p.2
def bT (kind:Nat):List Nd->Nd
  | []=>pe
  | [n]=>n
  |l=>.mk kind 0 l
def kI:By->Bool
  | []=>true
  |c::_=>c ==124 ||c ==41
def nN (rows:By->Option (Nd×By)):Nat->By->Option (List Nd×By)
  | 0,_=>none
  |n+1,s=>if kI s then some ([],s) else
    match gC rows s with
    |none=>none
    |some (x,r)=>(nN rows n r).map fun p=>(x::p.1,p.2)
def jf (rows:By->Option (Nd×By)):Nat->List Nd->List Nd->By->Option (Nd×By)
  | 0,_,_,_=>none
  |n+1,all,row,s=>if kI s then
      if s.head? =some 124 then jf rows n (all++[bT 2 row]) [] s.tail
      else some (bT 3 (all++[bT 2 row]),s)
    else match gC rows s with
      |none=>none
      |some (x,r)=>jf rows n all (row++[x]) r
def dV:Nat->By->Option (Nd×By)
  | 0,_=>none
  |d+1,s=>jf (dV d) (s.length+1) [] [] s
def kM (s:By):Option Nd :=
  match dV (s.length+1) s with
  |some (n,[])=>some n
  |_=>none
theorem xl {s:By}{b:UInt8}{r:By}(h:se s=some (b,r)):r.length<s.length:=by
  unfold se at h;split at h
  · cases h
  · rename_i c t;split at h
    · cases h;simp
    · split at h
      · cases h;simp
      · split at h
        · cases h;simp
        · split at h
          · split at h
            · split at h
              · cases h;simp only[List.length_cons];omega
              · cases h
            · cases h
          · split at h
            · cases h;simp
            · cases h
theorem rU {s:By}{b:UInt8}{r:By}(h:qA s=some (b,r)):r.length<s.length:=by
  unfold qA at h;split at h
  · cases h
  · split at h
    · have:=xl h;simp only[List.length_cons];omega
    · split at h
      · cases h
      · cases h;simp
theorem om {s:By}{p:UInt8×UInt8}{r:By}(h:fj s=some (p,r)):r.length<s.length:=by
  unfold fj at h;split at h
  · cases h
  · rename_i a t ha;have h1:=rU ha;split at h
    · rename_i t';split at h
      · cases h
      · rename_i b t'' hb;have h2:=rU hb;split at h
        · cases h
        · cases h;simp only[List.length_cons] at h1;omega
    · cases h;exact h1
theorem sX:∀(n acc:Nat){s:By}{m:Nat}{r:By},mR n acc s=some (m,r)->r.length<s.length
  | 0,_,s,m,r,h=>by cases h
  |n+1,acc,s,m,r,h=>by
    rw[mR] at h;split at h
    · cases h
    · rename_i a b t ht;have h1:=om ht;split at h
      · cases h;simp only[List.length_cons] at h1;omega
      · have:=sX n _ h;omega
theorem sE {s:By}{x:Nd}{r:By}(h:iP s=some (x,r)):r.length<s.length:=by
  unfold iP at h;split at h
  · rename_i t;simp only[Option.map_eq_some_iff] at h;obtain⟨⟨m,r'⟩,h1,h2⟩:=h;cases h2;have:=sX _ _ h1;simp only[List.length_cons];omega
  · simp only[Option.map_eq_some_iff] at h;obtain⟨⟨m,r'⟩,h1,h2⟩:=h;cases h2;exact sX _ _ h1
theorem zS {rows:By->Option (Nd×By)}(hr:∀{s x r},rows s=some (x,r)->r.length<=s.length){s:By}{x:Nd}{r:By}(h:fH rows s=some (x,r)):r.length<s.length:=by
  unfold fH at h;split at h
  · cases h
  · rename_i c t;simp only[List.length_cons];split at h
    · split at h
      · cases h
      · rename_i n t' ht;have:=hr ht;split at h
        · rename_i t'' _;cases h;simp only[List.length_cons] at this;omega
        · cases h
    · split at h
      · have:=sE h;omega
      · split at h
        · cases h;omega
        · split at h
          · simp only[Option.map_eq_some_iff] at h;obtain⟨⟨b,r'⟩,h1,h2⟩:=h;cases h2;have:=xl h1;dsimp only;omega
          · split at h
            · cases h
            · cases h;omega
theorem vD:∀(s:By) (n:Nd),(eW n s).2.length<=s.length
  | [],n=>by simp[eW]
  |c::r,n=>by
    rw[eW];split
    · simp
    · have:=vD r (.mk (dD c) 0 [n]);simp only[List.length_cons];omega
theorem gy {rows:By->Option (Nd×By)}(hr:∀{s x r},rows s=some (x,r)->r.length<=s.length){s:By}{x:Nd}{r:By}(h:gC rows s=some (x,r)):r.length<s.length:=by
  unfold gC at h;simp only[Option.map_eq_some_iff] at h;obtain⟨⟨n,t⟩,h1,h2⟩:=h;have h3:=zS hr h1;have h4:=vD t n;rw[h2] at h4;simp only at h4;omega
theorem sZ {rows:By->Option (Nd×By)}(hr:∀{s x r},rows s=some (x,r)->r.length<=s.length):∀(n:Nat) (all row:List Nd){s:By}{x:Nd}{r:By},jf rows n all row s=some (x,r)->r.length<=s.length/\(r=[]\/r.head? =some 41)
  | 0,_,_,s,x,r,h=>by cases h
  |n+1,all,row,s,x,r,h=>by
    rw[jf] at h;split at h
    · rename_i he;split at h
      · have:=sZ hr n _ _ h;exact⟨by have h2:=this.1;simp only[List.length_tail] at h2;omega,this.2⟩
      · rename_i hn;cases h;refine⟨Nat.le_refl _,?_⟩;cases s with
        |nil=>exact .inl rfl
        |cons c t =>
          right
          unfold kI at he;have h1:c≠124:=fun e=>hn (by rw[e];rfl)
          simp[h1] at he;simp[he]
    · split at h
      · cases h
      · rename_i y t ht;have h1:=gy hr ht;have h2:=sZ hr n _ _ h;exact⟨by omega,h2.2⟩
theorem lq:∀(d:Nat){s:By}{x:Nd}{r:By},dV d s=some (x,r)->r.length<=s.length
  | 0,s,x,r,h=>by cases h
  |d+1,s,x,r,h=>(sZ (fun h=>lq d h) _ _ _ h).1
theorem BU {rows:By->Option (Nd×By)}(hr:∀{s x r},rows s=some (x,r)->r.length<=s.length):∀(n:Nat){s:By}{l:List Nd}{r:By},nN rows n s=some (l,r)->r.length<=s.length/\kI r=true/\l.length<=s.length
  | 0,s,l,r,h=>by cases h
  |n+1,s,l,r,h=>by
    rw[nN] at h;split at h
    · rename_i he;cases h;exact⟨Nat.le_refl _,he,Nat.zero_le _⟩
    · split at h
      · cases h
      · rename_i y t ht;have h1:=gy hr ht;simp only[Option.map_eq_some_iff] at h;obtain⟨⟨m,r'⟩,h2,h3⟩:=h;cases h3;have h4:=BU hr n h2;have h5:=h4.1;have h6:=h4.2.2;exact⟨by first|omega|(dsimp only;omega),h4.2.1,by simp only[List.length_cons];first|omega|(dsimp only at h6;omega)⟩
theorem vM {rows:By->Option (Nd×By)}(hr:∀{s x r},rows s=some (x,r)->r.length<=s.length):∀(k:Nat) (n m:Nat) (all row:List Nd) (s:By),s.length<=k->s.length<n->s.length<m->jf rows n all row s=jf rows m all row s:=by
  intro k
  induction k with
  |zero =>
    intro n m all row s hk hn hm;cases n with
    |zero=>omega
    |succ n =>
      cases m with
      |zero=>omega
      |succ m =>
        have:s=[]:=List.eq_nil_of_length_eq_zero (by omega);subst this;rfl
  |succ k ih =>
    intro n m all row s hk hn hm;cases n with
    |zero=>omega
    |succ n =>
      cases m with
      |zero=>omega
      |succ m =>
        rw[jf,jf];split
        · split
          · rename_i h1;have h2:s.tail.length+1=s.length:=by cases s with|nil=>cases h1|cons a b=>simp
            exact ih _ _ _ _ _ (by omega) (by omega) (by omega)
          · rfl
        · cases hp:gC rows s with
          |none=>rfl
          |some p =>
            obtain⟨y,t⟩:=p;have:=gy hr hp;exact ih _ _ _ _ _ (by omega) (by omega) (by omega)
theorem zh {rows:By->Option (Nd×By)}(hr:∀{s x r},rows s=some (x,r)->r.length<=s.length):∀(n m:Nat) (s:By),s.length<n->s.length<m->nN rows n s=nN rows m s
  | 0,_,_,h,_=>by omega
  |_,0,_,_,h=>by omega
  |n+1,m+1,s,hn,hm=>by
    rw[nN,nN];split
    · rfl
    · cases hp:gC rows s with
      |none=>rfl
      |some p =>
        obtain⟨y,t⟩:=p;have:=gy hr hp;simp only;rw[zh hr n m t (by omega) (by omega)]
def Aw (rows:By->Option (Nd×By)) (s:By):Option (Nd×By):=(nN rows (s.length+1) s).map fun p=>(bT 2 p.1,p.2)
def uy (rows:By->Option (Nd×By)) (all:List Nd) (m:By):Option (Nd×By) :=
  if m.head? =some 124 then jf rows (m.tail.length+1) all [] m.tail else some (bT 3 all,m)
theorem Gm {rows:By->Option (Nd×By)}(hr:∀{s x r},rows s=some (x,r)->r.length<=s.length):∀(n m:Nat) (all row:List Nd) (s:By),s.length<n->s.length<m ->
    jf rows n all row s=match nN rows m s with
      |none=>none
      |some (l,r)=>if r.head? =some 124 then jf rows (r.length+1) (all++[bT 2 (row++l)]) [] r.tail else some (bT 3 (all++[bT 2 (row++l)]),r):=by
  have fuel:=fun k=>@vM rows hr k
  intro n
  induction n with
  |zero=>intro m all row s h;omega
  |succ n ih =>
    intro m all row s hn hm;cases m with
    |zero=>omega
    |succ m =>
      rw[jf,nN]
      by_cases he:kI s=true
      · rw[if_pos he,if_pos he];simp only[List.append_nil];split
        · rename_i h1;have h2:s.tail.length+1=s.length:=by cases s with|nil=>cases h1|cons a b=>simp
          exact fuel _ _ _ _ _ _ (Nat.le_refl _) (by omega) (by omega)
        · rfl
      · rw[if_neg he,if_neg he];cases hp:gC rows s with
        |none=>rfl
        |some p =>
          obtain⟨y,t⟩:=p;have hlt:=gy hr hp;simp only;rw[ih m all (row++[y]) t (by omega) (by omega)];cases hl:nN rows m t with
          |none=>rfl
          |some q =>
            obtain⟨l,r⟩:=q;simp only[Option.map_some,List.append_assoc,List.singleton_append]
theorem vN {rows:By->Option (Nd×By)}(hr:∀{s x r},rows s=some (x,r)->r.length<=s.length) (all:List Nd) (s:By) :
    jf rows (s.length+1) all [] s=match Aw rows s with|none=>none|some (x,r)=>uy rows (all++[x]) r:=by
  rw[Gm hr _ (s.length+1) _ _ _ (Nat.lt_succ_self _) (Nat.lt_succ_self _)];unfold Aw;cases hl:nN rows (s.length+1) s with
  |none=>rfl
  |some q =>
    obtain⟨l,r⟩:=q;simp only[Option.map_some,List.nil_append,uy];split
    · exact vM hr r.length _ _ _ _ _ (by simp) (by simp;omega) (by omega)
    · rfl
theorem BT {rows:By->Option (Nd×By)}(hr:∀{s x r},rows s=some (x,r)->r.length<=s.length){s:By}{x:Nd}{r:By}(h:Aw rows s=some (x,r)):r.length<=s.length:=by
  unfold Aw at h;simp only[Option.map_eq_some_iff] at h;obtain⟨⟨l,r'⟩,h1,h2⟩:=h;cases h2;exact(BU hr _ h1).1
def bG (s:By):Nd×Int:=if 200<s.length then (pe,3) else match kM s with|some x=>(x,0)|none=>(pe,10)
structure bA where
  kind:Nat
  set:Nat
  to:List Nat
  rule:Nat
end
mutual
def lay:Nd->List bA->Nat->List bA×Nat
  |.mk k s kids,ss,to =>
    if k=1 then (ss++[⟨1,s,[to],0⟩],ss.length)
    else if k=2 then bz kids ss to
    else if k=3 then ((aT kids ss to).1++[⟨0,0,(aT kids ss to).2,0⟩],(aT kids ss to).1.length)
    else if k=6 then ((bS kids ss to).1++[⟨0,0,[(bS kids ss to).2,to],0⟩],(bS kids ss to).1.length)
    else if k=4\/k=5 then
      ((bS kids (ss++[⟨0,0,[],0⟩]) ss.length).1.set ss.length ⟨0,0,[(bS kids (ss++[⟨0,0,[],0⟩]) ss.length).2,to],0⟩,
        if k=5 then (bS kids (ss++[⟨0,0,[],0⟩]) ss.length).2 else ss.length)
    else (ss,to)
def bz:List Nd->List bA->Nat->List bA×Nat
  | [],ss,to=>(ss,to)
  |x::r,ss,to=>lay x (bz r ss to).1 (bz r ss to).2
def aT:List Nd->List bA->Nat->List bA×List Nat
  | [],ss,_=>(ss,[])
  |x::r,ss,to=>((aT r (lay x ss to).1 to).1,(lay x ss to).2::(aT r (lay x ss to).1 to).2)
def bS:List Nd->List bA->Nat->List bA×Nat
  | [],ss,to=>(ss,to)
  |x::_,ss,to=>lay x ss to
end
mutual
def pI:Nd->Nat
  |.mk _ _ kids=>gR kids+1
def gR:List Nd->Nat
  | []=>0
  |x::r=>pI x+gR r
end
mutual
def vj:Nd->Bool
  |.mk k _ kids=>(!(k ==4 ||k ==5 ||k ==6) ||kids.length ==1) && vk kids
def vk:List Nd->Bool
  | []=>true
  |x::r=>vj x && vk r
end
section
variable {k i n to st:Nat}{fin:Nat->Prop}{todo:List Nat}
theorem E5 (x:Nd):0<pI x:=by cases x;simp[pI]
theorem ir:∀(l m:List Nd),gR (l++m)=gR l+gR m
  | [],m=>by simp[gR]
  |x::l,m=>by simp only[List.cons_append,gR];rw[ir l m];omega
theorem lU:∀(l m:List Nd),vk (l++m)=(vk l && vk m)
  | [],m=>by simp[vk]
  |x::l,m=>by simp only[List.cons_append,vk];rw[lU l m,Bool.and_assoc]
theorem Aa:∀{l:List Nd}{i:Nat}{x:Nd},vk l=true->l[i]? =some x->vj x=true
  | [],i,x,_,h=>by simp at h
  |y::l,0,x,hw,h=>by simp at h;subst h;simp only[vk,Bool.and_eq_true] at hw;exact hw.1
  |y::l,i+1,x,hw,h=>by simp only[vk,Bool.and_eq_true] at hw;exact Aa hw.2 (by simpa using h)
end
mutual
theorem gj:∀(x:Nd) (ss:List bA) (to:Nat),ss.length<=(lay x ss to).1.length/\(lay x ss to).1.length<=ss.length+pI x
  |.mk k s kids,ss,to=>by
    rw[lay];simp only[pI];split
    · simp
    · split
      · have:=jH kids ss to;omega
      · split
        · have:=fE kids ss to;simp only[List.length_append,List.length_singleton];omega
        · split
          · have:=gG kids ss to;simp only[List.length_append,List.length_singleton];omega
          · split
            · have:=gG kids (ss++[⟨0,0,[],0⟩]) ss.length;simp only[List.length_append,List.length_singleton] at this;simp only[List.length_set];omega
            · simp
theorem jH:∀(l:List Nd) (ss:List bA) (to:Nat),ss.length<=(bz l ss to).1.length/\(bz l ss to).1.length<=ss.length+gR l
  | [],ss,to=>by simp[bz,gR]
  |x::r,ss,to=>by
    rw[bz];have h1:=jH r ss to;have h2:=gj x (bz r ss to).1 (bz r ss to).2;simp only[gR];omega
theorem fE:∀(l:List Nd) (ss:List bA) (to:Nat),ss.length<=(aT l ss to).1.length/\(aT l ss to).1.length<=ss.length+gR l
  | [],ss,to=>by simp[aT,gR]
  |x::r,ss,to=>by
    rw[aT];have h1:=gj x ss to;have h2:=fE r (lay x ss to).1 to;simp only[gR];omega
theorem gG:∀(l:List Nd) (ss:List bA) (to:Nat),ss.length<=(bS l ss to).1.length/\(bS l ss to).1.length<=ss.length+gR l
  | [],ss,to=>by simp[bS,gR]
  |x::r,ss,to=>by
    rw[bS];have h1:=gj x ss to;simp only[gR];omega
end
section
variable {k i n to st:Nat}{fin:Nat->Prop}{todo:List Nat}
def Small (s:By) (p:Option (Nd×By)):Prop:=∀x r,p=some (x,r)->pI x+2*r.length<=2*s.length+1/\vj x=true
theorem Ah (k:Nat) (l:List Nd):pI (bT k l)<=gR l+1:=by
  unfold bT;split
  · simp[pe,pI,gR]
  · simp[gR]
  · simp[pI]
theorem zZ {l:List Nd}(hk:k=2\/k=3) (h:vk l=true):vj (bT k l)=true:=by
  unfold bT;split
  · rfl
  · simp only[vk,Bool.and_eq_true] at h;exact h.1
  · simp only[vj,h,Bool.and_true];rcases hk with rfl|rfl<;>rfl
theorem tN:∀(s:By) (n:Nd),vj n=true->pI (eW n s).1+2*(eW n s).2.length<=pI n+2*s.length/\vj (eW n s).1=true
  | [],n,hw=>by simp[eW,hw]
  |c::r,n,hw=>by
    rw[eW];split
    · simp[hw]
    · rename_i hs;have hw':vj (.mk (dD c) 0 [n])=true:=by simp[vj,vk,hw]
      have h:=tN r (.mk (dD c) 0 [n]) hw';refine⟨?_,h.2⟩;have h1:=h.1;simp only[pI,gR,List.length_cons] at h1 ⊢;omega
theorem B4 {rows:By->Option (Nd×By)}(hr:∀s,Small s (rows s)){s:By}{x:Nd}{r:By}(h:gC rows s=some (x,r)):pI x+2*r.length+1<=2*s.length/\vj x=true:=by
  have leaf:∀k st,(k=0\/k=1)->vj (.mk k st [])=true:=fun k st hk=>by rcases hk with rfl|rfl<;>rfl
  have key:∀y t,fH rows s=some (y,t)->pI y+2*t.length+1<=2*s.length/\vj y=true:=by
    intro y t ha;have hlen:∀(k st:Nat),y= .mk k st []->t.length<s.length->pI y+2*t.length+1<=2*s.length:=fun k st hy ht=>by subst hy;simp only[pI,gR];omega
    unfold fH at ha;split at ha
    · cases ha
    · rename_i c u;split at ha
      · split at ha
        · cases ha
        · rename_i n t' ht;split at ha
          · rename_i t'' _;cases ha;have:=hr _ _ _ ht;simp only[List.length_cons] at this ⊢;exact⟨by omega,this.2⟩
          · cases ha
      · split at ha
        · have hb:=sE ha
          have hy:∃st,y= .mk 1 st []:=by
            unfold iP at ha;split at ha<;>(simp only[Option.map_eq_some_iff] at ha;obtain⟨⟨m,r'⟩,_,h2⟩:=ha;cases h2;exact⟨_,rfl⟩)
          obtain⟨st,rfl⟩:=hy;exact⟨hlen _ _ rfl (by simp only[List.length_cons];omega),leaf _ _ (.inr rfl)⟩
        · split at ha
          · cases ha;exact⟨hlen _ _ rfl (by simp),leaf _ _ (.inr rfl)⟩
          · split at ha
            · simp only[Option.map_eq_some_iff] at ha;obtain⟨⟨b,r'⟩,h1,h2⟩:=ha;have:=xl h1;cases h2;exact⟨hlen _ _ rfl (by simp only[List.length_cons];omega),leaf _ _ (.inr rfl)⟩
            · split at ha
              · cases ha
              · cases ha;exact⟨hlen _ _ rfl (by simp),leaf _ _ (.inr rfl)⟩
  unfold gC at h;simp only[Option.map_eq_some_iff] at h;obtain⟨⟨n,t⟩,h1,h2⟩:=h;have h3:=key n t h1;have h4:=tN t n h3.2;rw[h2] at h4;simp only at h4;exact⟨by omega,h4.2⟩
theorem nL {rows:By->Option (Nd×By)}(hr:∀s,Small s (rows s)):∀(n:Nat) (all row:List Nd) (s:By) (x:Nd) (r:By),vk all=true->vk row=true->jf rows n all row s=some (x,r) ->
    pI x+2*r.length<=2*s.length+1+gR all+gR row+(if all=[] then 0 else 1)/\vj x=true
  | 0,_,_,_,_,_,_,_,h=>by cases h
  |n+1,all,row,s,x,r,hwa,hwr,h=>by
    rw[jf] at h;split at h
    · split at h
      · rename_i hbar;have hs:s.tail.length+1=s.length:=by cases s with|nil=>cases hbar|cons a b=>simp
        have hw':vk (all++[bT 2 row])=true:=by rw[lU,hwa];simp[vk,zZ (.inl rfl) hwr]
        have ih:=nL hr n _ _ _ _ _ hw' (by rfl) h;have hj:=Ah 2 row;have ha:gR (all++[bT 2 row])=gR all+pI (bT 2 row):=by rw[ir];simp[gR]
        rw[ha] at ih;refine⟨?_,ih.2⟩;have h1:=ih.1;rw[if_neg (by simp)] at h1;simp only[gR] at h1;omega
      · cases h;have hj:=Ah 2 row;have hj3:=Ah 3 (all++[bT 2 row]);have ha:gR (all++[bT 2 row])=gR all+pI (bT 2 row):=by rw[ir];simp[gR]
        refine⟨?_,zZ (.inr rfl) (by rw[lU,hwa];simp[vk,zZ (.inl rfl) hwr])⟩;split
        · rename_i he;subst he;have:bT 3 ([]++[bT 2 row])=bT 2 row:=rfl;rw[this];simp only[gR] at *;omega
        · rw[ha] at hj3;omega
    · split at h
      · cases h
      · rename_i y t ht;have h1:=B4 hr ht;have ih:=nL hr n all (row++[y]) t x r hwa (by rw[lU,hwr];simp[vk,h1.2]) h;have ha:gR (row++[y])=gR row+pI y:=by rw[ir];simp[gR]
        rw[ha] at ih;exact⟨by have:=ih.1;omega,ih.2⟩
theorem tP:∀(d:Nat) (s:By),Small s (dV d s)
  | 0,s=>fun x r h=>by cases h
  |d+1,s=>fun x r h=>by
    have:=nL (fun s=>tP d s) _ _ _ _ _ _ rfl rfl h;simpa [gR] using this
theorem AD {s:By}{x:Nd}(h:kM s=some x):pI x<=2*s.length+1/\vj x=true:=by
  unfold kM at h;split at h
  · rename_i n hn;cases h;have:=tP _ _ _ _ hn;simpa using this
  · cases h
theorem Cx {l:List Nd}{x:Nd}(hx:l[i]? =some x) (ss:List bA) (to:Nat):bz (l.drop i) ss to=lay x (bz (l.drop (i+1)) ss to).1 (bz (l.drop (i+1)) ss to).2:=by
  obtain⟨hi,rfl⟩:=List.getElem?_eq_some_iff.1 hx;rw[List.drop_eq_getElem_cons hi,bz]
theorem nY:∀(l:List Nd) (ss:List bA) (to:Nat),(aT l ss to).2.length=l.length
  | [],ss,to=>by simp[aT]
  |x::r,ss,to=>by rw[aT];simp[nY r]
end
mutual
theorem mg:∀(x:Nd) (ss:List bA) (to i:Nat),i<ss.length->(lay x ss to).1[i]? =ss[i]?
  |.mk k s kids,ss,to,i,hi=>by
    rw[lay];split
    · simp[List.getElem?_append_left hi]
    · split
      · exact wH kids ss to i hi
      · split
        · have:=fE kids ss to;simp only;rw[List.getElem?_append_left (by omega)];exact qD kids ss to i hi
        · split
          · have:=gG kids ss to;simp only;rw[List.getElem?_append_left (by omega)];exact qC kids ss to i hi
          · split
            · simp only;rw[List.getElem?_set_ne (by omega),qC kids (ss++[(⟨0,0,[],0⟩:bA)]) ss.length i (by simp;omega),List.getElem?_append_left hi]
            · rfl
theorem wH:∀(l:List Nd) (ss:List bA) (to i:Nat),i<ss.length->(bz l ss to).1[i]? =ss[i]?
  | [],ss,to,i,hi=>by simp[bz]
  |x::r,ss,to,i,hi=>by
    rw[bz];have h1:=jH r ss to;rw[mg x _ _ i (by omega),wH r ss to i hi]
theorem qD:∀(l:List Nd) (ss:List bA) (to i:Nat),i<ss.length->(aT l ss to).1[i]? =ss[i]?
  | [],ss,to,i,hi=>by simp[aT]
  |x::r,ss,to,i,hi=>by
    rw[aT];have h1:=gj x ss to;simp only;rw[qD r _ _ i (by omega),mg x ss to i hi]
theorem qC:∀(l:List Nd) (ss:List bA) (to i:Nat),i<ss.length->(bS l ss to).1[i]? =ss[i]?
  | [],ss,to,i,hi=>by simp[bS]
  |x::r,ss,to,i,hi=>by
    rw[bS];exact mg x ss to i hi
end
section
variable {k i n to st:Nat}{fin:Nat->Prop}{todo:List Nat}
theorem HY {l:List Nd}{x:Nd}(hx:l[i]? =some x):gR (l.take i)+pI x<=gR l:=by
  obtain⟨hi,rfl⟩:=List.getElem?_eq_some_iff.1 hx;have h:gR (l.take i++l.drop i)=gR l:=by rw[List.take_append_drop]
  rw[ir,List.drop_eq_getElem_cons hi,gR] at h;omega
theorem HZ {l:List Nd}{x:Nd}(hx:l[i]? =some x):gR (l.drop (i+1))+pI x<=gR l:=by
  obtain⟨hi,rfl⟩:=List.getElem?_eq_some_iff.1 hx;have h:gR (l.take i++l.drop i)=gR l:=by rw[List.take_append_drop]
  rw[ir,List.drop_eq_getElem_cons hi,gR] at h;omega
theorem E6:∀l:List Nd,l.length<=gR l
  | []=>by simp[gR]
  |x::l=>by have:=E6 l;have:=E5 x;simp only[List.length_cons,gR];omega
def tR:List bA->List Bool->Nat
  |x::r,b::s=>(if b then 0 else x.to.length+1)+tR r s
  |_,_=>0
def jh (ss:List bA):Nat->List Nat->List Bool->List Bool
  | 0,_,seen=>seen
  |n+1,todo,seen =>
    match todo.getLast? with
    |none=>seen
    |some i =>
      if seen[i]? =some true then jh ss n todo.dropLast seen
      else jh ss n (match ss[i]? with|some x=>if x.kind=0 then todo.dropLast++x.to else todo.dropLast|none=>todo.dropLast) (seen.set i true)
def closed (ss:List bA) (todo:List Nat):List Nat :=
  if todo.length=0 then []
  else ((List.range ss.length).filter fun i=>(jh ss (todo.length+tR ss (List.replicate ss.length false)) todo (List.replicate ss.length false))[i]? ==some true && (ss[i]?.map (·.kind)) !=some 0)
theorem AA:∀(ss:List bA) (seen:List Bool) (i:Nat) (x:bA),ss[i]? =some x->seen[i]? =some false->tR ss (seen.set i true)+(x.to.length+1)=tR ss seen
  | [],_,_,_,h,_=>by simp at h
  |_::_,[],_,_,_,h=>by simp at h
  |y::r,b::s,0,x,h1,h2=>by
    simp at h1 h2;subst h1 h2;simp[tR];omega
  |y::r,b::s,i+1,x,h1,h2=>by
    have:=AA r s i x (by simpa using h1) (by simpa using h2);simp only[List.set_cons_succ,tR];omega
def Good (ss:List bA):Prop:=∀x∈ss,∀j∈x.to,j<ss.length
def bX (ss:List bA) (st:Nat):List Nat:=if ss.length=0 then [] else closed ss [st]
def sK (x:bA) (b:Int):Bool:=decide (x.kind=2/\(b<0\/(x.rule:Int)<b))
def sL (ss:List bA):List Nat->Int->Int
  | [],b=>b
  |j::r,b=>sL ss r (match ss[j]? with|some x=>if sK x b then x.rule else b|none=>b)
def bh (ss:List bA) (now:List Nat):Int:=if ss.length=0 then -1 else sL ss now (-1)
def jz (x:bA) (c:UInt8):Bool:=decide (x.kind=1) && x.set.testBit c.toNat
def stepG (ss:List bA) (c:UInt8):List Nat->List Nat->List Nat
  | [],a=>a
  |j::r,a=>stepG ss c r (match ss[j]? with|some x=>if jz x c then a++x.to else a|none=>a)
def cB (ss:List bA) (c:UInt8) (now:List Nat):List Nat:=if ss.length=0 then [] else closed ss (stepG ss c now [])
theorem sW (ss:List bA) (c:UInt8):∀(l a:List Nat),a.length<=(stepG ss c l a).length
  | [],a=>Nat.le_refl _
  |j::r,a=>by
    rw[stepG];refine Nat.le_trans ?_ (sW ss c r _);split
    · split<;>simp
    · exact Nat.le_refl _
def jD (ss:List bA):List UInt8->List Nat->Nat->Int×Int->Int×Int
  |l,now,k,b =>
    if now.length=0 then b
    else match l with
      | []=>if 0<=bh ss now then ((k:Int),bh ss now) else b
      |c::r=>jD ss r (cB ss c now) (k+1) (if 0<=bh ss now then ((k:Int),bh ss now) else b)
def cX (ss:List bA) (st:Nat) (l:List UInt8):Int×Int:=if ss.length=0 then (0,-1) else jD ss l (bX ss st) 0 (0,-1)
def D3 (ss:List bA) (st:Nat) (s:By) (a:Int):Int×Int:=if ss.length=0\/a<0\/(s.length:Int)<a then (0,-1) else cX ss st (s.drop a.toNat)
theorem wk {ss:List bA}{l:List UInt8}{now:List Nat}{b:Int×Int}(h:now.length=0):jD ss l now k b=b:=by cases l<;>(rw[jD];exact if_pos h)
theorem DG (ss:List bA) (st:Nat):(bX ss st).Sublist (List.range ss.length):=by
  unfold bX closed;split
  · exact List.nil_sublist _
  · split
    · exact List.nil_sublist _
    · exact List.filter_sublist
theorem F8 (ss:List bA) (c:UInt8) (now:List Nat):(cB ss c now).Sublist (List.range ss.length):=by
  unfold cB closed;split
  · exact List.nil_sublist _
  · split
    · exact List.nil_sublist _
    · exact List.filter_sublist
def lB:Nat->List By->List bA->List Nat->Int ⊕ (List bA×List Nat)
  |_,[],ss,t=>.inr (ss,t)
  |i,s::r,ss,t=>if (bG s).2≠0 then .inl (bG s).2 else lB (i+1) r (lay (bG s).1 (ss++[⟨2,0,[],i⟩]) ss.length).1 (t++[(lay (bG s).1 (ss++[⟨2,0,[],i⟩]) ss.length).2])
def yy (l:List By):Nat:=(l.map List.length).sum
def fh (rules:List By):Int ⊕ (List bA×Nat) :=
  if rules.length=0\/64<rules.length then .inl 2
  else match lB 0 rules [] [] with
    |.inl e=>.inl e
    |.inr (ss,t)=>if 2000<yy rules then .inl 70 else .inr (ss++[⟨0,0,t,0⟩],ss.length)
theorem rO {s:By}(h0:(bG s).2=0):pI (bG s).1<=401/\vj (bG s).1=true/\s.length<=200:=by
  unfold bG at *;split at h0
  · cases h0
  · rename_i hl;rw[if_neg hl];split at h0
    · rename_i x hx;have:=AD hx;exact⟨by show pI x<=401;omega,this.2,by omega⟩
    · cases h0
theorem yU {l:List By}{s:By}(hx:l[i]? =some s):yy (l.take (i+1))=yy (l.take i)+s.length:=by
  rw[List.take_add_one,hx,Option.toList_some];simp[yy]
inductive zV (A:By->Prop):By->Prop where
  |nil:zV A []
  |cons {u v:By}:A u->zV A v->zV A (u++v)
end
mutual
def Kc:Nd->By->Prop
  |.mk k s kids=>fun w =>
    if k=1 then ∃c:UInt8,w=[c]/\s.testBit c.toNat=true
    else if k=2 then yj kids w
    else if k=3 then tJ kids w
    else if k=6 then w=[]\/qW kids w
    else if k=4 then zV (qW kids) w
    else if k=5 then ∃u v,w=u++v/\qW kids u/\zV (qW kids) v
    else w=[]
def yj:List Nd->By->Prop
  | []=>fun w=>w=[]
  |x::r=>fun w=>∃u v,w=u++v/\Kc x u/\yj r v
def tJ:List Nd->By->Prop
  | []=>fun _=>False
  |x::r=>fun w=>Kc x w\/tJ r w
def qW:List Nd->By->Prop
  | []=>fun w=>w=[]
  |x::_=>fun w=>Kc x w
end
section
variable {k i n to st:Nat}{fin:Nat->Prop}{todo:List Nat}
inductive Acc (F:List bA) (fin:Nat->Prop):Nat->Nat->By->Prop where
  |done {q:Nat}:fin q->Acc F fin 0 q []
  |eps {n q q':Nat}{x:bA}{w:By}:F[q]? =some x->x.kind=0->q'∈x.to->Acc F fin n q' w->Acc F fin (n+1) q w
  |eat {n q q':Nat}{x:bA}{c:UInt8}{w:By}:F[q]? =some x->x.kind=1->x.set.testBit c.toNat=true->q'∈x.to->Acc F fin n q' w->Acc F fin (n+1) q (c::w)
def lP (F:List bA) (fin:Nat->Prop):Prop:=∀q,fin q->∃x,F[q]? =some x/\x.kind=2
theorem Acc.fork {F:List bA}(hf:lP F fin){q:Nat}{x:bA}{w:By}(hx:F[q]? =some x) (hk:x.kind=0) (h:Acc F fin n q w):∃m q',m<n/\q'∈x.to/\Acc F fin m q' w:=by
  cases h with
  |done hq=>obtain⟨y,hy,hk2⟩:=hf _ hq;rw[hx] at hy;cases hy;omega
  |eps hy _ hq h=>rw[hx] at hy;cases hy;exact⟨_,_,Nat.lt_succ_self _,hq,h⟩
  |eat hy hk1 _ _ _=>rw[hx] at hy;cases hy;omega
theorem Acc.P3 {F:List bA}(hf:lP F fin){q:Nat}{x:bA}{w:By}(hx:F[q]? =some x) (hk:x.kind=1) (h:Acc F fin n q w):∃m q' c w',m<n/\w=c::w'/\x.set.testBit c.toNat=true/\q'∈x.to/\Acc F fin m q' w':=by
  cases h with
  |done hq=>obtain⟨y,hy,hk2⟩:=hf _ hq;rw[hx] at hy;cases hy;omega
  |eps hy hk1 _ _=>rw[hx] at hy;cases hy;omega
  |eat hy _ hc hq h=>rw[hx] at hy;cases hy;exact⟨_,_,_,_,Nat.lt_succ_self _,rfl,hc,hq,h⟩
def Splits (F:List bA) (fin:Nat->Prop) (b to:Nat) (A:By->Prop):Prop :=
  (∀n w,Acc F fin n b w->∃u v m,w=u++v/\A u/\m<=n/\Acc F fin m to v)/\(∀u v m,A u->Acc F fin m to v->∃n,Acc F fin n b (u++v))
def Hy (F ss':List bA) (lo:Nat):Prop:=∀i,lo<=i->i<ss'.length->F[i]? =ss'[i]?
theorem qq {F:List bA}:Splits F fin to to (fun w=>w=[]) :=
  ⟨fun n w h=>⟨[],w,n,rfl,rfl,Nat.le_refl _,h⟩,fun u v m hu h=>⟨m,by subst hu;exact h⟩⟩
theorem BM {F:List bA}(hf:lP F fin){first again:Nat}{A:By->Prop}{x:bA}(hx:F[again]? =some x) (hk:x.kind=0) (ht:x.to=[first,to]) (h:Splits F fin first again A):Splits F fin again to (zV A):=by
  constructor
  · intro n
    induction n using Nat.strongRecOn with
    |_ n ih =>
      intro w hw;obtain⟨m,q',hm,hq,hw'⟩:=hw.fork hf hx hk;rw[ht] at hq
      rcases List.mem_cons.1 hq with rfl|hq
      · obtain⟨u1,v1,m1,rfl,hu1,hm1,hv1⟩:=h.1 _ _ hw';obtain⟨u2,v2,m2,rfl,hu2,hm2,hv2⟩:=ih m1 (by omega) _ hv1;exact⟨u1++u2,v2,m2,by simp,.cons hu1 hu2,by omega,hv2⟩
      · have:q'=to:=by simpa using hq
        subst this;exact⟨[],w,m,rfl,.nil,by omega,hw'⟩
  · intro u v m hu hv
    induction hu with
    |nil=>exact⟨m+1,.eps hx hk (by rw[ht];simp) hv⟩
    |cons hA _ ih =>
      obtain⟨n,hn⟩:=ih;obtain⟨n',hn'⟩:=h.2 _ _ _ hA hn;exact⟨n'+1,.eps (q':=first) hx hk (by rw[ht];simp) (by rw[List.append_assoc];exact hn')⟩
theorem vC {F:List bA}{b c:Nat}{A B:By->Prop}(h1:Splits F fin b c A) (h2:Splits F fin c to B):Splits F fin b to (fun w=>∃u v,w=u++v/\A u/\B v):=by
  constructor
  · intro n w hw;obtain⟨u1,v1,m1,rfl,hu1,hm1,hv1⟩:=h1.1 _ _ hw;obtain⟨u2,v2,m2,rfl,hu2,hm2,hv2⟩:=h2.1 _ _ hv1;exact⟨u1++u2,v2,m2,by simp,⟨_,_,rfl,hu1,hu2⟩,by omega,hv2⟩
  · rintro u v m ⟨u1,u2,rfl,hA,hB⟩ hv;obtain⟨n,hn⟩:=h2.2 _ _ _ hB hv;obtain⟨n',hn'⟩:=h1.2 _ _ _ hA hn;exact⟨n',by rw[List.append_assoc];exact hn'⟩
end
mutual
theorem me {F:List bA}{fin:Nat->Prop}(hf:lP F fin):∀(x:Nd) (ss:List bA) (to:Nat),Hy F (lay x ss to).1 ss.length->Splits F fin (lay x ss to).2 to (Kc x)
  |.mk k s kids,ss,to,hs=>by
    rw[lay] at hs ⊢;unfold Kc
    by_cases h1:k=1
    · simp only[if_pos h1] at hs ⊢;have hx:F[ss.length]? =some ⟨1,s,[to],0⟩:=by rw[hs _ (Nat.le_refl _) (by simp)];simp
      constructor
      · intro n w hw;obtain⟨m,q',c,w',hm,rfl,hc,hq,hw'⟩:=hw.P3 hf hx rfl;have:q'=to:=by simpa using hq
        subst this;exact⟨[c],w',m,rfl,⟨c,rfl,hc⟩,by omega,hw'⟩
      · rintro u v m ⟨c,rfl,hc⟩ hv;exact⟨m+1,.eat hx rfl hc (by simp) hv⟩
    · simp only[if_neg h1] at hs ⊢
      by_cases h2:k=2
      · simp only[if_pos h2] at hs ⊢;exact p0 hf kids ss to hs
      · simp only[if_neg h2] at hs ⊢
        by_cases h3:k=3
        · simp only[if_pos h3] at hs ⊢;have hl:=fE kids ss to;have hx:F[(aT kids ss to).1.length]? =some ⟨0,0,(aT kids ss to).2,0⟩:=by rw[hs _ (by omega) (by simp)];simp
          have ih:=p5 hf kids ss to (fun i h1 h2=>by rw[hs i h1 (by simp;omega),List.getElem?_append_left h2]);constructor
          · intro n w hw;obtain⟨m,q',hm,hq,hw'⟩:=hw.fork hf hx rfl;obtain⟨u,v,m',hu⟩:=ih.1 _ _ _ hq hw';exact⟨u,v,m',hu.1,hu.2.1,by omega,hu.2.2.2⟩
          · intro u v m hu hv;obtain⟨n,q',hq,hn⟩:=ih.2 _ _ _ hu hv;exact⟨n+1,.eps hx rfl hq hn⟩
        · simp only[if_neg h3] at hs ⊢
          by_cases h6:k=6
          · simp only[if_pos h6] at hs ⊢;have hl:=gG kids ss to;have hx:F[(bS kids ss to).1.length]? =some ⟨0,0,[(bS kids ss to).2,to],0⟩:=by rw[hs _ (by omega) (by simp)];simp
            have ih:=pZ hf kids ss to (fun i h1 h2=>by rw[hs i h1 (by simp;omega),List.getElem?_append_left h2]);constructor
            · intro n w hw;obtain⟨m,q',hm,hq,hw'⟩:=hw.fork hf hx rfl
              rcases List.mem_cons.1 hq with rfl|hq
              · obtain⟨u,v,m',h1,h2,h3,h4⟩:=ih.1 _ _ hw';exact⟨u,v,m',h1,.inr h2,by omega,h4⟩
              · have:q'=to:=by simpa using hq
                subst this;exact⟨[],w,m,rfl,.inl rfl,by omega,hw'⟩
            · rintro u v m (rfl|hu) hv
              · exact⟨m+1,.eps hx rfl (by simp) hv⟩
              · obtain⟨n,hn⟩:=ih.2 _ _ _ hu hv;exact⟨n+1,.eps hx rfl (by simp) hn⟩
          · simp only[if_neg h6] at hs ⊢
            by_cases h45:k=4\/k=5
            · simp only[if_pos h45] at hs ⊢;have hl:=gG kids (ss++[⟨0,0,[],0⟩]) ss.length;simp only[List.length_append,List.length_singleton] at hl
              have hx:F[ss.length]? =some ⟨0,0,[(bS kids (ss++[⟨0,0,[],0⟩]) ss.length).2,to],0⟩:=by
                rw[hs _ (Nat.le_refl _) (by simp;omega)];simp[List.getElem?_set];omega
              have ih:=pZ hf kids (ss++[⟨0,0,[],0⟩]) ss.length (fun i h1 h2=>by
                simp only[List.length_append,List.length_singleton] at h1;rw[hs i (by omega) (by simp;omega),List.getElem?_set_ne (by omega)])
              have hst:=BM hf hx rfl rfl ih
              by_cases h4:k=4
              · have h5:¬k=5:=by omega
                simp only[if_pos h4,if_neg h5];exact hst
              · have h5:k=5:=by omega
                simp only[if_neg h4,if_pos h5];exact vC ih hst
            · simp only[if_neg h45] at hs ⊢;have h4:¬k=4:=fun e=>h45 (.inl e)
              have h5:¬k=5:=fun e=>h45 (.inr e)
              simp only[if_neg h4,if_neg h5];exact qq
theorem p0 {F:List bA}{fin:Nat->Prop}(hf:lP F fin):∀(l:List Nd) (ss:List bA) (to:Nat),Hy F (bz l ss to).1 ss.length->Splits F fin (bz l ss to).2 to (yj l)
  | [],ss,to,hs=>by
    rw[bz];unfold yj;exact qq
  |x::r,ss,to,hs=>by
    rw[bz] at hs ⊢;unfold yj;have hl:=jH r ss to;have hl2:=gj x (bz r ss to).1 (bz r ss to).2;have h2:=p0 hf r ss to (fun i h1 h2=>by rw[hs i h1 (by omega),mg x _ _ i h2]);have h1:=me hf x (bz r ss to).1 (bz r ss to).2 (fun i h1 h2=>hs i (by omega) h2);exact vC h1 h2
theorem p5 {F:List bA}{fin:Nat->Prop}(hf:lP F fin):∀(l:List Nd) (ss:List bA) (to:Nat),Hy F (aT l ss to).1 ss.length ->
    (∀n q w,q∈(aT l ss to).2->Acc F fin n q w->∃u v m,w=u++v/\tJ l u/\m<=n/\Acc F fin m to v)/\(∀u v m,tJ l u->Acc F fin m to v->∃n q,q∈(aT l ss to).2/\Acc F fin n q (u++v))
  | [],ss,to,hs=>by
    rw[aT];unfold tJ;exact⟨fun n q w h=>absurd h List.not_mem_nil,fun u v m h=>False.elim h⟩
  |x::r,ss,to,hs=>by
    rw[aT] at hs ⊢;unfold tJ;have hl:=gj x ss to;have hl2:=fE r (lay x ss to).1 to;have h1:=me hf x ss to (fun i h1 h2=>by rw[hs i h1 (by simp only;omega)];exact qD r _ _ i h2);have h2:=p5 hf r (lay x ss to).1 to (fun i h1 h2=>hs i (by omega) h2);constructor
    · intro n q w hq hw
      rcases List.mem_cons.1 hq with rfl|hq
      · obtain⟨u,v,m,a,b,c,d⟩:=h1.1 _ _ hw;exact⟨u,v,m,a,.inl b,c,d⟩
      · obtain⟨u,v,m,a,b,c,d⟩:=h2.1 _ _ _ hq hw;exact⟨u,v,m,a,.inr b,c,d⟩
    · rintro u v m (hu|hu) hv
      · obtain⟨n,hn⟩:=h1.2 _ _ _ hu hv;exact⟨n,_,List.mem_cons_self,hn⟩
      · obtain⟨n,q,hq,hn⟩:=h2.2 _ _ _ hu hv;exact⟨n,q,List.mem_cons_of_mem _ hq,hn⟩
theorem pZ {F:List bA}{fin:Nat->Prop}(hf:lP F fin):∀(l:List Nd) (ss:List bA) (to:Nat),Hy F (bS l ss to).1 ss.length->Splits F fin (bS l ss to).2 to (qW l)
  | [],ss,to,hs=>by
    rw[bS];unfold qW;exact qq
  |x::r,ss,to,hs=>by
    rw[bS] at hs ⊢;unfold qW;exact me hf x ss to hs
end
section
variable {k i n to st:Nat}{fin:Nat->Prop}{todo:List Nat}
inductive J4 (ss:List bA):Nat->Nat->Prop where
  |refl (i:Nat):J4 ss i i
  |step {i j k:Nat}{x:bA}:ss[i]? =some x->x.kind=0->j∈x.to->J4 ss j k->J4 ss i k
theorem J4.snoc {ss:List bA}{j:Nat}{x:bA}(h:J4 ss i j) (hx:ss[j]? =some x) (hk:x.kind=0) (ht:k∈x.to):J4 ss i k:=by
  induction h with
  |refl=>exact .step hx hk ht (.refl _)
  |step a b c _ ih=>exact .step a b c (ih hx)
structure J5 (ss:List bA) (T todo:List Nat) (seen:List Bool):Prop where
  len:seen.length=ss.length
  inn:∀j∈todo,j<ss.length
  sound:∀i,(seen[i]? =some true\/i∈todo)->∃t∈T,J4 ss t i
  cl:∀(i:Nat) (x:bA),seen[i]? =some true->ss[i]? =some x->x.kind=0->∀j∈x.to,seen[j]? =some true\/j∈todo
  all:∀t∈T,seen[t]? =some true\/t∈todo
theorem Ed {l:List Nat}(h:l.getLast? =some i):l=l.dropLast++[i]:=by
  obtain⟨h0,rfl⟩:=List.getLast?_eq_some_iff.1 h;simp
theorem tD {ss:List bA}{T:List Nat}(hg:Good ss):∀(n:Nat) (todo:List Nat) (seen:List Bool),todo.length+tR ss seen<=n->J5 ss T todo seen->J5 ss T [] (jh ss n todo seen)
  | 0,todo,seen,hn,k=>by
    have:todo=[]:=List.length_eq_zero_iff.1 (by omega);subst this;exact k
  |n+1,todo,seen,hn,k=>by
    unfold jh;split
    · rename_i h;have:todo=[]:=List.getLast?_eq_none_iff.1 h;subst this;exact k
    · rename_i i h;have hsp:=Ed h;have hlen:todo.length=todo.dropLast.length+1:=by rw[hsp];simp
      have hi:i∈todo:=by rw[hsp];simp
      have hmem:∀j,j∈todo->j∈todo.dropLast\/j=i:=fun j hj=>by rw[hsp] at hj;simpa using hj
      have hsub:∀j,j∈todo.dropLast->j∈todo:=fun j hj=>by rw[hsp];simp[hj]
      split
      · rename_i hs;refine tD hg n _ _ (by omega) ⟨k.len,fun j hj=>k.inn j (hsub j hj),fun j hj=>k.sound j (hj.imp id (hsub j)),fun j x a b c d e=>?_,fun t ht=>?_⟩
        · rcases k.cl j x a b c d e with h1|h1
          · exact .inl h1
          · rcases hmem d h1 with h2|rfl
            · exact .inr h2
            · exact .inl hs
        · rcases k.all t ht with h1|h1
          · exact .inl h1
          · rcases hmem t h1 with h2|rfl
            · exact .inr h2
            · exact .inl hs
      · rename_i hs;have hil:=k.inn i hi;obtain⟨x,hx⟩:∃x,ss[i]? =some x:=⟨_,List.getElem?_eq_getElem hil⟩
        have hf:seen[i]? =some false:=by
          obtain⟨b,hb⟩:∃b,seen[i]? =some b:=⟨_,List.getElem?_eq_getElem (by rw[k.len];exact hil)⟩
          cases b
          · exact hb
          · exact absurd hb hs
        have hp:=AA ss seen i x hx hf;have hself:(seen.set i true)[i]? =some true:=by rw[List.getElem?_set_self (by rw[k.len];exact hil)]
        have hset:∀j,seen[j]? =some true->(seen.set i true)[j]? =some true:=fun j hj=>by
          by_cases e:i=j
          · subst e;exact hself
          · rw[List.getElem?_set_ne e];exact hj
        have hget:∀j,(seen.set i true)[j]? =some true->j=i\/seen[j]? =some true:=fun j hj=>by
          by_cases e:i=j
          · exact .inl e.symm
          · rw[List.getElem?_set_ne e] at hj;exact .inr hj
        rw[hx];simp only;obtain⟨t0,Nn,he0⟩:=k.sound i (.inr hi);have hxm:x∈ss:=List.mem_of_getElem? hx;generalize hnew:(if x.kind=0 then todo.dropLast++x.to else todo.dropLast)=new
        have hin:∀j,j∈new->j∈todo.dropLast\/(x.kind=0/\j∈x.to):=fun j hj=>by
          subst hnew;split at hj
          · rename_i hk
            rcases List.mem_append.1 hj with h1|h1
            · exact .inl h1
            · exact .inr ⟨hk,h1⟩
          · exact .inl hj
        have hold:∀j,j∈todo.dropLast->j∈new:=fun j hj=>by
          subst hnew;split
          · exact List.mem_append_left _ hj
          · exact hj
        have hbig:new.length<=todo.dropLast.length+x.to.length:=by
          subst hnew;split<;>simp
        refine tD hg n _ _ (by omega) ⟨by rw[List.length_set];exact k.len,fun j hj=>?_,fun j hj=>?_,fun j y a b c d e=>?_,fun t ht=>?_⟩
        · rcases hin j hj with h1|⟨_,h1⟩
          · exact k.inn j (hsub j h1)
          · exact hg x hxm j h1
        · rcases hj with h1|h1
          · rcases hget j h1 with rfl|h2
            · exact⟨t0,Nn,he0⟩
            · exact k.sound j (.inl h2)
          · rcases hin j h1 with h2|⟨hk,h2⟩
            · exact k.sound j (.inr (hsub j h2))
            · exact⟨t0,Nn,he0.snoc hx hk h2⟩
        · rcases hget j a with rfl|a
          · rw[hx] at b;cases b;refine .inr ?_;rw[if_pos c] at hnew;subst hnew;exact List.mem_append_right _ e
          · rcases k.cl j y a b c d e with h1|h1
            · exact .inl (hset d h1)
            · rcases hmem d h1 with h2|rfl
              · exact .inr (hold d h2)
              · exact .inl hself
        · rcases k.all t ht with h1|h1
          · exact .inl (hset t h1)
          · rcases hmem t h1 with h2|rfl
            · exact .inr (hold t h2)
            · exact .inl hself
theorem qR {ss:List bA}(hg:Good ss) (ht:∀j∈todo,j<ss.length) (j:Nat):j∈closed ss todo↔∃x,ss[j]? =some x/\x.kind≠0/\∃t∈todo,J4 ss t j:=by
  unfold closed;split
  · rename_i h;have:todo=[]:=List.length_eq_zero_iff.1 h;subst this;simp
  · have h0:∀i:Nat,(List.replicate ss.length false)[i]? ≠some true:=fun i hi=>by rw[List.getElem?_replicate] at hi;split at hi<;>cases hi
    have hi0:J5 ss todo todo (List.replicate ss.length false):=⟨by simp,ht,fun i hi=>hi.elim (fun hi=>absurd hi (h0 i)) fun hi=>⟨i,hi,.refl i⟩,fun i x hi=>absurd hi (h0 i),fun t h=>.inr h⟩
    have hi:=tD hg (todo.length+tR ss (List.replicate ss.length false)) todo _ (Nat.le_refl _) hi0;generalize jh ss (todo.length+tR ss (List.replicate ss.length false)) todo (List.replicate ss.length false)=out at hi;simp only[List.mem_filter,List.mem_range,Bool.and_eq_true,bne_iff_ne,ne_eq];constructor
    · rintro⟨hj,h1,h2⟩;obtain⟨x,hx⟩:∃x,ss[j]? =some x:=⟨_,List.getElem?_eq_getElem hj⟩
      rw[hx] at h2;have h1:out[j]? =some true:=by simpa using h1
      exact⟨x,hx,by simpa using h2,hi.sound j (.inl h1)⟩
    · rintro⟨x,hx,hk,t,ht',he⟩
      have key:∀a b,J4 ss a b->out[a]? =some true->out[b]? =some true:=by
        intro a b he
        induction he with
        |refl=>exact id
        |step hy hk hm _ ih =>
          intro ha;refine ih ?_
          rcases hi.cl _ _ ha hy hk _ hm with h1|h1
          · exact h1
          · cases h1
      have h1:=key _ _ he (by
        rcases hi.all t ht' with h1|h1
        · exact h1
        · cases h1)
      refine⟨(List.getElem?_eq_some_iff.1 hx).1,by rw[h1];rfl,by rw[hx];simpa using hk⟩
theorem Acc.through {ss:List bA}{j:Nat}(h:J4 ss i j){w:By}(k:Acc ss fin n j w):∃m,Acc ss fin m i w:=by
  induction h with
  |refl=>exact⟨n,k⟩
  |step a b c _ ih=>obtain⟨m,hm⟩:=ih k;exact⟨m+1,.eps a b c hm⟩
theorem Acc.stop {ss:List bA}(hf:lP ss fin){w:By}(k:Acc ss fin n i w):∃j x,J4 ss i j/\ss[j]? =some x/\x.kind≠0/\∃m,Acc ss fin m j w:=by
  induction k with
  |done hq=>obtain⟨x,hx,hk⟩:=hf _ hq;exact⟨_,x,.refl _,hx,by omega,_,.done hq⟩
  |eps a b c _ ih=>obtain⟨j,x,he,hr⟩:=ih;exact⟨j,x,.step a b c he,hr⟩
  |eat a b c d e _=>exact⟨_,_,.refl _,a,by omega,_,.eat a b c d e⟩
def yQ (ss:List bA) (fin:Nat->Prop) (T:List Nat) (w:By):Prop:=∃j∈T,∃n,Acc ss fin n j w
theorem xG {ss:List bA}(hf:lP ss fin) (hg:Good ss) (ht:∀j∈todo,j<ss.length) (w:By):yQ ss fin (closed ss todo) w↔yQ ss fin todo w:=by
  constructor
  · rintro⟨j,hj,n,h⟩;obtain⟨x,hx,hk,t,ht',he⟩:=(qR hg ht j).1 hj;exact⟨t,ht',h.through he⟩
  · rintro⟨t,ht',n,h⟩;obtain⟨j,x,he,hx,hk,hm⟩:=h.stop hf;exact⟨j,(qR hg ht j).2 ⟨x,hx,hk,t,ht',he⟩,hm⟩
theorem oU (ss:List bA) (c:UInt8) (k:Nat):∀(l a:List Nat),k∈stepG ss c l a↔k∈a\/∃j∈l,∃x,ss[j]? =some x/\jz x c=true/\k∈x.to
  | [],a=>by simp[stepG]
  |j::r,a=>by
    rw[stepG,oU ss c k r];cases hx:ss[j]? with
    |none=>simp[hx]
    |some x =>
      simp only;cases ho:jz x c with
      |true=>simp[hx,ho,or_assoc]
      |false=>simp[hx,ho]
def Flat (ss:List bA) (T:List Nat):Prop:=∀j∈T,∃x,ss[j]? =some x/\x.kind≠0
theorem oB {ss:List bA}(hg:Good ss) (ht:∀j∈todo,j<ss.length):Flat ss (closed ss todo):=fun j hj=>by
  obtain⟨x,hx,hk,_⟩:=(qR hg ht j).1 hj;exact⟨x,hx,hk⟩
theorem BH {ss:List bA}(hg:Good ss) (c:UInt8) (T:List Nat):∀j∈stepG ss c T [],j<ss.length:=fun j hj=>by
  rcases (oU ss c j T []).1 hj with h|⟨i,_,x,hx,_,hm⟩
  · cases h
  · exact hg x (List.mem_of_getElem? hx) j hm
theorem vB {ss:List bA}(hg:Good ss) (c:UInt8) (T:List Nat):Flat ss (cB ss c T):=by
  unfold cB;split
  · intro j hj;cases hj
  · exact oB hg (BH hg c T)
theorem Gb {ss:List bA}(hf:lP ss fin) (hg:Good ss){T:List Nat}(hT:Flat ss T) (c:UInt8) (w:By):yQ ss fin (cB ss c T) w↔yQ ss fin T (c::w):=by
  unfold cB;split
  · rename_i h0;constructor
    · rintro⟨j,hj,_⟩;cases hj
    · rintro⟨j,hj,_⟩;obtain⟨x,hx,_⟩:=hT j hj;have:=(List.getElem?_eq_some_iff.1 hx).1;omega
  · rw[xG hf hg (BH hg c T)];constructor
    · rintro⟨k,hk,n,h⟩
      rcases (oU ss c k T []).1 hk with h1|⟨j,hj,x,hx,ho,hm⟩
      · cases h1
      · simp only[jz,Bool.and_eq_true,decide_eq_true_eq] at ho;exact⟨j,hj,n+1,.eat hx ho.1 ho.2 hm h⟩
    · rintro⟨j,hj,n,h⟩;obtain⟨x,hx,hk⟩:=hT j hj;cases h with
      |eps hy hk0 _ _=>rw[hx] at hy;cases hy;exact absurd hk0 hk
      |eat hy hk1 hc hm h=>exact⟨_,(oU ss c _ T []).2 (.inr ⟨j,hj,_,hy,by simp[jz,hk1,hc],hm⟩),_,h⟩
def mZ (ss:List bA) (r:Nat) (q:Nat):Prop:=∃x,ss[q]? =some x/\x.kind=2/\x.rule=r
theorem uW (ss:List bA) (r:Nat):lP ss (mZ ss r):=fun _ ⟨x,hx,hk,_⟩=>⟨x,hx,hk⟩
theorem JU {ss:List bA}{r:Nat}{T:List Nat}(hT:Flat ss T):yQ ss (mZ ss r) T []↔∃j∈T,mZ ss r j:=by
  constructor
  · rintro⟨j,hj,n,h⟩;obtain⟨x,hx,hk⟩:=hT j hj;cases h with
    |done hq=>exact⟨j,hj,hq⟩
    |eps hy hk0 _ _=>rw[hx] at hy;cases hy;exact absurd hk0 hk
  · rintro⟨j,hj,hq⟩;exact⟨j,hj,0,.done hq⟩
def oQ (p:Nat->Prop) (r:Int):Prop:=(r= -1/\∀i,¬p i)\/∃n:Nat,r=n/\p n/\∀i,p i->n<=i
theorem xZ (ss:List bA):∀(l:List Nat) (b:Int) (p:Nat->Prop),oQ p b->oQ (fun r=>p r\/∃j∈l,mZ ss r j) (sL ss l b)
  | [],b,p,h=>by
    rw[sL]
    rcases h with ⟨rfl,h1⟩|⟨n,rfl,h1,h2⟩
    · exact .inl ⟨rfl,fun i h=>by rcases h with h|⟨_,h,_⟩;exact h1 i h;cases h⟩
    · exact .inr ⟨n,rfl,.inl h1,fun i h=>by rcases h with h|⟨_,h,_⟩;exact h2 i h;cases h⟩
  |j::l,b,p,h=>by
    rw[sL]
    have key:∀b',oQ (fun r=>p r\/mZ ss r j) b'->oQ (fun r=>p r\/∃k∈j::l,mZ ss r k) (sL ss l b'):=fun b' hb'=>by
      have:=xZ ss l b' _ hb'
      have e:(fun r=>(p r\/mZ ss r j)\/∃k∈l,mZ ss r k)=(fun r=>p r\/∃k∈j::l,mZ ss r k):=by
        funext r;simp[or_assoc]
      rwa [e] at this
    have no:(∀r,¬mZ ss r j)->oQ (fun r=>p r\/mZ ss r j) b:=fun hno=>by
      have e:(fun r=>p r\/mZ ss r j)=p:=by funext r;simp[hno r]
      rw[e];exact h
    cases hx:ss[j]? with
    |none=>exact key b (no fun r ⟨x,hx',_⟩=>by rw[hx] at hx';cases hx')
    |some x =>
      simp only
      by_cases hk:x.kind=2
      · have hfin:∀r,mZ ss r j↔x.rule=r:=fun r=>⟨fun⟨y,hy,_,hr⟩=>by rw[hx] at hy;cases hy;exact hr,fun hr=>⟨x,hx,hk,hr⟩⟩
        by_cases hb:sK x b=true
        · rw[if_pos hb];refine key _ (.inr ⟨x.rule,rfl,.inr ((hfin _).2 rfl),fun i hi=>?_⟩);simp only[sK,decide_eq_true_eq] at hb
          rcases hi with hi|hi
          · rcases h with ⟨rfl,h1⟩|⟨n,rfl,h1,h2⟩
            · exact absurd hi (h1 i)
            · have:=h2 i hi;omega
          · rw[(hfin i).1 hi];exact Nat.le_refl _
        · rw[if_neg hb];refine key _ ?_;simp only[sK,decide_eq_true_eq] at hb
          rcases h with ⟨rfl,h1⟩|⟨n,rfl,h1,h2⟩
          · exact absurd ⟨hk,.inl (by decide)⟩ hb
          · refine .inr ⟨n,rfl,.inl h1,fun i hi=>?_⟩
            rcases hi with hi|hi
            · exact h2 i hi
            · have:=(hfin i).1 hi;omega
      · rw[if_neg (by simp[sK,hk])];exact key b (no fun r ⟨y,hy,hk2,_⟩=>by rw[hx] at hy;cases hy;exact hk hk2)
def kH (ss:List bA) (st:Nat) (w:By):List Nat:=w.foldl (fun T c=>cB ss c T) (bX ss st)
theorem Gj {ss:List bA}(hg:Good ss) (hst:st<ss.length) (w:By):Flat ss (kH ss st w):=by
  have h0:Flat ss (bX ss st):=by
    unfold bX;split
    · intro j hj;cases hj
    · exact oB hg (fun j hj=>by simp at hj;omega)
  unfold kH;generalize bX ss st=T at h0
  induction w generalizing T with
  |nil=>exact h0
  |cons c w ih=>exact ih _ (vB hg c T)
theorem Il {ss:List bA}(hf:lP ss fin) (hg:Good ss) (hst:st<ss.length) (w v:By):yQ ss fin (kH ss st w) v↔∃n,Acc ss fin n st (w++v):=by
  have h0:Flat ss (bX ss st)/\∀v,yQ ss fin (bX ss st) v↔∃n,Acc ss fin n st v:=by
    unfold bX;rw[if_neg (by omega)];have ht:∀j∈[st],j<ss.length:=fun j hj=>by simp at hj;omega
    refine⟨oB hg ht,fun v=>?_⟩;rw[xG hf hg ht];simp[yQ]
  unfold kH
  have key:∀(w:By) (T:List Nat),Flat ss T->(yQ ss fin (w.foldl (fun T c=>cB ss c T) T) v↔yQ ss fin T (w++v)):=by
    intro w
    induction w with
    |nil=>intro T _;rfl
    |cons c w ih =>
      intro T hT;rw[List.foldl_cons,ih _ (vB hg c T),Gb hf hg hT];rfl
  rw[key w _ h0.1,h0.2]
theorem yO {ss:List bA}(hg:Good ss) (hst:st<ss.length) (w:By):oQ (fun r=>∃n,Acc ss (mZ ss r) n st w) (bh ss (kH ss st w)):=by
  unfold bh;rw[if_neg (by omega)];have h:=xZ ss (kH ss st w) (-1) (fun _=>False) (.inl ⟨rfl,fun _ h=>h⟩)
  have e:(fun r=>False\/∃j∈kH ss st w,mZ ss r j)=(fun r=>∃n,Acc ss (mZ ss r) n st w):=by
    funext r
    have:=Il (uW ss r) hg hst w [];rw[JU (Gj hg hst w),List.append_nil] at this;simpa using this
  rw[e] at h;exact h
def fy (ss:List bA):Nat:=(ss.map fun x=>x.to.length+1).sum
theorem gK (a b:List bA):fy (a++b)=fy a+fy b:=by simp[fy]
theorem BF:∀(ss:List bA) (i:Nat) (y x:bA),ss[i]? =some y->fy (ss.set i x)+y.to.length=fy ss+x.to.length
  | [],i,y,x,h=>by simp at h
  |z::r,0,y,x,h=>by simp at h;subst h;simp[fy];omega
  |z::r,i+1,y,x,h=>by have:=BF r i y x (by simpa using h);simp[fy] at *;omega
theorem Iy:∀(ss:List bA) (seen:List Bool),tR ss seen<=fy ss
  | [],_=>by simp[tR]
  |x::r,[]=>by simp[tR]
  |x::r,b::s=>by
    have:=Iy r s;simp only[tR,fy,List.map_cons,List.sum_cons] at *;split<;>omega
end
mutual
theorem uU:∀(x:Nd) (ss:List bA) (to:Nat),fy (lay x ss to).1+1<=fy ss+4*pI x
  |.mk k s kids,ss,to=>by
    rw[lay];simp only[pI];split
    · rw[gK];simp[fy];omega
    · split
      · have:=wG kids ss to;omega
      · split
        · have:=wI kids ss to;have hl:=nY kids ss to;simp only[gK];simp[fy] at *;omega
        · split
          · have:=wF kids ss to;simp only[gK];simp[fy] at *;omega
          · split
            · have:=wF kids (ss++[⟨0,0,[],0⟩]) ss.length;have h2:=BF (bS kids (ss++[⟨0,0,[],0⟩]) ss.length).1 ss.length ⟨0,0,[],0⟩ ⟨0,0,[(bS kids (ss++[⟨0,0,[],0⟩]) ss.length).2,to],0⟩ (by rw[qC kids _ _ _ (by simp)];simp);rw[gK] at this;simp[fy] at *;omega
            · simp;omega
theorem wG:∀(l:List Nd) (ss:List bA) (to:Nat),fy (bz l ss to).1<=fy ss+4*gR l
  | [],ss,to=>by simp[bz]
  |x::r,ss,to=>by
    rw[bz];have h1:=wG r ss to;have h2:=uU x (bz r ss to).1 (bz r ss to).2;simp only[gR];omega
theorem wI:∀(l:List Nd) (ss:List bA) (to:Nat),fy (aT l ss to).1+l.length<=fy ss+4*gR l
  | [],ss,to=>by simp[aT]
  |x::r,ss,to=>by
    rw[aT];have h1:=uU x ss to;have h2:=wI r (lay x ss to).1 to;simp only[gR,List.length_cons];omega
theorem wF:∀(l:List Nd) (ss:List bA) (to:Nat),fy (bS l ss to).1<=fy ss+4*gR l
  | [],ss,to=>by simp[bS]
  |x::r,ss,to=>by
    rw[bS];have h1:=uU x ss to;simp only[gR];omega
end
section
variable {k i n to st:Nat}{fin:Nat->Prop}{todo:List Nat}
theorem Good.append {a b:List bA}(ha:Good a) (hb:∀x∈b,∀j∈x.to,j<(a++b).length):Good (a++b):=fun x hx j hj=>by
  rcases List.mem_append.1 hx with h|h
  · have:=ha x h j hj;simp;omega
  · exact hb x h j hj
theorem Good.set {a:List bA}(ha:Good a){i:Nat}{y:bA}(hy:∀j∈y.to,j<a.length):Good (a.set i y):=fun x hx j hj=>by
  rw[List.length_set]
  rcases List.mem_or_eq_of_mem_set hx with h|rfl
  · exact ha x h j hj
  · exact hy j hj
end
mutual
theorem rW:∀(x:Nd) (ss:List bA) (to:Nat),Good ss->to<ss.length->Good (lay x ss to).1/\(lay x ss to).2<(lay x ss to).1.length
  |.mk k s kids,ss,to,hg,ht=>by
    rw[lay];split
    · exact⟨hg.append (by intro x hx j hj;simp at hx;subst hx;simp at hj;subst hj;simp;omega),by simp⟩
    · split
      · exact ud kids ss to hg ht
      · split
        · have h:=ug kids ss to hg ht;exact⟨h.1.append (by intro x hx j hj;simp at hx;subst hx;have:=h.2 j hj;simp;omega),by simp⟩
        · split
          · have h:=tZ kids ss to hg ht;have hl:=gG kids ss to;exact⟨h.1.append (by intro x hx j hj;simp at hx;subst hx;simp at hj;simp;rcases hj with rfl|rfl<;>omega),by simp⟩
          · split
            · have h:=tZ kids (ss++[⟨0,0,[],0⟩]) ss.length (hg.append (by intro x hx j hj;simp at hx;subst hx;cases hj)) (by simp);have hl:=gG kids (ss++[⟨0,0,[],0⟩]) ss.length;simp only[List.length_append,List.length_singleton] at hl;refine⟨h.1.set (by intro j hj;simp at hj;rcases hj with rfl|rfl;exact h.2;omega),?_⟩;simp only[List.length_set];split
              · exact h.2
              · omega
            · exact⟨hg,ht⟩
theorem ud:∀(l:List Nd) (ss:List bA) (to:Nat),Good ss->to<ss.length->Good (bz l ss to).1/\(bz l ss to).2<(bz l ss to).1.length
  | [],ss,to,hg,ht=>by rw[bz];exact⟨hg,ht⟩
  |x::r,ss,to,hg,ht=>by
    rw[bz];have h1:=ud r ss to hg ht;exact rW x _ _ h1.1 h1.2
theorem ug:∀(l:List Nd) (ss:List bA) (to:Nat),Good ss->to<ss.length->Good (aT l ss to).1/\∀j∈(aT l ss to).2,j<(aT l ss to).1.length
  | [],ss,to,hg,ht=>by rw[aT];exact⟨hg,fun j hj=>by cases hj⟩
  |x::r,ss,to,hg,ht=>by
    rw[aT];have h1:=rW x ss to hg ht;have hl:=gj x ss to;have h2:=ug r (lay x ss to).1 to h1.1 (by omega);have hl2:=fE r (lay x ss to).1 to;refine⟨h2.1,fun j hj=>?_⟩
    rcases List.mem_cons.1 hj with rfl|hj
    · simp only;omega
    · exact h2.2 j hj
theorem tZ:∀(l:List Nd) (ss:List bA) (to:Nat),Good ss->to<ss.length->Good (bS l ss to).1/\(bS l ss to).2<(bS l ss to).1.length
  | [],ss,to,hg,ht=>by rw[bS];exact⟨hg,ht⟩
  |x::r,ss,to,hg,ht=>by rw[bS];exact rW x ss to hg ht
end
section
variable {k i n to st:Nat}{fin:Nat->Prop}{todo:List Nat}
structure OU (i:Nat) (rules:List By) (ss:List bA) (t:List Nat) (ss':List bA) (t':List Nat):Prop where
  pre:∀j,j<ss.length->ss'[j]? =ss[j]?
  len:ss.length<=ss'.length/\ss'.length<=ss.length+402*rules.length
  tot:fy ss'<=fy ss+1605*rules.length
  good:Good ss->(∀j∈t,j<ss.length)->Good ss'/\∀j∈t',j<ss'.length
  starts:∃t2,t'=t++t2/\t2.length=rules.length/\∀k s,rules[k]? =some s->(bG s).2=0/\∃a b,t2[k]? =some b/\ss.length<=a/\ss'[a]? =some ⟨2,0,[],i+k⟩/\∀F fin,Hy F ss' ss.length->lP F fin->Splits F fin b a (Kc (bG s).1)
theorem wm:∀(rules:List By) (i:Nat) (ss:List bA) (t:List Nat) (ss':List bA) (t':List Nat),lB i rules ss t= .inr (ss',t')->OU i rules ss t ss' t'
  | [],i,ss,t,ss',t',h=>by
    rw[lB] at h;cases h;exact⟨fun _ _=>rfl,by simp,by simp,fun a b=>⟨a,b⟩,[],by simp,rfl,fun k s h=>by simp at h⟩
  |s::r,i,ss,t,ss',t',h=>by
    rw[lB] at h;split at h
    · cases h
    · rename_i he;have he:(bG s).2=0:=by simpa using he
      have hsm:=rO he;have ih:=wm r _ _ _ _ _ h;have hpre:=mg (bG s).1 (ss++[⟨2,0,[],i⟩]) ss.length;have hlen:=gj (bG s).1 (ss++[⟨2,0,[],i⟩]) ss.length;have htot:=uU (bG s).1 (ss++[⟨2,0,[],i⟩]) ss.length;simp only[List.length_append,List.length_singleton,gK] at hpre hlen htot;have hL:fy [(⟨2,0,[],i⟩:bA)]=1:=by simp[fy]
      generalize hly:lay (bG s).1 (ss++[⟨2,0,[],i⟩]) ss.length=ly at *;obtain⟨t2,KM,htl,hst⟩:=ih.starts;refine⟨fun j hj=>?_,⟨?_,?_⟩,?_,fun hg ht=>?_,ly.2::t2,by simp[KM],by simp[htl],fun k s' hk=>?_⟩
      · rw[ih.pre j (by omega),hpre j (by omega),List.getElem?_append_left hj]
      · have:=ih.len.1;omega
      · have:=ih.len.2;simp only[List.length_cons];omega
      · have:=ih.tot;simp only[List.length_cons];omega
      · have hgl:=rW (bG s).1 (ss++[⟨2,0,[],i⟩]) ss.length (hg.append (by intro x hx j hj;simp at hx;subst hx;cases hj)) (by simp);rw[hly] at hgl
        exact ih.good hgl.1 (fun j hj=>by
          rcases List.mem_append.1 hj with h1|h1
          · have:=ht j h1;omega
          · have:j=ly.2:=by simpa using h1
            rw[this];exact hgl.2)
      · cases k with
        |zero =>
          simp at hk;subst hk;refine⟨he,ss.length,ly.2,rfl,Nat.le_refl _,?_,fun F fin hS hF=>?_⟩
          · rw[ih.pre _ (by omega),hpre _ (by omega)];simp
          · have:=me hF (bG s).1 (ss++[⟨2,0,[],i⟩]) ss.length (fun j h1 h2=>by
              rw[hly] at h2 ⊢;simp only[List.length_append,List.length_singleton] at h1;rw[hS j (by omega) (by have:=ih.len.1;omega)];exact ih.pre j h2)
            rwa [hly] at this
        |succ k =>
          obtain⟨h0,a,b,hb,hla,ha,hsp⟩:=hst k s' (by simpa using hk);exact⟨h0,a,b,by simpa using hb,by omega,by rw[ha];simp;omega,fun F fin hS hF=>hsp F fin (fun j h1 h2=>hS j (by omega) h2) hF⟩
structure Made (rules:List By) (ss:List bA) (st:Nat):Prop where
  good:Good ss
  stl:st<ss.length
  len:ss.length<=30000
  tot:fy ss<=110000
  num:rules.length<=64
  lng:∀r w,(∃n,Acc ss (mZ ss r) n st w)↔∃s,rules[r]? =some s/\Kc (bG s).1 w
theorem fC {rules:List By}{ss:List bA}(h:fh rules= .inr (ss,st)):Made rules ss st:=by
  unfold fh at h;split at h
  · cases h
  · rename_i hn;split at h
    · cases h
    · rename_i ss0 t hm;split at h
      · cases h
      · cases h;have k:=wm _ _ _ _ _ _ hm;obtain⟨t2,KM,htl,hst⟩:=k.starts;have ht:t=t2:=by simpa using KM
        subst ht;have hl:=k.len.2;have htot:=k.tot;have hgd:=k.good (by intro x hx;cases hx) (by intro j hj;cases hj);simp only[List.length_nil] at hl;have h0:fy ([]:List bA)=0:=rfl;have hF:(ss0++[⟨0,0,t,0⟩])[ss0.length]? =some ⟨0,0,t,0⟩:=by simp
        have hS:Hy (ss0++[⟨0,0,t,0⟩]) ss0 ([]:List bA).length:=fun i _ h2=>List.getElem?_append_left h2
        refine⟨hgd.1.append (by intro x hx j hj;simp at hx;subst hx;have:=hgd.2 j hj;simp;omega),by simp,by simp;omega,?_,by omega,fun r w=>?_⟩
        · have hq:fy [(⟨0,0,t,0⟩:bA)]=t.length+1:=by simp[fy]
          rw[gK,hq];omega
        · constructor
          · rintro⟨n,hw⟩;obtain⟨m,q',_,hq,hw'⟩:=hw.fork (uW _ r) hF rfl;obtain⟨k',hk'⟩:=List.getElem?_of_mem hq;have hkl:k'<t.length:=(List.getElem?_eq_some_iff.1 hk').1;obtain⟨s,hs⟩:∃s,rules[k']? =some s:=⟨_,List.getElem?_eq_getElem (by omega)⟩
            obtain⟨_,a,b,hb,_,ha,hsp⟩:=hst k' s hs;rw[hk'] at hb;cases hb;obtain⟨u,v,m',rfl,hu,_,hv⟩:=(hsp _ _ hS (uW _ r)).1 _ _ hw';have ha':(ss0++[(⟨0,0,t,0⟩:bA)])[a]? =some ⟨2,0,[],0+k'⟩:=by rw[hS a (Nat.zero_le _) (List.getElem?_eq_some_iff.1 ha).1,ha]
            cases hv with
            |done hfin =>
              obtain⟨x,hx,_,hr⟩:=hfin;rw[ha'] at hx;cases hx;simp only[Nat.zero_add] at hr;subst hr;exact⟨s,hs,by rw[List.append_nil];exact hu⟩
            |eps hx hk _ _=>rw[ha'] at hx;cases hx;cases hk
            |eat hx hk _ _ _=>rw[ha'] at hx;cases hx;cases hk
          · rintro⟨s,hs,hw⟩;obtain⟨_,a,b,hb,_,ha,hsp⟩:=hst r s hs;have ha':(ss0++[(⟨0,0,t,0⟩:bA)])[a]? =some ⟨2,0,[],0+r⟩:=by rw[hS a (Nat.zero_le _) (List.getElem?_eq_some_iff.1 ha).1,ha]
            obtain⟨n,hn⟩:=(hsp _ _ hS (uW _ r)).2 w [] 0 hw (.done ⟨_,ha',rfl,by simp⟩);rw[List.append_nil] at hn;exact⟨n+1,.eps (q':=b) hF rfl (show b∈t from List.mem_of_getElem? hb) hn⟩
theorem Ai {f:Nat->Nat}:∀{a b:List Nat},a.Sublist b->(a.map f).sum<=(b.map f).sum
  |_,_,.slnil=>by simp
  |_,_,.cons _ h=>by have:=Ai (f:=f) h;simp;omega
  |_,_,.cons_cons _ h=>by have:=Ai (f:=f) h;simp;omega
theorem Fq:∀ss:List bA,(ss.map fun x=>x.to.length).sum<=fy ss
  | []=>by simp[fy]
  |x::r=>by have:=Fq r;simp[fy] at *;omega
theorem Gt (ss:List bA):((List.range ss.length).map fun i=>match ss[i]? with|some x=>x.to.length|none=>0).sum<=fy ss:=by
  have:((List.range ss.length).map fun i=>match ss[i]? with|some x=>x.to.length|none=>0)=ss.map fun x=>x.to.length:=by
    apply List.ext_getElem
    · simp
    · intro i h1 h2;simp at h2;simp[h2]
  rw[this];exact Fq ss
theorem yX (ss:List bA) (c:UInt8):∀(l a:List Nat),(stepG ss c l a).length<=a.length+(l.map fun i=>match ss[i]? with|some x=>x.to.length|none=>0).sum
  | [],a=>by simp[stepG]
  |j::r,a=>by
    rw[stepG];refine Nat.le_trans (yX ss c r _) ?_;simp only[List.map_cons,List.sum_cons];cases ss[j]? with
    |none=>simp
    |some x=>simp only;split<;>simp<;>omega
theorem Gc {ss:List bA}(c:UInt8){now:List Nat}(h:now.Sublist (List.range ss.length)):(stepG ss c now []).length<=fy ss:=by
  have h1:=yX ss c now [];have h2:=Ai (f:=fun i=>match ss[i]? with|some x=>x.to.length|none=>0) h;have h3:=Gt ss;simp only[List.length_nil] at h1;omega
def IsMatch (P:Nat->Nat->Prop) (n:Nat) (o:Int×Int):Prop :=
  (o=(0,-1)/\∀k r,k<=n->¬P k r)\/∃k r:Nat,o=((k:Int),(r:Int))/\k<=n/\P k r/\(∀k' r',k'<=n->P k' r'->k'<=k)/\∀r',P k r'->r<=r'
def oF (ac:Nat->Int):Nat->Nat->Int×Int->Int×Int
  | 0,k,b=>if 0<=ac k then ((k:Int),ac k) else b
  |n+1,k,b=>oF ac n (k+1) (if 0<=ac k then ((k:Int),ac k) else b)
def qX (P:Nat->Nat->Prop) (m:Nat) (o:Int×Int):Prop :=
  (o=(0,-1)/\∀k r,k<m->¬P k r)\/∃k r:Nat,o=((k:Int),(r:Int))/\k<m/\P k r/\(∀k' r',k'<m->P k' r'->k'<=k)/\∀r',P k r'->r<=r'
theorem qX.next {P:Nat->Nat->Prop}{m:Nat}{o:Int×Int}{a:Int}(h:qX P m o) (ha:oQ (P m) a):qX P (m+1) (if 0<=a then ((m:Int),a) else o):=by
  rcases ha with ⟨rfl,h1⟩|⟨r,rfl,h1,h2⟩
  · rw[if_neg (by decide)]
    rcases h with ⟨rfl,h3⟩|⟨k,r,rfl,hk,hp,h3,h4⟩
    · exact .inl ⟨rfl,fun k r hk hp=>by
        by_cases e:k=m
        · subst e;exact h1 _ hp
        · exact h3 k r (by omega) hp⟩
    · exact .inr ⟨k,r,rfl,by omega,hp,fun k' r' hk' hp'=>by
        by_cases e:k'=m
        · subst e;exact absurd hp' (h1 _)
        · exact h3 k' r' (by omega) hp',h4⟩
  · rw[if_pos (by omega)];exact .inr ⟨m,r,rfl,by omega,h1,fun k' r' hk' _=>by omega,h2⟩
theorem xL {P:Nat->Nat->Prop}{ac:Nat->Int}:∀(n k:Nat) (b:Int×Int),qX P k b->(∀j,k<=j->j<=k+n->oQ (P j) (ac j))->qX P (k+n+1) (oF ac n k b)
  | 0,k,b,h,ha=>by rw[oF];exact h.next (ha k (Nat.le_refl _) (by omega))
  |n+1,k,b,h,ha=>by
    rw[oF];have:=xL n (k+1) _ (h.next (ha k (Nat.le_refl _) (by omega))) (fun j h1 h2=>ha j (by omega) (by omega))
    rwa [show k+(n+1)+1=k+1+n+1 by omega]
theorem qX.match {P:Nat->Nat->Prop}{o:Int×Int}(h:qX P (n+1) o):IsMatch P n o:=by
  rcases h with ⟨rfl,h1⟩|⟨k,r,rfl,hk,hp,h1,h2⟩
  · exact .inl ⟨rfl,fun k r hk=>h1 k r (by omega)⟩
  · exact .inr ⟨k,r,rfl,by omega,hp,fun k' r' hk'=>h1 k' r' (by omega),h2⟩
theorem Ga (ss:List bA) (c:UInt8):cB ss c []=[]:=by simp[cB,stepG,closed]
theorem tO (ss:List bA) (st:Nat) (a b:By):kH ss st (a++b)=b.foldl (fun T c=>cB ss c T) (kH ss st a):=by simp[kH,List.foldl_append]
theorem E9 (ss:List bA):∀w:By,w.foldl (fun T c=>cB ss c T) ([]:List Nat)=[]
  | []=>rfl
  |c::w=>by rw[List.foldl_cons,Ga,E9 ss w]
theorem xK {ac:Nat->Int}:∀(n k:Nat) (b:Int×Int),(∀j,k<=j->j<=k+n->ac j<0)->oF ac n k b=b
  | 0,k,b,h=>by rw[oF,if_neg (by have:=h k (Nat.le_refl _) (by omega);omega)]
  |n+1,k,b,h=>by
    rw[oF,if_neg (by have:=h k (Nat.le_refl _) (by omega);omega)];exact xK n (k+1) b (fun j h1 h2=>h j (by omega) (by omega))
theorem Ci {ss:List bA}:∀(l a:By) (b:Int×Int),jD ss l (kH ss st a) a.length b=oF (fun k=>bh ss (kH ss st ((a++l).take k))) l.length a.length b:=by
  have none_:∀(l a:By) (b:Int×Int),kH ss st a=[]->jD ss l (kH ss st a) a.length b=oF (fun k=>bh ss (kH ss st ((a++l).take k))) l.length a.length b:=by
    intro l a b h;rw[wk (by rw[h];rfl),xK];intro j h1 h2;have:(a++l).take j=a++l.take (j-a.length):=by rw[List.take_append,List.take_of_length_le h1]
    rw[this,tO,h,E9];unfold bh;split
    · decide
    · simp[sL]
  intro l
  induction l with
  |nil =>
    intro a b
    by_cases h:kH ss st a=[]
    · exact none_ [] a b h
    · rw[jD,if_neg (by simpa using h),List.length_nil,oF];simp
  |cons c r ih =>
    intro a b
    by_cases h:kH ss st a=[]
    · exact none_ (c::r) a b h
    · rw[jD,if_neg (by simpa using h)];simp only[List.length_cons,oF];have h1:=ih (a++[c]) (if 0<=bh ss (kH ss st a) then ((a.length:Int),bh ss (kH ss st a)) else b);rw[tO] at h1;simp only[List.foldl_cons,List.foldl_nil,List.length_append,List.length_singleton,List.append_assoc,List.singleton_append] at h1;rw[h1];have e:(a++c::r).take a.length=a:=by simp
      rw[e]
theorem nV {rules:List By}{ss:List bA}(k:Made rules ss st) (l:By):IsMatch (fun n r=>∃s,rules[r]? =some s/\Kc (bG s).1 (l.take n)) l.length (cX ss st l):=by
  have hst:=k.stl;unfold cX;rw[if_neg (by omega)];have h:=Ci (ss:=ss) (st:=st) l [] (0,-1);have e:kH ss st []=bX ss st:=rfl;rw[e] at h;simp only[List.length_nil,List.nil_append] at h;rw[h]
  have:=xL (P:=fun n r=>∃s,rules[r]? =some s/\Kc (bG s).1 (l.take n)) (ac:=fun k=>bh ss (kH ss st (l.take k))) l.length 0 (0,-1) (.inl ⟨rfl,fun k r hk=>by omega⟩) (fun j _ _=>by
    have h1:=yO k.good k.stl (l.take j)
    have e:(fun r=>∃n,Acc ss (mZ ss r) n st (l.take j))=(fun r=>∃s,rules[r]? =some s/\Kc (bG s).1 (l.take j)):=by
      funext r;exact propext (k.lng r _)
    rw[e] at h1;exact h1)
  rw[Nat.zero_add] at this;exact this.match
end
end Go.Proofs.YtpjgdgdnbkjoiaaGreatDoor
