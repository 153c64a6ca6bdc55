/- What the proof of the statement leans on (part 19). -/
import Derived.Test.YtpjgdgdnbkjoiaaGreatDoorRows
import Derived.Test.YtpjgdgdnbkjoiaaGreatDoorQr

namespace Go.Proofs.YtpjgdgdnbkjoiaaGreatDoor.H
open Go Go.Lw
theorem O6:aV Tryz.prog 103=some false:=by kernel_rfl
theorem J0:aV Tryz.prog 128=some true:=by kernel_rfl
theorem O5:aV Tryz.prog 143=some false:=by kernel_rfl
theorem O4:aV Tryz.prog 146=some false:=by kernel_rfl
theorem O3:aV Tryz.prog 147=some true:=by kernel_rfl
theorem Mh:aV Tryz.prog 148=some false:=by kernel_rfl
theorem Aj:aV Tryz.prog 150=some true:=by kernel_rfl
theorem O1:aV Tryz.prog 156=some true:=by kernel_rfl
theorem O0:aV Tryz.prog 160=some false:=by kernel_rfl
theorem Mg:aV Tryz.prog 162=some true:=by kernel_rfl
theorem OZ:aV Tryz.prog 165=some false:=by kernel_rfl
theorem OY:aV Tryz.prog 171=some true:=by kernel_rfl
theorem JZ:aV Tryz.prog 21=some false:=by kernel_rfl
theorem OX:aV Tryz.prog 215=some false:=by kernel_rfl
theorem OW:aV Tryz.prog 216=some false:=by kernel_rfl
theorem Dl:aV Tryz.prog 22=some false:=by kernel_rfl
theorem OV:aV Tryz.prog 272=some false:=by kernel_rfl
theorem Dk:aV Tryz.prog 28=some true:=by kernel_rfl
theorem OU:aV Tryz.prog 29=some false:=by kernel_rfl
theorem gV:aV Tryz.prog 3=some false:=by kernel_rfl
theorem jE:aV Tryz.prog 31=some true:=by kernel_rfl
theorem Dj:aV Tryz.prog 35=some true:=by kernel_rfl
theorem QC:aV Tryz.prog 4=some false:=by kernel_rfl
theorem zb:aV Tryz.prog 41=some false:=by kernel_rfl
theorem y9:aV Tryz.prog 44=some true:=by kernel_rfl
theorem JY:aV Tryz.prog 49=some false:=by kernel_rfl
theorem Nl:aV Tryz.prog 50=some false:=by kernel_rfl
theorem Li:aV Tryz.prog 51=some false:=by kernel_rfl
theorem JX:aV Tryz.prog 53=some true:=by kernel_rfl
theorem Nk:aV Tryz.prog 60=some false:=by kernel_rfl
theorem OT:aV Tryz.prog 65=some false:=by kernel_rfl
theorem Qn:aV Tryz.prog 78=some false:=by kernel_rfl
theorem JW:aV Tryz.prog 85=some true:=by kernel_rfl
theorem yq:aV Tryz.prog 86=some false:=by kernel_rfl
theorem rm:aV Tryz.prog 9=some false:=by kernel_rfl
theorem Qm:aV Tryz.prog 90=some true:=by kernel_rfl
theorem Ql:aV Tryz.prog 91=some false:=by kernel_rfl
theorem Lh:aV Tryz.prog 92=some false:=by kernel_rfl
theorem Qk:aV Tryz.prog 96=some false:=by kernel_rfl
theorem OS:aV Tryz.prog 99=some false:=by kernel_rfl
theorem Ni  : Tryz.prog.built 128 []=some #[.int .i64 (0),.int .i64 (0),.int .i64 (0)]:=by kernel_rfl
theorem oU (a0:Int) (a1:Int) (a2:Int):Tryz.prog.built 128 [(0,.int .i64 a0),(1,.int .i64 a1),(2,.int .i64 a2)]=some #[.int .i64 a0,.int .i64 a1,.int .i64 a2]:=by kernel_rfl
theorem FY (a0:ByteArray):Tryz.prog.built 131 [(0,.string a0)]=some #[.string a0,.slice none 0 0]:=by kernel_rfl
theorem Hq (a0:Bool) (a1:Option Addr) (n1 c1:Nat):Tryz.prog.built 137 [(0,.bool a0),(1,.slice a1 n1 c1)]=some #[.bool a0,.slice a1 n1 c1,.int .i64 (0)]:=by kernel_rfl
theorem Nh  : Tryz.prog.built 145 []=some #[.slice none 0 0,.int .i64 (0)]:=by kernel_rfl
theorem EU  : Tryz.prog.built 150 []=some #[.int .i64 (0),.int .u64 (0),.int .u64 (0),.int .u64 (0),.int .u64 (0),.slice none 0 0]:=by kernel_rfl
theorem tS (a0:Int) (a2:Option Addr) (n2 c2:Nat):Tryz.prog.built 150 [(0,.int .i64 a0),(2,.slice a2 n2 c2)]=some #[.int .i64 a0,.int .u64 (0),.int .u64 (0),.int .u64 (0),.int .u64 (0),.slice a2 n2 c2]:=by kernel_rfl
theorem FX (a0:Int):Tryz.prog.built 150 [(0,.int .i64 a0)]=some #[.int .i64 a0,.int .u64 (0),.int .u64 (0),.int .u64 (0),.int .u64 (0),.slice none 0 0]:=by kernel_rfl
theorem JR  : Tryz.prog.built 156 []=some #[.int .i64 (0),.int .u64 (0),.int .u64 (0),.int .u64 (0),.int .u64 (0),.slice none 0 0,.int .i64 (0)]:=by kernel_rfl
theorem Dd (a0:Int) (a1_0 a1_1 a1_2 a1_3:Value) (a2:Option Addr) (n2 c2:Nat):Tryz.prog.built 156 [(0,.int .i64 a0),(1,.agg #[a1_0,a1_1,a1_2,a1_3]),(2,.slice a2 n2 c2)]=some #[.int .i64 a0,a1_0,a1_1,a1_2,a1_3,.slice a2 n2 c2,.int .i64 (0)]:=by kernel_rfl
theorem Hp (a0:Int) (a3:Int):Tryz.prog.built 156 [(0,.int .i64 a0),(3,.int .i64 a3)]=some #[.int .i64 a0,.int .u64 (0),.int .u64 (0),.int .u64 (0),.int .u64 (0),.slice none 0 0,.int .i64 a3]:=by kernel_rfl
theorem BD (a2:Option Addr) (n2 c2:Nat):Tryz.prog.built 156 [(2,.slice a2 n2 c2)]=some #[.int .i64 (0),.int .u64 (0),.int .u64 (0),.int .u64 (0),.int .u64 (0),.slice a2 n2 c2,.int .i64 (0)]:=by kernel_rfl
theorem Ng  : Tryz.prog.built 162 []=some #[.string ⟨#[]⟩,.int .i64 (0),.int .i64 (0)]:=by kernel_rfl
theorem JQ  : Tryz.prog.built 167 []=some #[.slice none 0 0,.slice none 0 0]:=by kernel_rfl
theorem iK  : Tryz.prog.built 205 []=some #[]:=by kernel_rfl
theorem Lf (a0:ByteArray):Tryz.prog.built 208 [(0,.string a0)]=some #[.string a0]:=by kernel_rfl
theorem ri (a0:Int) (a1:Int) (a2:Int):Tryz.prog.built 28 [(0,.int .i64 a0),(1,.int .i64 a1),(2,.int .i64 a2)]=some #[.int .i64 a0,.int .i64 a1,.int .i64 a2,.string ⟨#[]⟩,.bool false]:=by kernel_rfl
theorem sS (a0:Int) (a2:Int):Tryz.prog.built 28 [(0,.int .i64 a0),(2,.int .i64 a2)]=some #[.int .i64 a0,.int .i64 (0),.int .i64 a2,.string ⟨#[]⟩,.bool false]:=by kernel_rfl
theorem ET (a0:Int) (a2:Int) (a3:ByteArray):Tryz.prog.built 28 [(0,.int .i64 a0),(2,.int .i64 a2),(3,.string a3)]=some #[.int .i64 a0,.int .i64 (0),.int .i64 a2,.string a3,.bool false]:=by kernel_rfl
theorem ES (a0:Int) (a3:ByteArray) (a2:Int):Tryz.prog.built 28 [(0,.int .i64 a0),(3,.string a3),(2,.int .i64 a2)]=some #[.int .i64 a0,.int .i64 (0),.int .i64 a2,.string a3,.bool false]:=by kernel_rfl
theorem Nf (a3:Int):Tryz.prog.built 31 [(3,.int .i64 a3)]=some #[.string ⟨#[]⟩,.int .i64 (0),.int .i64 (0),.int .i64 a3,.slice none 0 0,.slice none 0 0,.int .i64 (0),.string ⟨#[]⟩,.int .i64 (0),.int .i64 (0),.int .i64 (0),.string ⟨#[]⟩,.int .i64 (0),.string ⟨#[]⟩,.int .i64 (0),.int .i64 (0),.slice none 0 0,.slice none 0 0,.int .i64 (0)]:=by kernel_rfl
theorem Dc (a0:Int) (a1:Int):Tryz.prog.built 35 [(0,.int .i64 a0),(1,.int .i32 a1)]=some #[.int .i64 a0,.int .i32 a1,.string ⟨#[]⟩]:=by kernel_rfl
theorem Nc (a0:Int):Tryz.prog.built 35 [(0,.int .i64 a0)]=some #[.int .i64 a0,.int .i32 (0),.string ⟨#[]⟩]:=by kernel_rfl
theorem OQ  : Tryz.prog.built 44 []=some #[.int .i64 (0),.int .i64 (0)]:=by kernel_rfl
theorem JP (a0:Int) (a1:Int):Tryz.prog.built 44 [(0,.int .i64 a0),(1,.int .i64 a1)]=some #[.int .i64 a0,.int .i64 a1]:=by kernel_rfl
theorem Nb (a0:Int):Tryz.prog.built 44 [(0,.int .i64 a0)]=some #[.int .i64 a0,.int .i64 (0)]:=by kernel_rfl
theorem FV  : Tryz.prog.built 53 []=some #[.int .i64 (0),.bool false]:=by kernel_rfl
theorem BC (a0_0 a0_1 a0_2 a0_3 a0_4 a0_5 a0_6 a0_7 a0_8 a0_9 a0_10 a0_11 a0_12 a0_13 a0_14 a0_15 a0_16 a0_17 a0_18:Value) (a1:Option Addr) (a2:Option Addr) (a3:Option Addr):Tryz.prog.built 57 [(0,.agg #[a0_0,a0_1,a0_2,a0_3,a0_4,a0_5,a0_6,a0_7,a0_8,a0_9,a0_10,a0_11,a0_12,a0_13,a0_14,a0_15,a0_16,a0_17,a0_18]),(1,.pointer a1),(2,.pointer a2),(3,.pointer a3)]=some #[a0_0,a0_1,a0_2,a0_3,a0_4,a0_5,a0_6,a0_7,a0_8,a0_9,a0_10,a0_11,a0_12,a0_13,a0_14,a0_15,a0_16,a0_17,a0_18,.pointer a1,.pointer a2,.pointer a3,.int .i64 (0),.bool false,.int .i64 (0),.int .i32 (0)]:=by kernel_rfl
theorem ye (a0:Option Addr) (a1:Int):Tryz.prog.built 85 [(0,.pointer a0),(1,.int .i64 a1)]=some #[.pointer a0,.int .i64 a1]:=by kernel_rfl
theorem Na (a0_0 a0_1:Value):Tryz.prog.built 88 [(0,.agg #[a0_0,a0_1])]=some #[a0_0,a0_1,.slice none 0 0,.slice none 0 0,.int .i64 (0)]:=by kernel_rfl
theorem Me  : Tryz.prog.built 90 []=some #[.int .i64 (0),.int .i64 (0),.int .i64 (0)]:=by kernel_rfl
theorem JO (a0:Int) (a1_0 a1_1:Value):Tryz.prog.built 90 [(0,.int .i64 a0),(1,.agg #[a1_0,a1_1])]=some #[.int .i64 a0,a1_0,a1_1]:=by kernel_rfl
theorem JN (a0:Option Addr) (a5:Option Addr) (n5 c5:Nat):Tryz.prog.built 94 [(0,.pointer a0),(5,.slice a5 n5 c5)]=some #[.pointer a0,.string ⟨#[]⟩,.slice none 0 0,.slice none 0 0,.int .i64 (0),.int .i64 (0),.slice a5 n5 c5,.int .i64 (0)]:=by kernel_rfl
theorem OP  : Tryz.prog.built 98 []=some #[.slice none 0 0]:=by kernel_rfl
theorem L3:Tryz.prog.concrete 205=true:=by kernel_rfl
set_option maxRecDepth 100000 in
theorem OK:eG Tryz.prog 103 1 8:=⟨⟨_,_,rfl,rfl,rfl,rfl,rfl⟩,by decide⟩
set_option maxRecDepth 100000 in
theorem l7:eG Tryz.prog 128 3 24:=⟨⟨_,_,rfl,rfl,rfl,rfl,rfl⟩,by decide⟩
set_option maxRecDepth 100000 in
theorem Jx:eG Tryz.prog 150 6 64:=⟨⟨_,_,rfl,rfl,rfl,rfl,rfl⟩,by decide⟩
set_option maxRecDepth 100000 in
theorem L1:eG Tryz.prog 156 7 72:=⟨⟨_,_,rfl,rfl,rfl,rfl,rfl⟩,by decide⟩
set_option maxRecDepth 100000 in
theorem FM:eG Tryz.prog 171 256 2048:=⟨⟨_,_,rfl,rfl,rfl,rfl,rfl⟩,by decide⟩
set_option maxRecDepth 100000 in
theorem OJ:eG Tryz.prog 28 5 48:=⟨⟨_,_,rfl,rfl,rfl,rfl,rfl⟩,by decide⟩
set_option maxRecDepth 100000 in
theorem OI:eG Tryz.prog 3 1 8:=⟨⟨_,_,rfl,rfl,rfl,rfl,rfl⟩,by decide⟩
set_option maxRecDepth 100000 in
theorem ND:eG Tryz.prog 4 1 1:=⟨⟨_,_,rfl,rfl,rfl,rfl,rfl⟩,by decide⟩
set_option maxRecDepth 100000 in
theorem sH:eG Tryz.prog 44 2 16:=⟨⟨_,_,rfl,rfl,rfl,rfl,rfl⟩,by decide⟩
set_option maxRecDepth 100000 in
theorem Q5:eG Tryz.prog 5 1 1:=⟨⟨_,_,rfl,rfl,rfl,rfl,rfl⟩,by decide⟩
set_option maxRecDepth 100000 in
theorem Qe:eG Tryz.prog 78 1 24:=⟨⟨_,_,rfl,rfl,rfl,rfl,rfl⟩,by decide⟩
set_option maxRecDepth 100000 in
theorem G8:eG Tryz.prog 85 2 16:=⟨⟨_,_,rfl,rfl,rfl,rfl,rfl⟩,by decide⟩
set_option maxRecDepth 100000 in
theorem uH:eG Tryz.prog 9 1 16:=⟨⟨_,_,rfl,rfl,rfl,rfl,rfl⟩,by decide⟩
set_option maxRecDepth 100000 in
theorem M3:eG Tryz.prog 90 3 24:=⟨⟨_,_,rfl,rfl,rfl,rfl,rfl⟩,by decide⟩
theorem mixed:Tryz.prog.follows .mixedOrders=true:=by kernel_rfl
theorem KG:(Tryz.f10.name == "runtime.NumGoroutine")=false:=by decide +kernel
theorem Ou:(Tryz.f105.name == "runtime.NumGoroutine")=false:=by decide +kernel
theorem P9:(Tryz.f11.name == "runtime.NumGoroutine")=false:=by decide +kernel
theorem Oq:(Tryz.f113.name == "runtime.NumGoroutine")=false:=by decide +kernel
theorem Oo:(Tryz.f129.name == "runtime.NumGoroutine")=false:=by decide +kernel
theorem LU:(Tryz.f139.name == "runtime.NumGoroutine")=false:=by decide +kernel
theorem KF:(Tryz.f15.name == "runtime.NumGoroutine")=false:=by decide +kernel
theorem On:(Tryz.f155.name == "runtime.NumGoroutine")=false:=by decide +kernel
theorem Om:(Tryz.f156.name == "runtime.NumGoroutine")=false:=by decide +kernel
theorem P8:(Tryz.f16.name == "runtime.NumGoroutine")=false:=by decide +kernel
theorem P7:(Tryz.f17.name == "runtime.NumGoroutine")=false:=by decide +kernel
theorem P6:(Tryz.f18.name == "runtime.NumGoroutine")=false:=by decide +kernel
theorem P5:(Tryz.f19.name == "runtime.NumGoroutine")=false:=by decide +kernel
theorem IT:(Tryz.f20.name == "runtime.NumGoroutine")=false:=by decide +kernel
theorem P4:(Tryz.f21.name == "runtime.NumGoroutine")=false:=by decide +kernel
theorem Ol:(Tryz.f22.name == "runtime.NumGoroutine")=false:=by decide +kernel
theorem P3:(Tryz.f23.name == "runtime.NumGoroutine")=false:=by decide +kernel
theorem MO:(Tryz.f24.name == "runtime.NumGoroutine")=false:=by decide +kernel
theorem P2:(Tryz.f25.name == "runtime.NumGoroutine")=false:=by decide +kernel
theorem P1:(Tryz.f27.name == "runtime.NumGoroutine")=false:=by decide +kernel
theorem P0:(Tryz.f29.name == "runtime.NumGoroutine")=false:=by decide +kernel
theorem Oj:(Tryz.f35.name == "runtime.NumGoroutine")=false:=by decide +kernel
theorem Oi:(Tryz.f36.name == "runtime.NumGoroutine")=false:=by decide +kernel
theorem PZ:(Tryz.f41.name == "runtime.NumGoroutine")=false:=by decide +kernel
theorem KE:(Tryz.f42.name == "runtime.NumGoroutine")=false:=by decide +kernel
theorem PY:(Tryz.f44.name == "runtime.NumGoroutine")=false:=by decide +kernel
theorem PX:(Tryz.f48.name == "runtime.NumGoroutine")=false:=by decide +kernel
theorem PW:(Tryz.f49.name == "runtime.NumGoroutine")=false:=by decide +kernel
theorem Pf:(Tryz.f5.name == "runtime.NumGoroutine")=false:=by decide +kernel
theorem PV:(Tryz.f50.name == "runtime.NumGoroutine")=false:=by decide +kernel
theorem MN:(Tryz.f51.name == "runtime.NumGoroutine")=false:=by decide +kernel
theorem PU:(Tryz.f52.name == "runtime.NumGoroutine")=false:=by decide +kernel
theorem MM:(Tryz.f53.name == "runtime.NumGoroutine")=false:=by decide +kernel
theorem ML:(Tryz.f54.name == "runtime.NumGoroutine")=false:=by decide +kernel
theorem PT:(Tryz.f55.name == "runtime.NumGoroutine")=false:=by decide +kernel
theorem PS:(Tryz.f56.name == "runtime.NumGoroutine")=false:=by decide +kernel
theorem Qx:(Tryz.f6.name == "runtime.NumGoroutine")=false:=by decide +kernel
theorem PO:(Tryz.f65.name == "runtime.NumGoroutine")=false:=by decide +kernel
theorem PN:(Tryz.f66.name == "runtime.NumGoroutine")=false:=by decide +kernel
theorem PM:(Tryz.f69.name == "runtime.NumGoroutine")=false:=by decide +kernel
theorem LS:(Tryz.f7.name == "runtime.NumGoroutine")=false:=by decide +kernel
theorem PL:(Tryz.f70.name == "runtime.NumGoroutine")=false:=by decide +kernel
theorem PK:(Tryz.f71.name == "runtime.NumGoroutine")=false:=by decide +kernel
theorem IS:(Tryz.f72.name == "runtime.NumGoroutine")=false:=by decide +kernel
theorem PJ:(Tryz.f73.name == "runtime.NumGoroutine")=false:=by decide +kernel
theorem PI:(Tryz.f75.name == "runtime.NumGoroutine")=false:=by decide +kernel
theorem Kj:(Tryz.f8.name == "runtime.NumGoroutine")=false:=by decide +kernel
theorem PG:(Tryz.f85.name == "runtime.NumGoroutine")=false:=by decide +kernel
theorem PF:(Tryz.f86.name == "runtime.NumGoroutine")=false:=by decide +kernel
theorem Oh:(Tryz.f87.name == "runtime.NumGoroutine")=false:=by decide +kernel
theorem PE:(Tryz.f93.name == "runtime.NumGoroutine")=false:=by decide +kernel
theorem PD:(Tryz.f94.name == "runtime.NumGoroutine")=false:=by decide +kernel
theorem PC:(Tryz.f95.name == "runtime.NumGoroutine")=false:=by decide +kernel
theorem N0:cu Tryz.prog 103=some 1:=by kernel_rfl
theorem kN:cu Tryz.prog 128=some 3:=by kernel_rfl
theorem LJ:cu Tryz.prog 143=some 1:=by kernel_rfl
theorem NZ:cu Tryz.prog 146=some 1:=by kernel_rfl
theorem Ig:cu Tryz.prog 147=some 4:=by kernel_rfl
theorem NY:cu Tryz.prog 148=some 1:=by kernel_rfl
theorem nV:cu Tryz.prog 150=some 6:=by kernel_rfl
theorem NX:cu Tryz.prog 156=some 7:=by kernel_rfl
theorem NW:cu Tryz.prog 160=some 1:=by kernel_rfl
theorem Ie:cu Tryz.prog 162=some 3:=by kernel_rfl
theorem LI:cu Tryz.prog 165=some 1:=by kernel_rfl
theorem NV:cu Tryz.prog 171=some 256:=by kernel_rfl
theorem Ic:cu Tryz.prog 21=some 1:=by kernel_rfl
theorem LH:cu Tryz.prog 215=some 1:=by kernel_rfl
theorem LG:cu Tryz.prog 216=some 1:=by kernel_rfl
theorem nU:cu Tryz.prog 22=some 1:=by kernel_rfl
theorem yN:cu Tryz.prog 28=some 5:=by kernel_rfl
theorem Ib:cu Tryz.prog 29=some 1:=by kernel_rfl
theorem cq:cu Tryz.prog 3=some 1:=by kernel_rfl
theorem cv:cu Tryz.prog 31=some 19:=by kernel_rfl
theorem vM:cu Tryz.prog 35=some 3:=by kernel_rfl
theorem Kw:cu Tryz.prog 4=some 1:=by kernel_rfl
theorem uY:cu Tryz.prog 41=some 1:=by kernel_rfl
theorem iY:cu Tryz.prog 44=some 2:=by kernel_rfl
theorem vL:cu Tryz.prog 49=some 1:=by kernel_rfl
theorem QZ:cu Tryz.prog 5=some 1:=by kernel_rfl
theorem Mw:cu Tryz.prog 50=some 1:=by kernel_rfl
theorem Mu:cu Tryz.prog 51=some 1:=by kernel_rfl
theorem uX:cu Tryz.prog 53=some 2:=by kernel_rfl
theorem Mt:cu Tryz.prog 60=some 1:=by kernel_rfl
theorem NU:cu Tryz.prog 65=some 1:=by kernel_rfl
theorem Gi:cu Tryz.prog 78=some 1:=by kernel_rfl
theorem iX:cu Tryz.prog 85=some 2:=by kernel_rfl
theorem mC:cu Tryz.prog 86=some 1:=by kernel_rfl
theorem kF:cu Tryz.prog 9=some 1:=by kernel_rfl
theorem NT:cu Tryz.prog 90=some 3:=by kernel_rfl
theorem NS:cu Tryz.prog 91=some 1:=by kernel_rfl
theorem Gh:cu Tryz.prog 92=some 1:=by kernel_rfl
theorem NR:cu Tryz.prog 96=some 1:=by kernel_rfl
theorem vE:(Tryz.prog.info? 128).bind (·.zero)=some (.agg #[.int .i64 (0),.int .i64 (0),.int .i64 (0)]):=by kernel_rfl
theorem LC:(Tryz.prog.info? 150).bind (·.zero)=some (.agg #[.int .i64 (0),.int .u64 (0),.int .u64 (0),.int .u64 (0),.int .u64 (0),.slice none 0 0]):=by kernel_rfl
theorem LB:(Tryz.prog.info? 162).bind (·.zero)=some (.agg #[.string ⟨#[]⟩,.int .i64 (0),.int .i64 (0)]):=by kernel_rfl
theorem NH:(Tryz.prog.info? 171).bind (·.zero)=some (.agg (Array.replicate 256 (.int .i64 (0)))):=by kernel_rfl
theorem NG:(Tryz.prog.info? 218).bind (·.zero)=some (.agg #[.pointer none,.slice none 0 0]):=by kernel_rfl
theorem Pp:(Tryz.prog.info? 22).bind (·.zero)=some (.slice none 0 0):=by kernel_rfl
theorem Po:(Tryz.prog.info? 28).bind (·.zero)=some (.agg #[.int .i64 (0),.int .i64 (0),.int .i64 (0),.string ⟨#[]⟩,.bool false]):=by kernel_rfl
theorem Qr:(Tryz.prog.info? 3).bind (·.zero)=some (.int .i64 (0)):=by kernel_rfl
theorem BJ:(Tryz.prog.info? 31).bind (·.zero)=some (.agg #[.string ⟨#[]⟩,.int .i64 (0),.int .i64 (0),.int .i64 (0),.slice none 0 0,.slice none 0 0,.int .i64 (0),.string ⟨#[]⟩,.int .i64 (0),.int .i64 (0),.int .i64 (0),.string ⟨#[]⟩,.int .i64 (0),.string ⟨#[]⟩,.int .i64 (0),.int .i64 (0),.slice none 0 0,.slice none 0 0,.int .i64 (0)]):=by kernel_rfl
theorem Pn:(Tryz.prog.info? 35).bind (·.zero)=some (.agg #[.int .i64 (0),.int .i32 (0),.string ⟨#[]⟩]):=by kernel_rfl
theorem Qq:(Tryz.prog.info? 4).bind (·.zero)=some (.bool false):=by kernel_rfl
theorem Dy:(Tryz.prog.info? 44).bind (·.zero)=some (.agg #[.int .i64 (0),.int .i64 (0)]):=by kernel_rfl
theorem Pm:(Tryz.prog.info? 53).bind (·.zero)=some (.agg #[.int .i64 (0),.bool false]):=by kernel_rfl
theorem Pk:(Tryz.prog.info? 60).bind (·.zero)=some (.int .i64 (0)):=by kernel_rfl
theorem NF:(Tryz.prog.info? 90).bind (·.zero)=some (.agg #[.int .i64 (0),.int .i64 (0),.int .i64 (0)]):=by kernel_rfl
end Go.Proofs.YtpjgdgdnbkjoiaaGreatDoor.H
namespace Go.Proofs.YtpjgdgdnbkjoiaaGreatDoor.H
open Go.Proofs.Tryz
open Go Go.Lw
set_option maxRecDepth 100000 in
instance:Ls Tryz.prog:=⟨by decide +kernel⟩
instance:nL Tryz.prog 103 false:=⟨O6⟩
instance:nL Tryz.prog 128 true:=⟨J0⟩
instance:nL Tryz.prog 143 false:=⟨O5⟩
instance:nL Tryz.prog 146 false:=⟨O4⟩
instance:nL Tryz.prog 147 true:=⟨O3⟩
instance:nL Tryz.prog 148 false:=⟨Mh⟩
instance:nL Tryz.prog 150 true:=⟨Aj⟩
instance:nL Tryz.prog 156 true:=⟨O1⟩
instance:nL Tryz.prog 160 false:=⟨O0⟩
instance:nL Tryz.prog 162 true:=⟨Mg⟩
instance:nL Tryz.prog 165 false:=⟨OZ⟩
instance:nL Tryz.prog 171 true:=⟨OY⟩
instance:nL Tryz.prog 215 false:=⟨OX⟩
instance:nL Tryz.prog 216 false:=⟨OW⟩
instance:nL Tryz.prog 22 false:=⟨Dl⟩
instance:nL Tryz.prog 272 false:=⟨OV⟩
instance:nL Tryz.prog 28 true:=⟨Dk⟩
instance:nL Tryz.prog 29 false:=⟨OU⟩
instance:nL Tryz.prog 3 false:=⟨gV⟩
instance:nL Tryz.prog 31 true:=⟨jE⟩
instance:nL Tryz.prog 4 false:=⟨QC⟩
instance:nL Tryz.prog 41 false:=⟨zb⟩
instance:nL Tryz.prog 44 true:=⟨y9⟩
instance:nL Tryz.prog 51 false:=⟨Li⟩
instance:nL Tryz.prog 60 false:=⟨Nk⟩
instance:nL Tryz.prog 65 false:=⟨OT⟩
instance:nL Tryz.prog 78 false:=⟨Qn⟩
instance:nL Tryz.prog 9 false:=⟨rm⟩
instance:nL Tryz.prog 90 true:=⟨Qm⟩
instance:nL Tryz.prog 91 false:=⟨Ql⟩
instance:nL Tryz.prog 92 false:=⟨Lh⟩
instance:nL Tryz.prog 96 false:=⟨Qk⟩
instance:nL Tryz.prog 99 false:=⟨OS⟩
instance:QE Tryz.prog 205:=⟨L3⟩
instance:E9 Tryz.prog 103 1 8:=⟨OK⟩
instance:E9 Tryz.prog 128 3 24:=⟨l7⟩
instance:E9 Tryz.prog 150 6 64:=⟨Jx⟩
instance:E9 Tryz.prog 156 7 72:=⟨L1⟩
instance:E9 Tryz.prog 3 1 8:=⟨OI⟩
instance:E9 Tryz.prog 4 1 1:=⟨ND⟩
instance:E9 Tryz.prog 44 2 16:=⟨sH⟩
instance:E9 Tryz.prog 5 1 1:=⟨Q5⟩
instance:E9 Tryz.prog 78 1 24:=⟨Qe⟩
instance:E9 Tryz.prog 9 1 16:=⟨uH⟩
instance:E9 Tryz.prog 90 3 24:=⟨M3⟩
instance:jn Tryz.prog 128 0 0:=⟨⟨_,_,_,underlying128,rfl,rfl,cq⟩⟩
instance:jn Tryz.prog 128 1 1:=⟨⟨_,_,_,underlying128,rfl,rfl,cq⟩⟩
instance:jn Tryz.prog 128 2 2:=⟨⟨_,_,_,underlying128,rfl,rfl,cq⟩⟩
instance:jn Tryz.prog 131 0 0:=⟨⟨_,_,_,underlying131,rfl,rfl,kF⟩⟩
instance:jn Tryz.prog 131 1 1:=⟨⟨_,_,_,underlying131,rfl,rfl,Gi⟩⟩
instance:jn Tryz.prog 137 0 0:=⟨⟨_,_,_,underlying137,rfl,rfl,Kw⟩⟩
instance:jn Tryz.prog 137 1 1:=⟨⟨_,_,_,underlying137,rfl,rfl,nU⟩⟩
instance:jn Tryz.prog 137 2 2:=⟨⟨_,_,_,underlying137,rfl,rfl,cq⟩⟩
instance:jn Tryz.prog 145 0 0:=⟨⟨_,_,_,underlying145,rfl,rfl,LJ⟩⟩
instance:jn Tryz.prog 145 1 1:=⟨⟨_,_,_,underlying145,rfl,rfl,cq⟩⟩
instance:jn Tryz.prog 150 0 0:=⟨⟨_,_,_,underlying150,rfl,rfl,cq⟩⟩
instance:jn Tryz.prog 150 1 1:=⟨⟨_,_,_,underlying150,rfl,rfl,Ig⟩⟩
instance:jn Tryz.prog 150 2 5:=⟨⟨_,_,_,underlying150,rfl,rfl,NY⟩⟩
instance:jn Tryz.prog 156 0 0:=⟨⟨_,_,_,underlying156,rfl,rfl,cq⟩⟩
instance:jn Tryz.prog 156 1 1:=⟨⟨_,_,_,underlying156,rfl,rfl,Ig⟩⟩
instance:jn Tryz.prog 156 2 5:=⟨⟨_,_,_,underlying156,rfl,rfl,Gi⟩⟩
instance:jn Tryz.prog 156 3 6:=⟨⟨_,_,_,underlying156,rfl,rfl,cq⟩⟩
instance:jn Tryz.prog 162 1 1:=⟨⟨_,_,_,underlying162,rfl,rfl,cq⟩⟩
instance:jn Tryz.prog 162 2 2:=⟨⟨_,_,_,underlying162,rfl,rfl,cq⟩⟩
instance:jn Tryz.prog 167 0 0:=⟨⟨_,_,_,underlying167,rfl,rfl,LI⟩⟩
instance:jn Tryz.prog 167 1 1:=⟨⟨_,_,_,underlying167,rfl,rfl,Gi⟩⟩
instance:jn Tryz.prog 208 0 0:=⟨⟨_,_,_,underlying208,rfl,rfl,kF⟩⟩
instance:jn Tryz.prog 218 0 0:=⟨⟨_,_,_,underlying218,rfl,rfl,LH⟩⟩
instance:jn Tryz.prog 218 1 1:=⟨⟨_,_,_,underlying218,rfl,rfl,LG⟩⟩
instance:jn Tryz.prog 28 0 0:=⟨⟨_,_,_,underlying28,rfl,rfl,cq⟩⟩
instance:jn Tryz.prog 28 1 1:=⟨⟨_,_,_,underlying28,rfl,rfl,cq⟩⟩
instance:jn Tryz.prog 28 2 2:=⟨⟨_,_,_,underlying28,rfl,rfl,cq⟩⟩
instance:jn Tryz.prog 28 4 4:=⟨⟨_,_,_,underlying28,rfl,rfl,Kw⟩⟩
instance:jn Tryz.prog 31 0 0:=⟨⟨_,_,_,underlying31,rfl,rfl,kF⟩⟩
instance:jn Tryz.prog 31 1 1:=⟨⟨_,_,_,underlying31,rfl,rfl,cq⟩⟩
instance:jn Tryz.prog 31 10 10:=⟨⟨_,_,_,underlying31,rfl,rfl,cq⟩⟩
instance:jn Tryz.prog 31 16 16:=⟨⟨_,_,_,underlying31,rfl,rfl,nU⟩⟩
instance:jn Tryz.prog 31 17 17:=⟨⟨_,_,_,underlying31,rfl,rfl,Ib⟩⟩
instance:jn Tryz.prog 31 18 18:=⟨⟨_,_,_,underlying31,rfl,rfl,cq⟩⟩
instance:jn Tryz.prog 31 2 2:=⟨⟨_,_,_,underlying31,rfl,rfl,cq⟩⟩
instance:jn Tryz.prog 31 3 3:=⟨⟨_,_,_,underlying31,rfl,rfl,cq⟩⟩
instance:jn Tryz.prog 31 4 4:=⟨⟨_,_,_,underlying31,rfl,rfl,nU⟩⟩
instance:jn Tryz.prog 31 5 5:=⟨⟨_,_,_,underlying31,rfl,rfl,nU⟩⟩
instance:jn Tryz.prog 31 6 6:=⟨⟨_,_,_,underlying31,rfl,rfl,cq⟩⟩
instance:jn Tryz.prog 31 7 7:=⟨⟨_,_,_,underlying31,rfl,rfl,kF⟩⟩
instance:jn Tryz.prog 31 8 8:=⟨⟨_,_,_,underlying31,rfl,rfl,cq⟩⟩
instance:jn Tryz.prog 31 9 9:=⟨⟨_,_,_,underlying31,rfl,rfl,cq⟩⟩
instance:jn Tryz.prog 44 0 0:=⟨⟨_,_,_,underlying44,rfl,rfl,cq⟩⟩
instance:jn Tryz.prog 44 1 1:=⟨⟨_,_,_,underlying44,rfl,rfl,cq⟩⟩
instance:jn Tryz.prog 90 0 0:=⟨⟨_,_,_,underlying90,rfl,rfl,cq⟩⟩
instance:jn Tryz.prog 94 0 0:=⟨⟨_,_,_,underlying94,rfl,rfl,NU⟩⟩
instance:jn Tryz.prog 94 2 2:=⟨⟨_,_,_,underlying94,rfl,rfl,uY⟩⟩
instance:jn Tryz.prog 94 3 3:=⟨⟨_,_,_,underlying94,rfl,rfl,Gh⟩⟩
instance:jn Tryz.prog 94 5 6:=⟨⟨_,_,_,underlying94,rfl,rfl,NS⟩⟩
instance:jn Tryz.prog 98 0 0:=⟨⟨_,_,_,underlying98,rfl,rfl,NR⟩⟩
instance:bZ Tryz.prog 106 f106:=⟨func106⟩
instance:bZ Tryz.prog 107 f107:=⟨func107⟩
instance:bZ Tryz.prog 108 f108:=⟨func108⟩
instance:bZ Tryz.prog 109 f109:=⟨func109⟩
instance:bZ Tryz.prog 110 f110:=⟨func110⟩
instance:bZ Tryz.prog 111 f111:=⟨func111⟩
instance:bZ Tryz.prog 112 f112:=⟨func112⟩
instance:bZ Tryz.prog 117 f117:=⟨func117⟩
instance:bZ Tryz.prog 118 f118:=⟨func118⟩
instance:bZ Tryz.prog 119 f119:=⟨func119⟩
instance:bZ Tryz.prog 120 Tryz.f120:=⟨func120⟩
instance:bZ Tryz.prog 121 f121:=⟨func121⟩
instance:bZ Tryz.prog 122 f122:=⟨func122⟩
instance:bZ Tryz.prog 123 f123:=⟨func123⟩
instance:bZ Tryz.prog 124 f124:=⟨func124⟩
instance:bZ Tryz.prog 125 f125:=⟨func125⟩
instance:bZ Tryz.prog 126 f126:=⟨func126⟩
instance:bZ Tryz.prog 127 f127:=⟨func127⟩
instance:bZ Tryz.prog 129 Tryz.f129:=⟨func129⟩
instance:bZ Tryz.prog 130 f130:=⟨func130⟩
instance:bZ Tryz.prog 131 f131:=⟨func131⟩
instance:bZ Tryz.prog 132 f132:=⟨func132⟩
instance:bZ Tryz.prog 133 f133:=⟨func133⟩
instance:bZ Tryz.prog 134 f134:=⟨func134⟩
instance:bZ Tryz.prog 135 f135:=⟨func135⟩
instance:bZ Tryz.prog 136 f136:=⟨func136⟩
instance:bZ Tryz.prog 137 Tryz.f137:=⟨func137⟩
instance:bZ Tryz.prog 138 f138:=⟨func138⟩
instance:bZ Tryz.prog 140 f140:=⟨func140⟩
instance:bZ Tryz.prog 142 f142:=⟨func142⟩
instance:bZ Tryz.prog 143 Tryz.f143:=⟨func143⟩
instance:bZ Tryz.prog 144 Tryz.f144:=⟨func144⟩
instance:bZ Tryz.prog 145 f145:=⟨func145⟩
instance:bZ Tryz.prog 146 f146:=⟨func146⟩
instance:bZ Tryz.prog 147 f147:=⟨func147⟩
instance:bZ Tryz.prog 148 Tryz.f148:=⟨func148⟩
instance:bZ Tryz.prog 149 Tryz.f149:=⟨func149⟩
instance:bZ Tryz.prog 155 f155:=⟨func155⟩
instance:bZ Tryz.prog 156 f156:=⟨func156⟩
instance:bZ Tryz.prog 16 f16:=⟨func16⟩
instance:bZ Tryz.prog 162 f162:=⟨func162⟩
instance:bZ Tryz.prog 163 f163:=⟨func163⟩
instance:bZ Tryz.prog 164 f164:=⟨func164⟩
instance:bZ Tryz.prog 165 Tryz.f165:=⟨func165⟩
instance:bZ Tryz.prog 166 Tryz.f166:=⟨func166⟩
instance:bZ Tryz.prog 167 f167:=⟨func167⟩
instance:bZ Tryz.prog 168 f168:=⟨func168⟩
instance:bZ Tryz.prog 169 Tryz.f169:=⟨func169⟩
instance:bZ Tryz.prog 170 Tryz.f170:=⟨func170⟩
instance:bZ Tryz.prog 171 Tryz.f171:=⟨func171⟩
instance:bZ Tryz.prog 172 f172:=⟨func172⟩
instance:bZ Tryz.prog 173 f173:=⟨func173⟩
instance:bZ Tryz.prog 174 f174:=⟨func174⟩
instance:bZ Tryz.prog 175 f175:=⟨func175⟩
instance:bZ Tryz.prog 176 f176:=⟨func176⟩
instance:bZ Tryz.prog 177 f177:=⟨func177⟩
instance:bZ Tryz.prog 178 f178:=⟨func178⟩
instance:bZ Tryz.prog 179 f179:=⟨func179⟩
instance:bZ Tryz.prog 180 f180:=⟨func180⟩
instance:bZ Tryz.prog 181 f181:=⟨func181⟩
instance:bZ Tryz.prog 182 f182:=⟨func182⟩
instance:bZ Tryz.prog 184 f184:=⟨func184⟩
instance:bZ Tryz.prog 187 f187:=⟨func187⟩
instance:bZ Tryz.prog 188 f188:=⟨func188⟩
instance:bZ Tryz.prog 189 f189:=⟨func189⟩
instance:bZ Tryz.prog 19 f19:=⟨func19⟩
instance:bZ Tryz.prog 190 f190:=⟨func190⟩
instance:bZ Tryz.prog 191 f191:=⟨func191⟩
instance:bZ Tryz.prog 192 f192:=⟨func192⟩
instance:bZ Tryz.prog 193 f193:=⟨func193⟩
instance:bZ Tryz.prog 195 f195:=⟨func195⟩
instance:bZ Tryz.prog 196 f196:=⟨func196⟩
instance:bZ Tryz.prog 197 Tryz.f197:=⟨func197⟩
instance:bZ Tryz.prog 198 f198:=⟨func198⟩
instance:bZ Tryz.prog 201 f201:=⟨func201⟩
instance:bZ Tryz.prog 204 f204:=⟨func204⟩
instance:bZ Tryz.prog 210 f210:=⟨func210⟩
instance:bZ Tryz.prog 211 f211:=⟨func211⟩
instance:bZ Tryz.prog 212 Tryz.f212:=⟨func212⟩
instance:bZ Tryz.prog 225 Tryz.f225:=⟨func225⟩
instance:bZ Tryz.prog 226 f226:=⟨func226⟩
instance:bZ Tryz.prog 227 f227:=⟨func227⟩
instance:bZ Tryz.prog 228 f228:=⟨func228⟩
instance:bZ Tryz.prog 235 f235:=⟨func235⟩
instance:bZ Tryz.prog 236 f236:=⟨func236⟩
instance:bZ Tryz.prog 29 f29:=⟨func29⟩
instance:bZ Tryz.prog 34 f34:=⟨func34⟩
instance:bZ Tryz.prog 35 f35:=⟨func35⟩
instance:bZ Tryz.prog 37 f37:=⟨func37⟩
instance:bZ Tryz.prog 38 f38:=⟨func38⟩
instance:bZ Tryz.prog 39 f39:=⟨func39⟩
instance:bZ Tryz.prog 40 f40:=⟨func40⟩
instance:bZ Tryz.prog 42 f42:=⟨func42⟩
instance:bZ Tryz.prog 45 f45:=⟨func45⟩
instance:bZ Tryz.prog 46 f46:=⟨func46⟩
instance:bZ Tryz.prog 47 f47:=⟨func47⟩
instance:bZ Tryz.prog 49 f49:=⟨func49⟩
instance:bZ Tryz.prog 50 f50:=⟨func50⟩
instance:bZ Tryz.prog 65 f65:=⟨func65⟩
instance:bZ Tryz.prog 66 f66:=⟨func66⟩
instance:bZ Tryz.prog 67 f67:=⟨func67⟩
instance:bZ Tryz.prog 69 f69:=⟨func69⟩
instance:bZ Tryz.prog 70 f70:=⟨func70⟩
instance:bZ Tryz.prog 71 f71:=⟨func71⟩
instance:bZ Tryz.prog 72 f72:=⟨func72⟩
instance:bZ Tryz.prog 73 f73:=⟨func73⟩
instance:bZ Tryz.prog 74 f74:=⟨func74⟩
instance:bZ Tryz.prog 75 f75:=⟨func75⟩
instance:bZ Tryz.prog 76 f76:=⟨func76⟩
instance:bZ Tryz.prog 77 f77:=⟨func77⟩
instance:bZ Tryz.prog 78 f78:=⟨func78⟩
instance:bZ Tryz.prog 79 f79:=⟨func79⟩
instance:bZ Tryz.prog 80 f80:=⟨func80⟩
instance:bZ Tryz.prog 81 f81:=⟨func81⟩
instance:bZ Tryz.prog 82 f82:=⟨func82⟩
instance:bZ Tryz.prog 83 f83:=⟨func83⟩
instance:bZ Tryz.prog 84 f84:=⟨func84⟩
instance:bZ Tryz.prog 87 f87:=⟨func87⟩
instance:bZ Tryz.prog 88 f88:=⟨func88⟩
instance:bZ Tryz.prog 89 f89:=⟨func89⟩
instance:bZ Tryz.prog 91 f91:=⟨func91⟩
instance:bZ Tryz.prog 93 f93:=⟨func93⟩
instance:bZ Tryz.prog 94 f94:=⟨func94⟩
instance:bZ Tryz.prog 95 f95:=⟨func95⟩
instance:Nq Tryz.prog:=⟨mixed⟩
instance:qw Tryz.prog 103 1:=⟨N0⟩
instance:qw Tryz.prog 128 3:=⟨kN⟩
instance:qw Tryz.prog 143 1:=⟨LJ⟩
instance:qw Tryz.prog 146 1:=⟨NZ⟩
instance:qw Tryz.prog 147 4:=⟨Ig⟩
instance:qw Tryz.prog 150 6:=⟨nV⟩
instance:qw Tryz.prog 156 7:=⟨NX⟩
instance:qw Tryz.prog 160 1:=⟨NW⟩
instance:qw Tryz.prog 162 3:=⟨Ie⟩
instance:qw Tryz.prog 165 1:=⟨LI⟩
instance:qw Tryz.prog 171 256:=⟨NV⟩
instance:qw Tryz.prog 215 1:=⟨LH⟩
instance:qw Tryz.prog 216 1:=⟨LG⟩
instance:qw Tryz.prog 22 1:=⟨nU⟩
instance:qw Tryz.prog 28 5:=⟨yN⟩
instance:qw Tryz.prog 29 1:=⟨Ib⟩
instance:qw Tryz.prog 3 1:=⟨cq⟩
instance:qw Tryz.prog 31 19:=⟨cv⟩
instance:qw Tryz.prog 4 1:=⟨Kw⟩
instance:qw Tryz.prog 44 2:=⟨iY⟩
instance:qw Tryz.prog 60 1:=⟨Mt⟩
instance:qw Tryz.prog 78 1:=⟨Gi⟩
instance:qw Tryz.prog 9 1:=⟨kF⟩
instance:qw Tryz.prog 90 3:=⟨NT⟩
instance:qw Tryz.prog 91 1:=⟨NS⟩
instance:qw Tryz.prog 96 1:=⟨NR⟩
instance:p0 Tryz.prog 143 (.slice 156):=⟨underlying143⟩
instance:p0 Tryz.prog 147 (.array 4 146):=⟨underlying147⟩
instance:p0 Tryz.prog 148 (.slice 150):=⟨underlying148⟩
instance:p0 Tryz.prog 160 (.slice 162):=⟨underlying160⟩
instance:p0 Tryz.prog 163 (.array 3 160):=⟨underlying163⟩
instance:p0 Tryz.prog 165 (.slice 171):=⟨underlying165⟩
instance:p0 Tryz.prog 170 (.slice 78):=⟨underlying170⟩
instance:p0 Tryz.prog 171 (.array 256 3):=⟨underlying171⟩
instance:p0 Tryz.prog 216 (.slice 5):=⟨underlying216⟩
instance:p0 Tryz.prog 22 (.slice 9):=⟨underlying22⟩
instance:p0 Tryz.prog 246 (.int .u64):=⟨underlying246⟩
instance:p0 Tryz.prog 29 (.slice 4):=⟨underlying29⟩
instance:p0 Tryz.prog 3 (.int .i64):=⟨underlying3⟩
instance:p0 Tryz.prog 41 (.slice 128):=⟨underlying41⟩
instance:p0 Tryz.prog 5 (.int .u8):=⟨underlying5⟩
instance:p0 Tryz.prog 78 (.slice 3):=⟨underlying78⟩
instance:p0 Tryz.prog 9 (.string):=⟨underlying9⟩
instance:p0 Tryz.prog 91 (.slice 90):=⟨underlying91⟩
instance:p0 Tryz.prog 92 (.slice 44):=⟨underlying92⟩
instance:p0 Tryz.prog 96 (.slice 103):=⟨underlying96⟩
instance:J4 Tryz.prog 128 (.agg #[.int .i64 (0),.int .i64 (0),.int .i64 (0)]):=⟨vE⟩
instance:J4 Tryz.prog 150 (.agg #[.int .i64 (0),.int .u64 (0),.int .u64 (0),.int .u64 (0),.int .u64 (0),.slice none 0 0]):=⟨LC⟩
instance:J4 Tryz.prog 162 (.agg #[.string ⟨#[]⟩,.int .i64 (0),.int .i64 (0)]):=⟨LB⟩
instance:J4 Tryz.prog 171 (.agg (Array.replicate 256 (.int .i64 (0)))):=⟨NH⟩
instance:J4 Tryz.prog 218 (.agg #[.pointer none,.slice none 0 0]):=⟨NG⟩
instance:J4 Tryz.prog 22 (.slice none 0 0):=⟨Pp⟩
instance:J4 Tryz.prog 31 (.agg #[.string ⟨#[]⟩,.int .i64 (0),.int .i64 (0),.int .i64 (0),.slice none 0 0,.slice none 0 0,.int .i64 (0),.string ⟨#[]⟩,.int .i64 (0),.int .i64 (0),.int .i64 (0),.string ⟨#[]⟩,.int .i64 (0),.string ⟨#[]⟩,.int .i64 (0),.int .i64 (0),.slice none 0 0,.slice none 0 0,.int .i64 (0)]):=⟨BJ⟩
instance:J4 Tryz.prog 44 (.agg #[.int .i64 (0),.int .i64 (0)]):=⟨Dy⟩
instance:J4 Tryz.prog 60 (.int .i64 (0)):=⟨Pk⟩
instance:J4 Tryz.prog 90 (.agg #[.int .i64 (0),.int .i64 (0),.int .i64 (0)]):=⟨NF⟩
end Go.Proofs.YtpjgdgdnbkjoiaaGreatDoor.H
namespace Go.Proofs.YtpjgdgdnbkjoiaaGreatDoor
section
variable {k i n to st:Nat}{fin:Nat->Prop}{todo:List Nat}
abbrev By:=List UInt8
inductive Nd where
  |mk (kind:Nat) (set:Nat) (kids:List Nd)
def Nd.kind:Nd->Nat|.mk k _ _=>k
def Nd.set:Nd->Nat|.mk _ s _=>s
def Nd.kids:Nd->List Nd|.mk _ _ l=>l
def JV:Nat:=2 ^ 256-1
def zv (s a:Nat):Nat->Nat
  | 0=>s
  |n+1=>zv (s |||(1 <<< a)) (a+1) n
def qf (s:Nat) (a b:UInt8):Nat:=zv s a.toNat (b.toNat+1-a.toNat)
def ox (s:Nat):Nat:=JV ^^^ s
def Bx (b:UInt8):Nd:=.mk 1 (qf 0 b b) []
def L2:Nd:=.mk 1 (qf (qf 0 0 9) 11 255) []
def pO:Nd:=.mk 0 0 []
def gm:By:=[40,41,91,93,124,42,43,63,46,92,45,94]
def mP (b:UInt8):Option Nat :=
  if 48<=b.toNat/\b.toNat<=57 then some (b.toNat-48) else if 97<=b.toNat/\b.toNat<=102 then some (b.toNat-87) else if 65<=b.toNat/\b.toNat<=70 then some (b.toNat-55) else none
def sE:By->Option (UInt8×By)
  | []=>none
  |b::r =>
    if b=110 then some (10,r) else if b=116 then some (9,r) else if b=114 then some (13,r)
    else if b=120 then
      match r with
      |x::y::r=>match mP x,mP y with
        |some m,some n=>some (UInt8.ofNat (m*16+n),r)
        |_,_=>none
      |_=>none
    else if b∈gm then some (b,r) else none
def qI:By->Option (UInt8×By)
  | []=>none
  |b::r=>if b=92 then sE r else if b∈gm then none else some (b,r)
def fo (s:By):Option ((UInt8×UInt8)×By) :=
  match qI s with
  |none=>none
  |some (a,r)=>match r with
    | 45::r'=>match qI r' with
      |none=>none
      |some (b,r'')=>if b.toNat<a.toNat then none else some ((a,b),r'')
    |_=>some ((a,a),r)
def nB:Nat->Nat->By->Option (Nat×By)
  | 0,_,_=>none
  |n+1,acc,s=>match fo s with
    |none=>none
    |some ((a,b),r)=>match r with
      | 93::r'=>some (qf acc a b,r')
      |_=>nB n (qf acc a b) r
def jc (s:By):Option (Nd×By) :=
  match s with
  | 94::r=>(nB (r.length+1) 0 r).map fun p=>(.mk 1 (ox p.1) [],p.2)
  |_=>(nB (s.length+1) 0 s).map fun p=>(.mk 1 p.1 [],p.2)
def fL (rows:By->Option (Nd×By)):By->Option (Nd×By)
  | []=>none
  |c::r =>
    if c=40 then
      match rows r with
      |none=>none
      |some (n,r')=>match r' with
        | 41::r''=>some (n,r'')
        |_=>none
    else if c=91 then jc r
    else if c=46 then some (L2,r)
    else if c=92 then (sE r).map fun p=>(Bx p.1,p.2)
    else if c∈[(41:UInt8),93,124,42,43,63] then none
    else some (Bx c,r)
def dF (c:UInt8):Nat:=if c=42 then 4 else if c=43 then 5 else if c=63 then 6 else 0
def eY (n:Nd):By->Nd×By
  | []=>(n,[])
  |c::r=>if dF c=0 then (n,c::r) else eY (.mk (dF c) 0 [n]) r
def gK (rows:By->Option (Nd×By)) (s:By):Option (Nd×By) :=
  (fL rows s).map fun p=>eY p.1 p.2
def bS (kind:Nat):List Nd->Nd
  | []=>pO
  | [n]=>n
  |l=>.mk kind 0 l
def lz:By->Bool
  | []=>true
  |c::_=>c ==124 ||c ==41
def oh (rows:By->Option (Nd×By)):Nat->By->Option (List Nd×By)
  | 0,_=>none
  |n+1,s=>if lz s then some ([],s) else
    match gK rows s with
    |none=>none
    |some (x,r)=>(oh rows n r).map fun p=>(x::p.1,p.2)
def jr (rows:By->Option (Nd×By)):Nat->List Nd->List Nd->By->Option (Nd×By)
  | 0,_,_,_=>none
  |n+1,all,row,s=>if lz s then
      if s.head? =some 124 then jr rows n (all++[bS 2 row]) [] s.tail
      else some (bS 3 (all++[bS 2 row]),s)
    else match gK rows s with
      |none=>none
      |some (x,r)=>jr rows n all (row++[x]) r
def dW:Nat->By->Option (Nd×By)
  | 0,_=>none
  |d+1,s=>jr (dW d) (s.length+1) [] [] s
def lB (s:By):Option Nd :=
  match dW (s.length+1) s with
  |some (n,[])=>some n
  |_=>none
theorem xM {s:By}{b:UInt8}{r:By}(h:sE s=some (b,r)):r.length<s.length:=by
  unfold sE at h;split at h
  · cases h
  · rename_i c t;split at h
    · cases h;simp
    · split at h
      · cases h;simp
      · split at h
        · cases h;simp
        · split at h
          · split at h
            · split at h
              · cases h;simp only[List.length_cons];omega
              · cases h
            · cases h
          · split at h
            · cases h;simp
            · cases h
theorem sr {s:By}{b:UInt8}{r:By}(h:qI s=some (b,r)):r.length<s.length:=by
  unfold qI at h;split at h
  · cases h
  · split at h
    · have:=xM h;simp only[List.length_cons];omega
    · split at h
      · cases h
      · cases h;simp
theorem oG {s:By}{p:UInt8×UInt8}{r:By}(h:fo s=some (p,r)):r.length<s.length:=by
  unfold fo at h;split at h
  · cases h
  · rename_i a t ha;have h1:=sr ha;split at h
    · rename_i t';split at h
      · cases h
      · rename_i b t'' hb;have h2:=sr hb;split at h
        · cases h
        · cases h;simp only[List.length_cons] at h1;omega
    · cases h;exact h1
theorem tj:∀(n acc:Nat){s:By}{m:Nat}{r:By},nB n acc s=some (m,r)->r.length<s.length
  | 0,_,s,m,r,h=>by cases h
  |n+1,acc,s,m,r,h=>by
    rw[nB] at h;split at h
    · cases h
    · rename_i a b t ht;have h1:=oG ht;split at h
      · cases h;simp only[List.length_cons] at h1;omega
      · have:=tj n _ h;omega
theorem sP {s:By}{x:Nd}{r:By}(h:jc s=some (x,r)):r.length<s.length:=by
  unfold jc at h;split at h
  · rename_i t;simp only[Option.map_eq_some_iff] at h;obtain⟨⟨m,r'⟩,h1,h2⟩:=h;cases h2;have:=tj _ _ h1;simp only[List.length_cons];omega
  · simp only[Option.map_eq_some_iff] at h;obtain⟨⟨m,r'⟩,h1,h2⟩:=h;cases h2;exact tj _ _ h1
theorem Ah {rows:By->Option (Nd×By)}(hr:∀{s x r},rows s=some (x,r)->r.length<=s.length){s:By}{x:Nd}{r:By}(h:fL rows s=some (x,r)):r.length<s.length:=by
  unfold fL at h;split at h
  · cases h
  · rename_i c t;simp only[List.length_cons];split at h
    · split at h
      · cases h
      · rename_i n t' ht;have:=hr ht;split at h
        · rename_i t'' _;cases h;simp only[List.length_cons] at this;omega
        · cases h
    · split at h
      · have:=sP h;omega
      · split at h
        · cases h;omega
        · split at h
          · simp only[Option.map_eq_some_iff] at h;obtain⟨⟨b,r'⟩,h1,h2⟩:=h;cases h2;have:=xM h1;dsimp only;omega
          · split at h
            · cases h
            · cases h;omega
theorem vQ:∀(s:By) (n:Nd),(eY n s).2.length<=s.length
  | [],n=>by simp[eY]
  |c::r,n=>by
    rw[eY];split
    · simp
    · have:=vQ r (.mk (dF c) 0 [n]);simp only[List.length_cons];omega
theorem gJ {rows:By->Option (Nd×By)}(hr:∀{s x r},rows s=some (x,r)->r.length<=s.length){s:By}{x:Nd}{r:By}(h:gK rows s=some (x,r)):r.length<s.length:=by
  unfold gK at h;simp only[Option.map_eq_some_iff] at h;obtain⟨⟨n,t⟩,h1,h2⟩:=h;have h3:=Ah hr h1;have h4:=vQ t n;rw[h2] at h4;simp only at h4;omega
theorem tw {rows:By->Option (Nd×By)}(hr:∀{s x r},rows s=some (x,r)->r.length<=s.length):∀(n:Nat) (all row:List Nd){s:By}{x:Nd}{r:By},jr rows n all row s=some (x,r)->r.length<=s.length/\(r=[]\/r.head? =some 41)
  | 0,_,_,s,x,r,h=>by cases h
  |n+1,all,row,s,x,r,h=>by
    rw[jr] at h;split at h
    · rename_i he;split at h
      · have:=tw hr n _ _ h;exact⟨by have h2:=this.1;simp only[List.length_tail] at h2;omega,this.2⟩
      · rename_i hn;cases h;refine⟨Nat.le_refl _,?_⟩;cases s with
        |nil=>exact .inl rfl
        |cons c t =>
          right
          unfold lz at he;have h1:c≠124:=fun e=>hn (by rw[e];rfl)
          simp[h1] at he;simp[he]
    · split at h
      · cases h
      · rename_i y t ht;have h1:=gJ hr ht;have h2:=tw hr n _ _ h;exact⟨by omega,h2.2⟩
theorem lR:∀(d:Nat){s:By}{x:Nd}{r:By},dW d s=some (x,r)->r.length<=s.length
  | 0,s,x,r,h=>by cases h
  |d+1,s,x,r,h=>(tw (fun h=>lR d h) _ _ _ h).1
theorem B3 {rows:By->Option (Nd×By)}(hr:∀{s x r},rows s=some (x,r)->r.length<=s.length):∀(n:Nat){s:By}{l:List Nd}{r:By},oh rows n s=some (l,r)->r.length<=s.length/\lz r=true/\l.length<=s.length
  | 0,s,l,r,h=>by cases h
  |n+1,s,l,r,h=>by
    rw[oh] at h;split at h
    · rename_i he;cases h;exact⟨Nat.le_refl _,he,Nat.zero_le _⟩
    · split at h
      · cases h
      · rename_i y t ht;have h1:=gJ hr ht;simp only[Option.map_eq_some_iff] at h;obtain⟨⟨m,r'⟩,h2,h3⟩:=h;cases h3;have h4:=B3 hr n h2;have h5:=h4.1;have h6:=h4.2.2;exact⟨by first|omega|(dsimp only;omega),h4.2.1,by simp only[List.length_cons];first|omega|(dsimp only at h6;omega)⟩
theorem vZ {rows:By->Option (Nd×By)}(hr:∀{s x r},rows s=some (x,r)->r.length<=s.length):∀(k:Nat) (n m:Nat) (all row:List Nd) (s:By),s.length<=k->s.length<n->s.length<m->jr rows n all row s=jr rows m all row s:=by
  intro k
  induction k with
  |zero =>
    intro n m all row s hk hn hm;cases n with
    |zero=>omega
    |succ n =>
      cases m with
      |zero=>omega
      |succ m =>
        have:s=[]:=List.eq_nil_of_length_eq_zero (by omega);subst this;rfl
  |succ k ih =>
    intro n m all row s hk hn hm;cases n with
    |zero=>omega
    |succ n =>
      cases m with
      |zero=>omega
      |succ m =>
        rw[jr,jr];split
        · split
          · rename_i h1;have h2:s.tail.length+1=s.length:=by cases s with|nil=>cases h1|cons a b=>simp
            exact ih _ _ _ _ _ (by omega) (by omega) (by omega)
          · rfl
        · cases hp:gK rows s with
          |none=>rfl
          |some p =>
            obtain⟨y,t⟩:=p;have:=gJ hr hp;exact ih _ _ _ _ _ (by omega) (by omega) (by omega)
theorem zE {rows:By->Option (Nd×By)}(hr:∀{s x r},rows s=some (x,r)->r.length<=s.length):∀(n m:Nat) (s:By),s.length<n->s.length<m->oh rows n s=oh rows m s
  | 0,_,_,h,_=>by omega
  |_,0,_,_,h=>by omega
  |n+1,m+1,s,hn,hm=>by
    rw[oh,oh];split
    · rfl
    · cases hp:gK rows s with
      |none=>rfl
      |some p =>
        obtain⟨y,t⟩:=p;have:=gJ hr hp;simp only;rw[zE hr n m t (by omega) (by omega)]
def AL (rows:By->Option (Nd×By)) (s:By):Option (Nd×By):=(oh rows (s.length+1) s).map fun p=>(bS 2 p.1,p.2)
def uP (rows:By->Option (Nd×By)) (all:List Nd) (m:By):Option (Nd×By) :=
  if m.head? =some 124 then jr rows (m.tail.length+1) all [] m.tail else some (bS 3 all,m)
theorem Gz {rows:By->Option (Nd×By)}(hr:∀{s x r},rows s=some (x,r)->r.length<=s.length):∀(n m:Nat) (all row:List Nd) (s:By),s.length<n->s.length<m ->
    jr rows n all row s=match oh rows m s with
      |none=>none
      |some (l,r)=>if r.head? =some 124 then jr rows (r.length+1) (all++[bS 2 (row++l)]) [] r.tail else some (bS 3 (all++[bS 2 (row++l)]),r):=by
  have fuel:=fun k=>@vZ rows hr k
  intro n
  induction n with
  |zero=>intro m all row s h;omega
  |succ n ih =>
    intro m all row s hn hm;cases m with
    |zero=>omega
    |succ m =>
      rw[jr,oh]
      by_cases he:lz s=true
      · rw[if_pos he,if_pos he];simp only[List.append_nil];split
        · rename_i h1;have h2:s.tail.length+1=s.length:=by cases s with|nil=>cases h1|cons a b=>simp
          exact fuel _ _ _ _ _ _ (Nat.le_refl _) (by omega) (by omega)
        · rfl
      · rw[if_neg he,if_neg he];cases hp:gK rows s with
        |none=>rfl
        |some p =>
          obtain⟨y,t⟩:=p;have hlt:=gJ hr hp;simp only;rw[ih m all (row++[y]) t (by omega) (by omega)];cases hl:oh rows m t with
          |none=>rfl
          |some q =>
            obtain⟨l,r⟩:=q;simp only[Option.map_some,List.append_assoc,List.singleton_append]
theorem we {rows:By->Option (Nd×By)}(hr:∀{s x r},rows s=some (x,r)->r.length<=s.length) (all:List Nd) (s:By) :
    jr rows (s.length+1) all [] s=match AL rows s with|none=>none|some (x,r)=>uP rows (all++[x]) r:=by
  rw[Gz hr _ (s.length+1) _ _ _ (Nat.lt_succ_self _) (Nat.lt_succ_self _)];unfold AL;cases hl:oh rows (s.length+1) s with
  |none=>rfl
  |some q =>
    obtain⟨l,r⟩:=q;simp only[Option.map_some,List.nil_append,uP];split
    · exact vZ hr r.length _ _ _ _ _ (by simp) (by simp;omega) (by omega)
    · rfl
theorem B1 {rows:By->Option (Nd×By)}(hr:∀{s x r},rows s=some (x,r)->r.length<=s.length){s:By}{x:Nd}{r:By}(h:AL rows s=some (x,r)):r.length<=s.length:=by
  unfold AL at h;simp only[Option.map_eq_some_iff] at h;obtain⟨⟨l,r'⟩,h1,h2⟩:=h;cases h2;exact(B3 hr _ h1).1
def bG (s:By):Nd×Int:=if 200<s.length then (pO,3) else match lB s with|some x=>(x,0)|none=>(pO,10)
structure bA where
  kind:Nat
  set:Nat
  to:List Nat
  rule:Nat
end
mutual
def lay:Nd->List bA->Nat->List bA×Nat
  |.mk k s kids,ss,to =>
    if k=1 then (ss++[⟨1,s,[to],0⟩],ss.length)
    else if k=2 then br kids ss to
    else if k=3 then ((aS kids ss to).1++[⟨0,0,(aS kids ss to).2,0⟩],(aS kids ss to).1.length)
    else if k=6 then ((bR kids ss to).1++[⟨0,0,[(bR kids ss to).2,to],0⟩],(bR kids ss to).1.length)
    else if k=4\/k=5 then
      ((bR kids (ss++[⟨0,0,[],0⟩]) ss.length).1.set ss.length ⟨0,0,[(bR kids (ss++[⟨0,0,[],0⟩]) ss.length).2,to],0⟩,
        if k=5 then (bR kids (ss++[⟨0,0,[],0⟩]) ss.length).2 else ss.length)
    else (ss,to)
def br:List Nd->List bA->Nat->List bA×Nat
  | [],ss,to=>(ss,to)
  |x::r,ss,to=>lay x (br r ss to).1 (br r ss to).2
def aS:List Nd->List bA->Nat->List bA×List Nat
  | [],ss,_=>(ss,[])
  |x::r,ss,to=>((aS r (lay x ss to).1 to).1,(lay x ss to).2::(aS r (lay x ss to).1 to).2)
def bR:List Nd->List bA->Nat->List bA×Nat
  | [],ss,to=>(ss,to)
  |x::_,ss,to=>lay x ss to
end
mutual
def pW:Nd->Nat
  |.mk _ _ kids=>gZ kids+1
def gZ:List Nd->Nat
  | []=>0
  |x::r=>pW x+gZ r
end
mutual
def vG:Nd->Bool
  |.mk k _ kids=>(!(k ==4 ||k ==5 ||k ==6) ||kids.length ==1) && vH kids
def vH:List Nd->Bool
  | []=>true
  |x::r=>vG x && vH r
end
section
variable {k i n to st:Nat}{fin:Nat->Prop}{todo:List Nat}
theorem Fi (x:Nd):0<pW x:=by cases x;simp[pW]
theorem iz:∀(l m:List Nd),gZ (l++m)=gZ l+gZ m
  | [],m=>by simp[gZ]
  |x::l,m=>by simp only[List.cons_append,gZ];rw[iz l m];omega
theorem mB:∀(l m:List Nd),vH (l++m)=(vH l && vH m)
  | [],m=>by simp[vH]
  |x::l,m=>by simp only[List.cons_append,vH];rw[mB l m,Bool.and_assoc]
theorem Ao:∀{l:List Nd}{i:Nat}{x:Nd},vH l=true->l[i]? =some x->vG x=true
  | [],i,x,_,h=>by simp at h
  |y::l,0,x,hw,h=>by simp at h;subst h;simp only[vH,Bool.and_eq_true] at hw;exact hw.1
  |y::l,i+1,x,hw,h=>by simp only[vH,Bool.and_eq_true] at hw;exact Ao hw.2 (by simpa using h)
end
mutual
theorem gC:∀(x:Nd) (ss:List bA) (to:Nat),ss.length<=(lay x ss to).1.length/\(lay x ss to).1.length<=ss.length+pW x
  |.mk k s kids,ss,to=>by
    rw[lay];simp only[pW];split
    · simp
    · split
      · have:=jT kids ss to;omega
      · split
        · have:=fJ kids ss to;simp only[List.length_append,List.length_singleton];omega
        · split
          · have:=gN kids ss to;simp only[List.length_append,List.length_singleton];omega
          · split
            · have:=gN kids (ss++[⟨0,0,[],0⟩]) ss.length;simp only[List.length_append,List.length_singleton] at this;simp only[List.length_set];omega
            · simp
theorem jT:∀(l:List Nd) (ss:List bA) (to:Nat),ss.length<=(br l ss to).1.length/\(br l ss to).1.length<=ss.length+gZ l
  | [],ss,to=>by simp[br,gZ]
  |x::r,ss,to=>by
    rw[br];have h1:=jT r ss to;have h2:=gC x (br r ss to).1 (br r ss to).2;simp only[gZ];omega
theorem fJ:∀(l:List Nd) (ss:List bA) (to:Nat),ss.length<=(aS l ss to).1.length/\(aS l ss to).1.length<=ss.length+gZ l
  | [],ss,to=>by simp[aS,gZ]
  |x::r,ss,to=>by
    rw[aS];have h1:=gC x ss to;have h2:=fJ r (lay x ss to).1 to;simp only[gZ];omega
theorem gN:∀(l:List Nd) (ss:List bA) (to:Nat),ss.length<=(bR l ss to).1.length/\(bR l ss to).1.length<=ss.length+gZ l
  | [],ss,to=>by simp[bR,gZ]
  |x::r,ss,to=>by
    rw[bR];have h1:=gC x ss to;simp only[gZ];omega
end
section
variable {k i n to st:Nat}{fin:Nat->Prop}{todo:List Nat}
def Small (s:By) (p:Option (Nd×By)):Prop:=∀x r,p=some (x,r)->pW x+2*r.length<=2*s.length+1/\vG x=true
theorem Ax (k:Nat) (l:List Nd):pW (bS k l)<=gZ l+1:=by
  unfold bS;split
  · simp[pO,pW,gZ]
  · simp[gZ]
  · simp[pW]
theorem An {l:List Nd}(hk:k=2\/k=3) (h:vH l=true):vG (bS k l)=true:=by
  unfold bS;split
  · rfl
  · simp only[vH,Bool.and_eq_true] at h;exact h.1
  · simp only[vG,h,Bool.and_true];rcases hk with rfl|rfl<;>rfl
theorem ug:∀(s:By) (n:Nd),vG n=true->pW (eY n s).1+2*(eY n s).2.length<=pW n+2*s.length/\vG (eY n s).1=true
  | [],n,hw=>by simp[eY,hw]
  |c::r,n,hw=>by
    rw[eY];split
    · simp[hw]
    · rename_i hs;have hw':vG (.mk (dF c) 0 [n])=true:=by simp[vG,vH,hw]
      have h:=ug r (.mk (dF c) 0 [n]) hw';refine⟨?_,h.2⟩;have h1:=h.1;simp only[pW,gZ,List.length_cons] at h1 ⊢;omega
theorem Cc {rows:By->Option (Nd×By)}(hr:∀s,Small s (rows s)){s:By}{x:Nd}{r:By}(h:gK rows s=some (x,r)):pW x+2*r.length+1<=2*s.length/\vG x=true:=by
  have leaf:∀k st,(k=0\/k=1)->vG (.mk k st [])=true:=fun k st hk=>by rcases hk with rfl|rfl<;>rfl
  have key:∀y t,fL rows s=some (y,t)->pW y+2*t.length+1<=2*s.length/\vG y=true:=by
    intro y t ha;have hlen:∀(k st:Nat),y= .mk k st []->t.length<s.length->pW y+2*t.length+1<=2*s.length:=fun k st hy ht=>by subst hy;simp only[pW,gZ];omega
    unfold fL at ha;split at ha
    · cases ha
    · rename_i c u;split at ha
      · split at ha
        · cases ha
        · rename_i n t' ht;split at ha
          · rename_i t'' _;cases ha;have:=hr _ _ _ ht;simp only[List.length_cons] at this ⊢;exact⟨by omega,this.2⟩
          · cases ha
      · split at ha
        · have hb:=sP ha
          have hy:∃st,y= .mk 1 st []:=by
            unfold jc at ha;split at ha<;>(simp only[Option.map_eq_some_iff] at ha;obtain⟨⟨m,r'⟩,_,h2⟩:=ha;cases h2;exact⟨_,rfl⟩)
          obtain⟨st,rfl⟩:=hy;exact⟨hlen _ _ rfl (by simp only[List.length_cons];omega),leaf _ _ (.inr rfl)⟩
        · split at ha
          · cases ha;exact⟨hlen _ _ rfl (by simp),leaf _ _ (.inr rfl)⟩
          · split at ha
            · simp only[Option.map_eq_some_iff] at ha;obtain⟨⟨b,r'⟩,h1,h2⟩:=ha;have:=xM h1;cases h2;exact⟨hlen _ _ rfl (by simp only[List.length_cons];omega),leaf _ _ (.inr rfl)⟩
            · split at ha
              · cases ha
              · cases ha;exact⟨hlen _ _ rfl (by simp),leaf _ _ (.inr rfl)⟩
  unfold gK at h;simp only[Option.map_eq_some_iff] at h;obtain⟨⟨n,t⟩,h1,h2⟩:=h;have h3:=key n t h1;have h4:=ug t n h3.2;rw[h2] at h4;simp only at h4;exact⟨by omega,h4.2⟩
theorem og {rows:By->Option (Nd×By)}(hr:∀s,Small s (rows s)):∀(n:Nat) (all row:List Nd) (s:By) (x:Nd) (r:By),vH all=true->vH row=true->jr rows n all row s=some (x,r) ->
    pW x+2*r.length<=2*s.length+1+gZ all+gZ row+(if all=[] then 0 else 1)/\vG x=true
  | 0,_,_,_,_,_,_,_,h=>by cases h
  |n+1,all,row,s,x,r,hwa,hwr,h=>by
    rw[jr] at h;split at h
    · split at h
      · rename_i hbar;have hs:s.tail.length+1=s.length:=by cases s with|nil=>cases hbar|cons a b=>simp
        have hw':vH (all++[bS 2 row])=true:=by rw[mB,hwa];simp[vH,An (.inl rfl) hwr]
        have ih:=og hr n _ _ _ _ _ hw' (by rfl) h;have hj:=Ax 2 row;have ha:gZ (all++[bS 2 row])=gZ all+pW (bS 2 row):=by rw[iz];simp[gZ]
        rw[ha] at ih;refine⟨?_,ih.2⟩;have h1:=ih.1;rw[if_neg (by simp)] at h1;simp only[gZ] at h1;omega
      · cases h;have hj:=Ax 2 row;have hj3:=Ax 3 (all++[bS 2 row]);have ha:gZ (all++[bS 2 row])=gZ all+pW (bS 2 row):=by rw[iz];simp[gZ]
        refine⟨?_,An (.inr rfl) (by rw[mB,hwa];simp[vH,An (.inl rfl) hwr])⟩;split
        · rename_i he;subst he;have:bS 3 ([]++[bS 2 row])=bS 2 row:=rfl;rw[this];simp only[gZ] at *;omega
        · rw[ha] at hj3;omega
    · split at h
      · cases h
      · rename_i y t ht;have h1:=Cc hr ht;have ih:=og hr n all (row++[y]) t x r hwa (by rw[mB,hwr];simp[vH,h1.2]) h;have ha:gZ (row++[y])=gZ row+pW y:=by rw[iz];simp[gZ]
        rw[ha] at ih;exact⟨by have:=ih.1;omega,ih.2⟩
theorem uj:∀(d:Nat) (s:By),Small s (dW d s)
  | 0,s=>fun x r h=>by cases h
  |d+1,s=>fun x r h=>by
    have:=og (fun s=>uj d s) _ _ _ _ _ _ rfl rfl h;simpa [gZ] using this
theorem AT {s:By}{x:Nd}(h:lB s=some x):pW x<=2*s.length+1/\vG x=true:=by
  unfold lB at h;split at h
  · rename_i n hn;cases h;have:=uj _ _ _ _ hn;simpa using this
  · cases h
theorem CG {l:List Nd}{x:Nd}(hx:l[i]? =some x) (ss:List bA) (to:Nat):br (l.drop i) ss to=lay x (br (l.drop (i+1)) ss to).1 (br (l.drop (i+1)) ss to).2:=by
  obtain⟨hi,rfl⟩:=List.getElem?_eq_some_iff.1 hx;rw[List.drop_eq_getElem_cons hi,br]
theorem oC:∀(l:List Nd) (ss:List bA) (to:Nat),(aS l ss to).2.length=l.length
  | [],ss,to=>by simp[aS]
  |x::r,ss,to=>by rw[aS];simp[oC r]
end
mutual
theorem mK:∀(x:Nd) (ss:List bA) (to i:Nat),i<ss.length->(lay x ss to).1[i]? =ss[i]?
  |.mk k s kids,ss,to,i,hi=>by
    rw[lay];split
    · simp[List.getElem?_append_left hi]
    · split
      · exact wV kids ss to i hi
      · split
        · have:=fJ kids ss to;simp only;rw[List.getElem?_append_left (by omega)];exact qL kids ss to i hi
        · split
          · have:=gN kids ss to;simp only;rw[List.getElem?_append_left (by omega)];exact qK kids ss to i hi
          · split
            · simp only;rw[List.getElem?_set_ne (by omega),qK kids (ss++[(⟨0,0,[],0⟩:bA)]) ss.length i (by simp;omega),List.getElem?_append_left hi]
            · rfl
theorem wV:∀(l:List Nd) (ss:List bA) (to i:Nat),i<ss.length->(br l ss to).1[i]? =ss[i]?
  | [],ss,to,i,hi=>by simp[br]
  |x::r,ss,to,i,hi=>by
    rw[br];have h1:=jT r ss to;rw[mK x _ _ i (by omega),wV r ss to i hi]
theorem qL:∀(l:List Nd) (ss:List bA) (to i:Nat),i<ss.length->(aS l ss to).1[i]? =ss[i]?
  | [],ss,to,i,hi=>by simp[aS]
  |x::r,ss,to,i,hi=>by
    rw[aS];have h1:=gC x ss to;simp only;rw[qL r _ _ i (by omega),mK x ss to i hi]
theorem qK:∀(l:List Nd) (ss:List bA) (to i:Nat),i<ss.length->(bR l ss to).1[i]? =ss[i]?
  | [],ss,to,i,hi=>by simp[bR]
  |x::r,ss,to,i,hi=>by
    rw[bR];exact mK x ss to i hi
end
section
variable {k i n to st:Nat}{fin:Nat->Prop}{todo:List Nat}
theorem H9 {l:List Nd}{x:Nd}(hx:l[i]? =some x):gZ (l.take i)+pW x<=gZ l:=by
  obtain⟨hi,rfl⟩:=List.getElem?_eq_some_iff.1 hx;have h:gZ (l.take i++l.drop i)=gZ l:=by rw[List.take_append_drop]
  rw[iz,List.drop_eq_getElem_cons hi,gZ] at h;omega
theorem Ia {l:List Nd}{x:Nd}(hx:l[i]? =some x):gZ (l.drop (i+1))+pW x<=gZ l:=by
  obtain⟨hi,rfl⟩:=List.getElem?_eq_some_iff.1 hx;have h:gZ (l.take i++l.drop i)=gZ l:=by rw[List.take_append_drop]
  rw[iz,List.drop_eq_getElem_cons hi,gZ] at h;omega
theorem Fj:∀l:List Nd,l.length<=gZ l
  | []=>by simp[gZ]
  |x::l=>by have:=Fj l;have:=Fi x;simp only[List.length_cons,gZ];omega
def um:List bA->List Bool->Nat
  |x::r,b::s=>(if b then 0 else x.to.length+1)+um r s
  |_,_=>0
def jt (ss:List bA):Nat->List Nat->List Bool->List Bool
  | 0,_,seen=>seen
  |n+1,todo,seen =>
    match todo.getLast? with
    |none=>seen
    |some i =>
      if seen[i]? =some true then jt ss n todo.dropLast seen
      else jt ss n (match ss[i]? with|some x=>if x.kind=0 then todo.dropLast++x.to else todo.dropLast|none=>todo.dropLast) (seen.set i true)
def closed (ss:List bA) (todo:List Nat):List Nat :=
  if todo.length=0 then []
  else ((List.range ss.length).filter fun i=>(jt ss (todo.length+um ss (List.replicate ss.length false)) todo (List.replicate ss.length false))[i]? ==some true && (ss[i]?.map (·.kind)) !=some 0)
theorem AR:∀(ss:List bA) (seen:List Bool) (i:Nat) (x:bA),ss[i]? =some x->seen[i]? =some false->um ss (seen.set i true)+(x.to.length+1)=um ss seen
  | [],_,_,_,h,_=>by simp at h
  |_::_,[],_,_,_,h=>by simp at h
  |y::r,b::s,0,x,h1,h2=>by
    simp at h1 h2;subst h1 h2;simp[um];omega
  |y::r,b::s,i+1,x,h1,h2=>by
    have:=AR r s i x (by simpa using h1) (by simpa using h2);simp only[List.set_cons_succ,um];omega
def Good (ss:List bA):Prop:=∀x∈ss,∀j∈x.to,j<ss.length
def bW (ss:List bA) (st:Nat):List Nat:=if ss.length=0 then [] else closed ss [st]
def sY (x:bA) (b:Int):Bool:=decide (x.kind=2/\(b<0\/(x.rule:Int)<b))
def sZ (ss:List bA):List Nat->Int->Int
  | [],b=>b
  |j::r,b=>sZ ss r (match ss[j]? with|some x=>if sY x b then x.rule else b|none=>b)
def bf (ss:List bA) (now:List Nat):Int:=if ss.length=0 then -1 else sZ ss now (-1)
def jN (x:bA) (c:UInt8):Bool:=decide (x.kind=1) && x.set.testBit c.toNat
def stepG (ss:List bA) (c:UInt8):List Nat->List Nat->List Nat
  | [],a=>a
  |j::r,a=>stepG ss c r (match ss[j]? with|some x=>if jN x c then a++x.to else a|none=>a)
def cC (ss:List bA) (c:UInt8) (now:List Nat):List Nat:=if ss.length=0 then [] else closed ss (stepG ss c now [])
theorem th (ss:List bA) (c:UInt8):∀(l a:List Nat),a.length<=(stepG ss c l a).length
  | [],a=>Nat.le_refl _
  |j::r,a=>by
    rw[stepG];refine Nat.le_trans ?_ (th ss c r _);split
    · split<;>simp
    · exact Nat.le_refl _
def jP (ss:List bA):List UInt8->List Nat->Nat->Int×Int->Int×Int
  |l,now,k,b =>
    if now.length=0 then b
    else match l with
      | []=>if 0<=bf ss now then ((k:Int),bf ss now) else b
      |c::r=>jP ss r (cC ss c now) (k+1) (if 0<=bf ss now then ((k:Int),bf ss now) else b)
def de (ss:List bA) (st:Nat) (l:List UInt8):Int×Int:=if ss.length=0 then (0,-1) else jP ss l (bW ss st) 0 (0,-1)
def Eg (ss:List bA) (st:Nat) (s:By) (a:Int):Int×Int:=if ss.length=0\/a<0\/(s.length:Int)<a then (0,-1) else de ss st (s.drop a.toNat)
theorem wI {ss:List bA}{l:List UInt8}{now:List Nat}{b:Int×Int}(h:now.length=0):jP ss l now k b=b:=by cases l<;>(rw[jP];exact if_pos h)
theorem DT (ss:List bA) (st:Nat):(bW ss st).Sublist (List.range ss.length):=by
  unfold bW closed;split
  · exact List.nil_sublist _
  · split
    · exact List.nil_sublist _
    · exact List.filter_sublist
theorem Gj (ss:List bA) (c:UInt8) (now:List Nat):(cC ss c now).Sublist (List.range ss.length):=by
  unfold cC closed;split
  · exact List.nil_sublist _
  · split
    · exact List.nil_sublist _
    · exact List.filter_sublist
def lU:Nat->List By->List bA->List Nat->Int ⊕ (List bA×List Nat)
  |_,[],ss,t=>.inr (ss,t)
  |i,s::r,ss,t=>if (bG s).2≠0 then .inl (bG s).2 else lU (i+1) r (lay (bG s).1 (ss++[⟨2,0,[],i⟩]) ss.length).1 (t++[(lay (bG s).1 (ss++[⟨2,0,[],i⟩]) ss.length).2])
def yM (l:List By):Nat:=(l.map List.length).sum
def fk (rules:List By):Int ⊕ (List bA×Nat) :=
  if rules.length=0\/64<rules.length then .inl 2
  else match lU 0 rules [] [] with
    |.inl e=>.inl e
    |.inr (ss,t)=>if 2000<yM rules then .inl 70 else .inr (ss++[⟨0,0,t,0⟩],ss.length)
theorem rY {s:By}(h0:(bG s).2=0):pW (bG s).1<=401/\vG (bG s).1=true/\s.length<=200:=by
  unfold bG at *;split at h0
  · cases h0
  · rename_i hl;rw[if_neg hl];split at h0
    · rename_i x hx;have:=AT hx;exact⟨by show pW x<=401;omega,this.2,by omega⟩
    · cases h0
theorem zl {l:List By}{s:By}(hx:l[i]? =some s):yM (l.take (i+1))=yM (l.take i)+s.length:=by
  rw[List.take_add_one,hx,Option.toList_some];simp[yM]
inductive Ak (A:By->Prop):By->Prop where
  |nil:Ak A []
  |cons {u v:By}:A u->Ak A v->Ak A (u++v)
end
mutual
def Kn:Nd->By->Prop
  |.mk k s kids=>fun w =>
    if k=1 then ∃c:UInt8,w=[c]/\s.testBit c.toNat=true
    else if k=2 then yD kids w
    else if k=3 then tY kids w
    else if k=6 then w=[]\/ry kids w
    else if k=4 then Ak (ry kids) w
    else if k=5 then ∃u v,w=u++v/\ry kids u/\Ak (ry kids) v
    else w=[]
def yD:List Nd->By->Prop
  | []=>fun w=>w=[]
  |x::r=>fun w=>∃u v,w=u++v/\Kn x u/\yD r v
def tY:List Nd->By->Prop
  | []=>fun _=>False
  |x::r=>fun w=>Kn x w\/tY r w
def ry:List Nd->By->Prop
  | []=>fun w=>w=[]
  |x::_=>fun w=>Kn x w
end
section
variable {k i n to st:Nat}{fin:Nat->Prop}{todo:List Nat}
inductive Acc (F:List bA) (fin:Nat->Prop):Nat->Nat->By->Prop where
  |done {q:Nat}:fin q->Acc F fin 0 q []
  |eps {n q q':Nat}{x:bA}{w:By}:F[q]? =some x->x.kind=0->q'∈x.to->Acc F fin n q' w->Acc F fin (n+1) q w
  |eat {n q q':Nat}{x:bA}{c:UInt8}{w:By}:F[q]? =some x->x.kind=1->x.set.testBit c.toNat=true->q'∈x.to->Acc F fin n q' w->Acc F fin (n+1) q (c::w)
def mu (F:List bA) (fin:Nat->Prop):Prop:=∀q,fin q->∃x,F[q]? =some x/\x.kind=2
theorem Acc.fork {F:List bA}(hf:mu F fin){q:Nat}{x:bA}{w:By}(hx:F[q]? =some x) (hk:x.kind=0) (h:Acc F fin n q w):∃m q',m<n/\q'∈x.to/\Acc F fin m q' w:=by
  cases h with
  |done hq=>obtain⟨y,hy,hk2⟩:=hf _ hq;rw[hx] at hy;cases hy;omega
  |eps hy _ hq h=>rw[hx] at hy;cases hy;exact⟨_,_,Nat.lt_succ_self _,hq,h⟩
  |eat hy hk1 _ _ _=>rw[hx] at hy;cases hy;omega
theorem Acc.Qh {F:List bA}(hf:mu F fin){q:Nat}{x:bA}{w:By}(hx:F[q]? =some x) (hk:x.kind=1) (h:Acc F fin n q w):∃m q' c w',m<n/\w=c::w'/\x.set.testBit c.toNat=true/\q'∈x.to/\Acc F fin m q' w':=by
  cases h with
  |done hq=>obtain⟨y,hy,hk2⟩:=hf _ hq;rw[hx] at hy;cases hy;omega
  |eps hy hk1 _ _=>rw[hx] at hy;cases hy;omega
  |eat hy _ hc hq h=>rw[hx] at hy;cases hy;exact⟨_,_,_,_,Nat.lt_succ_self _,rfl,hc,hq,h⟩
def Splits (F:List bA) (fin:Nat->Prop) (b to:Nat) (A:By->Prop):Prop :=
  (∀n w,Acc F fin n b w->∃u v m,w=u++v/\A u/\m<=n/\Acc F fin m to v)/\(∀u v m,A u->Acc F fin m to v->∃n,Acc F fin n b (u++v))
def HC (F ss':List bA) (lo:Nat):Prop:=∀i,lo<=i->i<ss'.length->F[i]? =ss'[i]?
theorem qA {F:List bA}:Splits F fin to to (fun w=>w=[]) :=
  ⟨fun n w h=>⟨[],w,n,rfl,rfl,Nat.le_refl _,h⟩,fun u v m hu h=>⟨m,by subst hu;exact h⟩⟩
theorem BU {F:List bA}(hf:mu F fin){first again:Nat}{A:By->Prop}{x:bA}(hx:F[again]? =some x) (hk:x.kind=0) (ht:x.to=[first,to]) (h:Splits F fin first again A):Splits F fin again to (Ak A):=by
  constructor
  · intro n
    induction n using Nat.strongRecOn with
    |_ n ih =>
      intro w hw;obtain⟨m,q',hm,hq,hw'⟩:=hw.fork hf hx hk;rw[ht] at hq
      rcases List.mem_cons.1 hq with rfl|hq
      · obtain⟨u1,v1,m1,rfl,hu1,hm1,hv1⟩:=h.1 _ _ hw';obtain⟨u2,v2,m2,rfl,hu2,hm2,hv2⟩:=ih m1 (by omega) _ hv1;exact⟨u1++u2,v2,m2,by simp,.cons hu1 hu2,by omega,hv2⟩
      · have:q'=to:=by simpa using hq
        subst this;exact⟨[],w,m,rfl,.nil,by omega,hw'⟩
  · intro u v m hu hv
    induction hu with
    |nil=>exact⟨m+1,.eps hx hk (by rw[ht];simp) hv⟩
    |cons hA _ ih =>
      obtain⟨n,hn⟩:=ih;obtain⟨n',hn'⟩:=h.2 _ _ _ hA hn;exact⟨n'+1,.eps (q':=first) hx hk (by rw[ht];simp) (by rw[List.append_assoc];exact hn')⟩
theorem vP {F:List bA}{b c:Nat}{A B:By->Prop}(h1:Splits F fin b c A) (h2:Splits F fin c to B):Splits F fin b to (fun w=>∃u v,w=u++v/\A u/\B v):=by
  constructor
  · intro n w hw;obtain⟨u1,v1,m1,rfl,hu1,hm1,hv1⟩:=h1.1 _ _ hw;obtain⟨u2,v2,m2,rfl,hu2,hm2,hv2⟩:=h2.1 _ _ hv1;exact⟨u1++u2,v2,m2,by simp,⟨_,_,rfl,hu1,hu2⟩,by omega,hv2⟩
  · rintro u v m ⟨u1,u2,rfl,hA,hB⟩ hv;obtain⟨n,hn⟩:=h2.2 _ _ _ hB hv;obtain⟨n',hn'⟩:=h1.2 _ _ _ hA hn;exact⟨n',by rw[List.append_assoc];exact hn'⟩
end
mutual
theorem mJ {F:List bA}{fin:Nat->Prop}(hf:mu F fin):∀(x:Nd) (ss:List bA) (to:Nat),HC F (lay x ss to).1 ss.length->Splits F fin (lay x ss to).2 to (Kn x)
  |.mk k s kids,ss,to,hs=>by
    rw[lay] at hs ⊢;unfold Kn
    by_cases h1:k=1
    · simp only[if_pos h1] at hs ⊢;have hx:F[ss.length]? =some ⟨1,s,[to],0⟩:=by rw[hs _ (Nat.le_refl _) (by simp)];simp
      constructor
      · intro n w hw;obtain⟨m,q',c,w',hm,rfl,hc,hq,hw'⟩:=hw.Qh hf hx rfl;have:q'=to:=by simpa using hq
        subst this;exact⟨[c],w',m,rfl,⟨c,rfl,hc⟩,by omega,hw'⟩
      · rintro u v m ⟨c,rfl,hc⟩ hv;exact⟨m+1,.eat hx rfl hc (by simp) hv⟩
    · simp only[if_neg h1] at hs ⊢
      by_cases h2:k=2
      · simp only[if_pos h2] at hs ⊢;exact qj hf kids ss to hs
      · simp only[if_neg h2] at hs ⊢
        by_cases h3:k=3
        · simp only[if_pos h3] at hs ⊢;have hl:=fJ kids ss to;have hx:F[(aS kids ss to).1.length]? =some ⟨0,0,(aS kids ss to).2,0⟩:=by rw[hs _ (by omega) (by simp)];simp
          have ih:=qk hf kids ss to (fun i h1 h2=>by rw[hs i h1 (by simp;omega),List.getElem?_append_left h2]);constructor
          · intro n w hw;obtain⟨m,q',hm,hq,hw'⟩:=hw.fork hf hx rfl;obtain⟨u,v,m',hu⟩:=ih.1 _ _ _ hq hw';exact⟨u,v,m',hu.1,hu.2.1,by omega,hu.2.2.2⟩
          · intro u v m hu hv;obtain⟨n,q',hq,hn⟩:=ih.2 _ _ _ hu hv;exact⟨n+1,.eps hx rfl hq hn⟩
        · simp only[if_neg h3] at hs ⊢
          by_cases h6:k=6
          · simp only[if_pos h6] at hs ⊢;have hl:=gN kids ss to;have hx:F[(bR kids ss to).1.length]? =some ⟨0,0,[(bR kids ss to).2,to],0⟩:=by rw[hs _ (by omega) (by simp)];simp
            have ih:=qi hf kids ss to (fun i h1 h2=>by rw[hs i h1 (by simp;omega),List.getElem?_append_left h2]);constructor
            · intro n w hw;obtain⟨m,q',hm,hq,hw'⟩:=hw.fork hf hx rfl
              rcases List.mem_cons.1 hq with rfl|hq
              · obtain⟨u,v,m',h1,h2,h3,h4⟩:=ih.1 _ _ hw';exact⟨u,v,m',h1,.inr h2,by omega,h4⟩
              · have:q'=to:=by simpa using hq
                subst this;exact⟨[],w,m,rfl,.inl rfl,by omega,hw'⟩
            · rintro u v m (rfl|hu) hv
              · exact⟨m+1,.eps hx rfl (by simp) hv⟩
              · obtain⟨n,hn⟩:=ih.2 _ _ _ hu hv;exact⟨n+1,.eps hx rfl (by simp) hn⟩
          · simp only[if_neg h6] at hs ⊢
            by_cases h45:k=4\/k=5
            · simp only[if_pos h45] at hs ⊢;have hl:=gN kids (ss++[⟨0,0,[],0⟩]) ss.length;simp only[List.length_append,List.length_singleton] at hl
              have hx:F[ss.length]? =some ⟨0,0,[(bR kids (ss++[⟨0,0,[],0⟩]) ss.length).2,to],0⟩:=by
                rw[hs _ (Nat.le_refl _) (by simp;omega)];simp[List.getElem?_set];omega
              have ih:=qi hf kids (ss++[⟨0,0,[],0⟩]) ss.length (fun i h1 h2=>by
                simp only[List.length_append,List.length_singleton] at h1;rw[hs i (by omega) (by simp;omega),List.getElem?_set_ne (by omega)])
              have hst:=BU hf hx rfl rfl ih
              by_cases h4:k=4
              · have h5:¬k=5:=by omega
                simp only[if_pos h4,if_neg h5];exact hst
              · have h5:k=5:=by omega
                simp only[if_neg h4,if_pos h5];exact vP ih hst
            · simp only[if_neg h45] at hs ⊢;have h4:¬k=4:=fun e=>h45 (.inl e)
              have h5:¬k=5:=fun e=>h45 (.inr e)
              simp only[if_neg h4,if_neg h5];exact qA
theorem qj {F:List bA}{fin:Nat->Prop}(hf:mu F fin):∀(l:List Nd) (ss:List bA) (to:Nat),HC F (br l ss to).1 ss.length->Splits F fin (br l ss to).2 to (yD l)
  | [],ss,to,hs=>by
    rw[br];unfold yD;exact qA
  |x::r,ss,to,hs=>by
    rw[br] at hs ⊢;unfold yD;have hl:=jT r ss to;have hl2:=gC x (br r ss to).1 (br r ss to).2;have h2:=qj hf r ss to (fun i h1 h2=>by rw[hs i h1 (by omega),mK x _ _ i h2]);have h1:=mJ hf x (br r ss to).1 (br r ss to).2 (fun i h1 h2=>hs i (by omega) h2);exact vP h1 h2
theorem qk {F:List bA}{fin:Nat->Prop}(hf:mu F fin):∀(l:List Nd) (ss:List bA) (to:Nat),HC F (aS l ss to).1 ss.length ->
    (∀n q w,q∈(aS l ss to).2->Acc F fin n q w->∃u v m,w=u++v/\tY l u/\m<=n/\Acc F fin m to v)/\(∀u v m,tY l u->Acc F fin m to v->∃n q,q∈(aS l ss to).2/\Acc F fin n q (u++v))
  | [],ss,to,hs=>by
    rw[aS];unfold tY;exact⟨fun n q w h=>absurd h List.not_mem_nil,fun u v m h=>False.elim h⟩
  |x::r,ss,to,hs=>by
    rw[aS] at hs ⊢;unfold tY;have hl:=gC x ss to;have hl2:=fJ r (lay x ss to).1 to;have h1:=mJ hf x ss to (fun i h1 h2=>by rw[hs i h1 (by simp only;omega)];exact qL r _ _ i h2);have h2:=qk hf r (lay x ss to).1 to (fun i h1 h2=>hs i (by omega) h2);constructor
    · intro n q w hq hw
      rcases List.mem_cons.1 hq with rfl|hq
      · obtain⟨u,v,m,a,b,c,d⟩:=h1.1 _ _ hw;exact⟨u,v,m,a,.inl b,c,d⟩
      · obtain⟨u,v,m,a,b,c,d⟩:=h2.1 _ _ _ hq hw;exact⟨u,v,m,a,.inr b,c,d⟩
    · rintro u v m (hu|hu) hv
      · obtain⟨n,hn⟩:=h1.2 _ _ _ hu hv;exact⟨n,_,List.mem_cons_self,hn⟩
      · obtain⟨n,q,hq,hn⟩:=h2.2 _ _ _ hu hv;exact⟨n,q,List.mem_cons_of_mem _ hq,hn⟩
theorem qi {F:List bA}{fin:Nat->Prop}(hf:mu F fin):∀(l:List Nd) (ss:List bA) (to:Nat),HC F (bR l ss to).1 ss.length->Splits F fin (bR l ss to).2 to (ry l)
  | [],ss,to,hs=>by
    rw[bR];unfold ry;exact qA
  |x::r,ss,to,hs=>by
    rw[bR] at hs ⊢;unfold ry;exact mJ hf x ss to hs
end
section
variable {k i n to st:Nat}{fin:Nat->Prop}{todo:List Nat}
inductive Kc (ss:List bA):Nat->Nat->Prop where
  |refl (i:Nat):Kc ss i i
  |step {i j k:Nat}{x:bA}:ss[i]? =some x->x.kind=0->j∈x.to->Kc ss j k->Kc ss i k
theorem Kc.snoc {ss:List bA}{j:Nat}{x:bA}(h:Kc ss i j) (hx:ss[j]? =some x) (hk:x.kind=0) (ht:k∈x.to):Kc ss i k:=by
  induction h with
  |refl=>exact .step hx hk ht (.refl _)
  |step a b c _ ih=>exact .step a b c (ih hx)
structure Ke (ss:List bA) (T todo:List Nat) (seen:List Bool):Prop where
  len:seen.length=ss.length
  inn:∀j∈todo,j<ss.length
  sound:∀i,(seen[i]? =some true\/i∈todo)->∃t∈T,Kc ss t i
  cl:∀(i:Nat) (x:bA),seen[i]? =some true->ss[i]? =some x->x.kind=0->∀j∈x.to,seen[j]? =some true\/j∈todo
  all:∀t∈T,seen[t]? =some true\/t∈todo
theorem Er {l:List Nat}(h:l.getLast? =some i):l=l.dropLast++[i]:=by
  obtain⟨h0,rfl⟩:=List.getLast?_eq_some_iff.1 h;simp
theorem tR {ss:List bA}{T:List Nat}(hg:Good ss):∀(n:Nat) (todo:List Nat) (seen:List Bool),todo.length+um ss seen<=n->Ke ss T todo seen->Ke ss T [] (jt ss n todo seen)
  | 0,todo,seen,hn,k=>by
    have:todo=[]:=List.length_eq_zero_iff.1 (by omega);subst this;exact k
  |n+1,todo,seen,hn,k=>by
    unfold jt;split
    · rename_i h;have:todo=[]:=List.getLast?_eq_none_iff.1 h;subst this;exact k
    · rename_i i h;have hsp:=Er h;have hlen:todo.length=todo.dropLast.length+1:=by rw[hsp];simp
      have hi:i∈todo:=by rw[hsp];simp
      have hmem:∀j,j∈todo->j∈todo.dropLast\/j=i:=fun j hj=>by rw[hsp] at hj;simpa using hj
      have hsub:∀j,j∈todo.dropLast->j∈todo:=fun j hj=>by rw[hsp];simp[hj]
      split
      · rename_i hs;refine tR hg n _ _ (by omega) ⟨k.len,fun j hj=>k.inn j (hsub j hj),fun j hj=>k.sound j (hj.imp id (hsub j)),fun j x a b c d e=>?_,fun t ht=>?_⟩
        · rcases k.cl j x a b c d e with h1|h1
          · exact .inl h1
          · rcases hmem d h1 with h2|rfl
            · exact .inr h2
            · exact .inl hs
        · rcases k.all t ht with h1|h1
          · exact .inl h1
          · rcases hmem t h1 with h2|rfl
            · exact .inr h2
            · exact .inl hs
      · rename_i hs;have hil:=k.inn i hi;obtain⟨x,hx⟩:∃x,ss[i]? =some x:=⟨_,List.getElem?_eq_getElem hil⟩
        have hf:seen[i]? =some false:=by
          obtain⟨b,hb⟩:∃b,seen[i]? =some b:=⟨_,List.getElem?_eq_getElem (by rw[k.len];exact hil)⟩
          cases b
          · exact hb
          · exact absurd hb hs
        have hp:=AR ss seen i x hx hf;have hself:(seen.set i true)[i]? =some true:=by rw[List.getElem?_set_self (by rw[k.len];exact hil)]
        have hset:∀j,seen[j]? =some true->(seen.set i true)[j]? =some true:=fun j hj=>by
          by_cases e:i=j
          · subst e;exact hself
          · rw[List.getElem?_set_ne e];exact hj
        have hget:∀j,(seen.set i true)[j]? =some true->j=i\/seen[j]? =some true:=fun j hj=>by
          by_cases e:i=j
          · exact .inl e.symm
          · rw[List.getElem?_set_ne e] at hj;exact .inr hj
        rw[hx];simp only;obtain⟨t0,NC,he0⟩:=k.sound i (.inr hi);have hxm:x∈ss:=List.mem_of_getElem? hx;generalize hnew:(if x.kind=0 then todo.dropLast++x.to else todo.dropLast)=new
        have hin:∀j,j∈new->j∈todo.dropLast\/(x.kind=0/\j∈x.to):=fun j hj=>by
          subst hnew;split at hj
          · rename_i hk
            rcases List.mem_append.1 hj with h1|h1
            · exact .inl h1
            · exact .inr ⟨hk,h1⟩
          · exact .inl hj
        have hold:∀j,j∈todo.dropLast->j∈new:=fun j hj=>by
          subst hnew;split
          · exact List.mem_append_left _ hj
          · exact hj
        have hbig:new.length<=todo.dropLast.length+x.to.length:=by
          subst hnew;split<;>simp
        refine tR hg n _ _ (by omega) ⟨by rw[List.length_set];exact k.len,fun j hj=>?_,fun j hj=>?_,fun j y a b c d e=>?_,fun t ht=>?_⟩
        · rcases hin j hj with h1|⟨_,h1⟩
          · exact k.inn j (hsub j h1)
          · exact hg x hxm j h1
        · rcases hj with h1|h1
          · rcases hget j h1 with rfl|h2
            · exact⟨t0,NC,he0⟩
            · exact k.sound j (.inl h2)
          · rcases hin j h1 with h2|⟨hk,h2⟩
            · exact k.sound j (.inr (hsub j h2))
            · exact⟨t0,NC,he0.snoc hx hk h2⟩
        · rcases hget j a with rfl|a
          · rw[hx] at b;cases b;refine .inr ?_;rw[if_pos c] at hnew;subst hnew;exact List.mem_append_right _ e
          · rcases k.cl j y a b c d e with h1|h1
            · exact .inl (hset d h1)
            · rcases hmem d h1 with h2|rfl
              · exact .inr (hold d h2)
              · exact .inl hself
        · rcases k.all t ht with h1|h1
          · exact .inl (hset t h1)
          · rcases hmem t h1 with h2|rfl
            · exact .inr (hold t h2)
            · exact .inl hself
theorem qZ {ss:List bA}(hg:Good ss) (ht:∀j∈todo,j<ss.length) (j:Nat):j∈closed ss todo↔∃x,ss[j]? =some x/\x.kind≠0/\∃t∈todo,Kc ss t j:=by
  unfold closed;split
  · rename_i h;have:todo=[]:=List.length_eq_zero_iff.1 h;subst this;simp
  · have h0:∀i:Nat,(List.replicate ss.length false)[i]? ≠some true:=fun i hi=>by rw[List.getElem?_replicate] at hi;split at hi<;>cases hi
    have hi0:Ke ss todo todo (List.replicate ss.length false):=⟨by simp,ht,fun i hi=>hi.elim (fun hi=>absurd hi (h0 i)) fun hi=>⟨i,hi,.refl i⟩,fun i x hi=>absurd hi (h0 i),fun t h=>.inr h⟩
    have hi:=tR hg (todo.length+um ss (List.replicate ss.length false)) todo _ (Nat.le_refl _) hi0;generalize jt ss (todo.length+um ss (List.replicate ss.length false)) todo (List.replicate ss.length false)=out at hi;simp only[List.mem_filter,List.mem_range,Bool.and_eq_true,bne_iff_ne,ne_eq];constructor
    · rintro⟨hj,h1,h2⟩;obtain⟨x,hx⟩:∃x,ss[j]? =some x:=⟨_,List.getElem?_eq_getElem hj⟩
      rw[hx] at h2;have h1:out[j]? =some true:=by simpa using h1
      exact⟨x,hx,by simpa using h2,hi.sound j (.inl h1)⟩
    · rintro⟨x,hx,hk,t,ht',he⟩
      have key:∀a b,Kc ss a b->out[a]? =some true->out[b]? =some true:=by
        intro a b he
        induction he with
        |refl=>exact id
        |step hy hk hm _ ih =>
          intro ha;refine ih ?_
          rcases hi.cl _ _ ha hy hk _ hm with h1|h1
          · exact h1
          · cases h1
      have h1:=key _ _ he (by
        rcases hi.all t ht' with h1|h1
        · exact h1
        · cases h1)
      refine⟨(List.getElem?_eq_some_iff.1 hx).1,by rw[h1];rfl,by rw[hx];simpa using hk⟩
theorem Acc.through {ss:List bA}{j:Nat}(h:Kc ss i j){w:By}(k:Acc ss fin n j w):∃m,Acc ss fin m i w:=by
  induction h with
  |refl=>exact⟨n,k⟩
  |step a b c _ ih=>obtain⟨m,hm⟩:=ih k;exact⟨m+1,.eps a b c hm⟩
theorem Acc.stop {ss:List bA}(hf:mu ss fin){w:By}(k:Acc ss fin n i w):∃j x,Kc ss i j/\ss[j]? =some x/\x.kind≠0/\∃m,Acc ss fin m j w:=by
  induction k with
  |done hq=>obtain⟨x,hx,hk⟩:=hf _ hq;exact⟨_,x,.refl _,hx,by omega,_,.done hq⟩
  |eps a b c _ ih=>obtain⟨j,x,he,hr⟩:=ih;exact⟨j,x,.step a b c he,hr⟩
  |eat a b c d e _=>exact⟨_,_,.refl _,a,by omega,_,.eat a b c d e⟩
def zh (ss:List bA) (fin:Nat->Prop) (T:List Nat) (w:By):Prop:=∃j∈T,∃n,Acc ss fin n j w
theorem xV {ss:List bA}(hf:mu ss fin) (hg:Good ss) (ht:∀j∈todo,j<ss.length) (w:By):zh ss fin (closed ss todo) w↔zh ss fin todo w:=by
  constructor
  · rintro⟨j,hj,n,h⟩;obtain⟨x,hx,hk,t,ht',he⟩:=(qZ hg ht j).1 hj;exact⟨t,ht',h.through he⟩
  · rintro⟨t,ht',n,h⟩;obtain⟨j,x,he,hx,hk,hm⟩:=h.stop hf;exact⟨j,(qZ hg ht j).2 ⟨x,hx,hk,t,ht',he⟩,hm⟩
theorem pq (ss:List bA) (c:UInt8) (k:Nat):∀(l a:List Nat),k∈stepG ss c l a↔k∈a\/∃j∈l,∃x,ss[j]? =some x/\jN x c=true/\k∈x.to
  | [],a=>by simp[stepG]
  |j::r,a=>by
    rw[stepG,pq ss c k r];cases hx:ss[j]? with
    |none=>simp[hx]
    |some x =>
      simp only;cases ho:jN x c with
      |true=>simp[hx,ho,or_assoc]
      |false=>simp[hx,ho]
def Flat (ss:List bA) (T:List Nat):Prop:=∀j∈T,∃x,ss[j]? =some x/\x.kind≠0
theorem oN {ss:List bA}(hg:Good ss) (ht:∀j∈todo,j<ss.length):Flat ss (closed ss todo):=fun j hj=>by
  obtain⟨x,hx,hk,_⟩:=(qZ hg ht j).1 hj;exact⟨x,hx,hk⟩
theorem BR {ss:List bA}(hg:Good ss) (c:UInt8) (T:List Nat):∀j∈stepG ss c T [],j<ss.length:=fun j hj=>by
  rcases (pq ss c j T []).1 hj with h|⟨i,_,x,hx,_,hm⟩
  · cases h
  · exact hg x (List.mem_of_getElem? hx) j hm
theorem vO {ss:List bA}(hg:Good ss) (c:UInt8) (T:List Nat):Flat ss (cC ss c T):=by
  unfold cC;split
  · intro j hj;cases hj
  · exact oN hg (BR hg c T)
theorem Gm {ss:List bA}(hf:mu ss fin) (hg:Good ss){T:List Nat}(hT:Flat ss T) (c:UInt8) (w:By):zh ss fin (cC ss c T) w↔zh ss fin T (c::w):=by
  unfold cC;split
  · rename_i h0;constructor
    · rintro⟨j,hj,_⟩;cases hj
    · rintro⟨j,hj,_⟩;obtain⟨x,hx,_⟩:=hT j hj;have:=(List.getElem?_eq_some_iff.1 hx).1;omega
  · rw[xV hf hg (BR hg c T)];constructor
    · rintro⟨k,hk,n,h⟩
      rcases (pq ss c k T []).1 hk with h1|⟨j,hj,x,hx,ho,hm⟩
      · cases h1
      · simp only[jN,Bool.and_eq_true,decide_eq_true_eq] at ho;exact⟨j,hj,n+1,.eat hx ho.1 ho.2 hm h⟩
    · rintro⟨j,hj,n,h⟩;obtain⟨x,hx,hk⟩:=hT j hj;cases h with
      |eps hy hk0 _ _=>rw[hx] at hy;cases hy;exact absurd hk0 hk
      |eat hy hk1 hc hm h=>exact⟨_,(pq ss c _ T []).2 (.inr ⟨j,hj,_,hy,by simp[jN,hk1,hc],hm⟩),_,h⟩
def nJ (ss:List bA) (r:Nat) (q:Nat):Prop:=∃x,ss[q]? =some x/\x.kind=2/\x.rule=r
theorem vv (ss:List bA) (r:Nat):mu ss (nJ ss r):=fun _ ⟨x,hx,hk,_⟩=>⟨x,hx,hk⟩
theorem J3 {ss:List bA}{r:Nat}{T:List Nat}(hT:Flat ss T):zh ss (nJ ss r) T []↔∃j∈T,nJ ss r j:=by
  constructor
  · rintro⟨j,hj,n,h⟩;obtain⟨x,hx,hk⟩:=hT j hj;cases h with
    |done hq=>exact⟨j,hj,hq⟩
    |eps hy hk0 _ _=>rw[hx] at hy;cases hy;exact absurd hk0 hk
  · rintro⟨j,hj,hq⟩;exact⟨j,hj,0,.done hq⟩
def pe (p:Nat->Prop) (r:Int):Prop:=(r= -1/\∀i,¬p i)\/∃n:Nat,r=n/\p n/\∀i,p i->n<=i
theorem yw (ss:List bA):∀(l:List Nat) (b:Int) (p:Nat->Prop),pe p b->pe (fun r=>p r\/∃j∈l,nJ ss r j) (sZ ss l b)
  | [],b,p,h=>by
    rw[sZ]
    rcases h with ⟨rfl,h1⟩|⟨n,rfl,h1,h2⟩
    · exact .inl ⟨rfl,fun i h=>by rcases h with h|⟨_,h,_⟩;exact h1 i h;cases h⟩
    · exact .inr ⟨n,rfl,.inl h1,fun i h=>by rcases h with h|⟨_,h,_⟩;exact h2 i h;cases h⟩
  |j::l,b,p,h=>by
    rw[sZ]
    have key:∀b',pe (fun r=>p r\/nJ ss r j) b'->pe (fun r=>p r\/∃k∈j::l,nJ ss r k) (sZ ss l b'):=fun b' hb'=>by
      have:=yw ss l b' _ hb'
      have e:(fun r=>(p r\/nJ ss r j)\/∃k∈l,nJ ss r k)=(fun r=>p r\/∃k∈j::l,nJ ss r k):=by
        funext r;simp[or_assoc]
      rwa [e] at this
    have no:(∀r,¬nJ ss r j)->pe (fun r=>p r\/nJ ss r j) b:=fun hno=>by
      have e:(fun r=>p r\/nJ ss r j)=p:=by funext r;simp[hno r]
      rw[e];exact h
    cases hx:ss[j]? with
    |none=>exact key b (no fun r ⟨x,hx',_⟩=>by rw[hx] at hx';cases hx')
    |some x =>
      simp only
      by_cases hk:x.kind=2
      · have hfin:∀r,nJ ss r j↔x.rule=r:=fun r=>⟨fun⟨y,hy,_,hr⟩=>by rw[hx] at hy;cases hy;exact hr,fun hr=>⟨x,hx,hk,hr⟩⟩
        by_cases hb:sY x b=true
        · rw[if_pos hb];refine key _ (.inr ⟨x.rule,rfl,.inr ((hfin _).2 rfl),fun i hi=>?_⟩);simp only[sY,decide_eq_true_eq] at hb
          rcases hi with hi|hi
          · rcases h with ⟨rfl,h1⟩|⟨n,rfl,h1,h2⟩
            · exact absurd hi (h1 i)
            · have:=h2 i hi;omega
          · rw[(hfin i).1 hi];exact Nat.le_refl _
        · rw[if_neg hb];refine key _ ?_;simp only[sY,decide_eq_true_eq] at hb
          rcases h with ⟨rfl,h1⟩|⟨n,rfl,h1,h2⟩
          · exact absurd ⟨hk,.inl (by decide)⟩ hb
          · refine .inr ⟨n,rfl,.inl h1,fun i hi=>?_⟩
            rcases hi with hi|hi
            · exact h2 i hi
            · have:=(hfin i).1 hi;omega
      · rw[if_neg (by simp[sY,hk])];exact key b (no fun r ⟨y,hy,hk2,_⟩=>by rw[hx] at hy;cases hy;exact hk hk2)
def lq (ss:List bA) (st:Nat) (w:By):List Nat:=w.foldl (fun T c=>cC ss c T) (bW ss st)
theorem Gw {ss:List bA}(hg:Good ss) (hst:st<ss.length) (w:By):Flat ss (lq ss st w):=by
  have h0:Flat ss (bW ss st):=by
    unfold bW;split
    · intro j hj;cases hj
    · exact oN hg (fun j hj=>by simp at hj;omega)
  unfold lq;generalize bW ss st=T at h0
  induction w generalizing T with
  |nil=>exact h0
  |cons c w ih=>exact ih _ (vO hg c T)
theorem Ip {ss:List bA}(hf:mu ss fin) (hg:Good ss) (hst:st<ss.length) (w v:By):zh ss fin (lq ss st w) v↔∃n,Acc ss fin n st (w++v):=by
  have h0:Flat ss (bW ss st)/\∀v,zh ss fin (bW ss st) v↔∃n,Acc ss fin n st v:=by
    unfold bW;rw[if_neg (by omega)];have ht:∀j∈[st],j<ss.length:=fun j hj=>by simp at hj;omega
    refine⟨oN hg ht,fun v=>?_⟩;rw[xV hf hg ht];simp[zh]
  unfold lq
  have key:∀(w:By) (T:List Nat),Flat ss T->(zh ss fin (w.foldl (fun T c=>cC ss c T) T) v↔zh ss fin T (w++v)):=by
    intro w
    induction w with
    |nil=>intro T _;rfl
    |cons c w ih =>
      intro T hT;rw[List.foldl_cons,ih _ (vO hg c T),Gm hf hg hT];rfl
  rw[key w _ h0.1,h0.2]
theorem ze {ss:List bA}(hg:Good ss) (hst:st<ss.length) (w:By):pe (fun r=>∃n,Acc ss (nJ ss r) n st w) (bf ss (lq ss st w)):=by
  unfold bf;rw[if_neg (by omega)];have h:=yw ss (lq ss st w) (-1) (fun _=>False) (.inl ⟨rfl,fun _ h=>h⟩)
  have e:(fun r=>False\/∃j∈lq ss st w,nJ ss r j)=(fun r=>∃n,Acc ss (nJ ss r) n st w):=by
    funext r
    have:=Ip (vv ss r) hg hst w [];rw[J3 (Gw hg hst w),List.append_nil] at this;simpa using this
  rw[e] at h;exact h
def fC (ss:List bA):Nat:=(ss.map fun x=>x.to.length+1).sum
theorem gQ (a b:List bA):fC (a++b)=fC a+fC b:=by simp[fC]
theorem BP:∀(ss:List bA) (i:Nat) (y x:bA),ss[i]? =some y->fC (ss.set i x)+y.to.length=fC ss+x.to.length
  | [],i,y,x,h=>by simp at h
  |z::r,0,y,x,h=>by simp at h;subst h;simp[fC];omega
  |z::r,i+1,y,x,h=>by have:=BP r i y x (by simpa using h);simp[fC] at *;omega
theorem ID:∀(ss:List bA) (seen:List Bool),um ss seen<=fC ss
  | [],_=>by simp[um]
  |x::r,[]=>by simp[um]
  |x::r,b::s=>by
    have:=ID r s;simp only[um,fC,List.map_cons,List.sum_cons] at *;split<;>omega
end
mutual
theorem vp:∀(x:Nd) (ss:List bA) (to:Nat),fC (lay x ss to).1+1<=fC ss+4*pW x
  |.mk k s kids,ss,to=>by
    rw[lay];simp only[pW];split
    · rw[gQ];simp[fC];omega
    · split
      · have:=wU kids ss to;omega
      · split
        · have:=wW kids ss to;have hl:=oC kids ss to;simp only[gQ];simp[fC] at *;omega
        · split
          · have:=wT kids ss to;simp only[gQ];simp[fC] at *;omega
          · split
            · have:=wT kids (ss++[⟨0,0,[],0⟩]) ss.length;have h2:=BP (bR kids (ss++[⟨0,0,[],0⟩]) ss.length).1 ss.length ⟨0,0,[],0⟩ ⟨0,0,[(bR kids (ss++[⟨0,0,[],0⟩]) ss.length).2,to],0⟩ (by rw[qK kids _ _ _ (by simp)];simp);rw[gQ] at this;simp[fC] at *;omega
            · simp;omega
theorem wU:∀(l:List Nd) (ss:List bA) (to:Nat),fC (br l ss to).1<=fC ss+4*gZ l
  | [],ss,to=>by simp[br]
  |x::r,ss,to=>by
    rw[br];have h1:=wU r ss to;have h2:=vp x (br r ss to).1 (br r ss to).2;simp only[gZ];omega
theorem wW:∀(l:List Nd) (ss:List bA) (to:Nat),fC (aS l ss to).1+l.length<=fC ss+4*gZ l
  | [],ss,to=>by simp[aS]
  |x::r,ss,to=>by
    rw[aS];have h1:=vp x ss to;have h2:=wW r (lay x ss to).1 to;simp only[gZ,List.length_cons];omega
theorem wT:∀(l:List Nd) (ss:List bA) (to:Nat),fC (bR l ss to).1<=fC ss+4*gZ l
  | [],ss,to=>by simp[bR]
  |x::r,ss,to=>by
    rw[bR];have h1:=vp x ss to;simp only[gZ];omega
end
section
variable {k i n to st:Nat}{fin:Nat->Prop}{todo:List Nat}
theorem Good.append {a b:List bA}(ha:Good a) (hb:∀x∈b,∀j∈x.to,j<(a++b).length):Good (a++b):=fun x hx j hj=>by
  rcases List.mem_append.1 hx with h|h
  · have:=ha x h j hj;simp;omega
  · exact hb x h j hj
theorem Good.set {a:List bA}(ha:Good a){i:Nat}{y:bA}(hy:∀j∈y.to,j<a.length):Good (a.set i y):=fun x hx j hj=>by
  rw[List.length_set]
  rcases List.mem_or_eq_of_mem_set hx with h|rfl
  · exact ha x h j hj
  · exact hy j hj
end
mutual
theorem sx:∀(x:Nd) (ss:List bA) (to:Nat),Good ss->to<ss.length->Good (lay x ss to).1/\(lay x ss to).2<(lay x ss to).1.length
  |.mk k s kids,ss,to,hg,ht=>by
    rw[lay];split
    · exact⟨hg.append (by intro x hx j hj;simp at hx;subst hx;simp at hj;subst hj;simp;omega),by simp⟩
    · split
      · exact uz kids ss to hg ht
      · split
        · have h:=uD kids ss to hg ht;exact⟨h.1.append (by intro x hx j hj;simp at hx;subst hx;have:=h.2 j hj;simp;omega),by simp⟩
        · split
          · have h:=uy kids ss to hg ht;have hl:=gN kids ss to;exact⟨h.1.append (by intro x hx j hj;simp at hx;subst hx;simp at hj;simp;rcases hj with rfl|rfl<;>omega),by simp⟩
          · split
            · have h:=uy kids (ss++[⟨0,0,[],0⟩]) ss.length (hg.append (by intro x hx j hj;simp at hx;subst hx;cases hj)) (by simp);have hl:=gN kids (ss++[⟨0,0,[],0⟩]) ss.length;simp only[List.length_append,List.length_singleton] at hl;refine⟨h.1.set (by intro j hj;simp at hj;rcases hj with rfl|rfl;exact h.2;omega),?_⟩;simp only[List.length_set];split
              · exact h.2
              · omega
            · exact⟨hg,ht⟩
theorem uz:∀(l:List Nd) (ss:List bA) (to:Nat),Good ss->to<ss.length->Good (br l ss to).1/\(br l ss to).2<(br l ss to).1.length
  | [],ss,to,hg,ht=>by rw[br];exact⟨hg,ht⟩
  |x::r,ss,to,hg,ht=>by
    rw[br];have h1:=uz r ss to hg ht;exact sx x _ _ h1.1 h1.2
theorem uD:∀(l:List Nd) (ss:List bA) (to:Nat),Good ss->to<ss.length->Good (aS l ss to).1/\∀j∈(aS l ss to).2,j<(aS l ss to).1.length
  | [],ss,to,hg,ht=>by rw[aS];exact⟨hg,fun j hj=>by cases hj⟩
  |x::r,ss,to,hg,ht=>by
    rw[aS];have h1:=sx x ss to hg ht;have hl:=gC x ss to;have h2:=uD r (lay x ss to).1 to h1.1 (by omega);have hl2:=fJ r (lay x ss to).1 to;refine⟨h2.1,fun j hj=>?_⟩
    rcases List.mem_cons.1 hj with rfl|hj
    · simp only;omega
    · exact h2.2 j hj
theorem uy:∀(l:List Nd) (ss:List bA) (to:Nat),Good ss->to<ss.length->Good (bR l ss to).1/\(bR l ss to).2<(bR l ss to).1.length
  | [],ss,to,hg,ht=>by rw[bR];exact⟨hg,ht⟩
  |x::r,ss,to,hg,ht=>by rw[bR];exact sx x ss to hg ht
end
section
variable {k i n to st:Nat}{fin:Nat->Prop}{todo:List Nat}
structure Pa (i:Nat) (rules:List By) (ss:List bA) (t:List Nat) (ss':List bA) (t':List Nat):Prop where
  pre:∀j,j<ss.length->ss'[j]? =ss[j]?
  len:ss.length<=ss'.length/\ss'.length<=ss.length+402*rules.length
  tot:fC ss'<=fC ss+1605*rules.length
  good:Good ss->(∀j∈t,j<ss.length)->Good ss'/\∀j∈t',j<ss'.length
  starts:∃t2,t'=t++t2/\t2.length=rules.length/\∀k s,rules[k]? =some s->(bG s).2=0/\∃a b,t2[k]? =some b/\ss.length<=a/\ss'[a]? =some ⟨2,0,[],i+k⟩/\∀F fin,HC F ss' ss.length->mu F fin->Splits F fin b a (Kn (bG s).1)
theorem wJ:∀(rules:List By) (i:Nat) (ss:List bA) (t:List Nat) (ss':List bA) (t':List Nat),lU i rules ss t= .inr (ss',t')->Pa i rules ss t ss' t'
  | [],i,ss,t,ss',t',h=>by
    rw[lU] at h;cases h;exact⟨fun _ _=>rfl,by simp,by simp,fun a b=>⟨a,b⟩,[],by simp,rfl,fun k s h=>by simp at h⟩
  |s::r,i,ss,t,ss',t',h=>by
    rw[lU] at h;split at h
    · cases h
    · rename_i he;have he:(bG s).2=0:=by simpa using he
      have hsm:=rY he;have ih:=wJ r _ _ _ _ _ h;have hpre:=mK (bG s).1 (ss++[⟨2,0,[],i⟩]) ss.length;have hlen:=gC (bG s).1 (ss++[⟨2,0,[],i⟩]) ss.length;have htot:=vp (bG s).1 (ss++[⟨2,0,[],i⟩]) ss.length;simp only[List.length_append,List.length_singleton,gQ] at hpre hlen htot;have hL:fC [(⟨2,0,[],i⟩:bA)]=1:=by simp[fC]
      generalize hly:lay (bG s).1 (ss++[⟨2,0,[],i⟩]) ss.length=ly at *;obtain⟨t2,KV,htl,hst⟩:=ih.starts;refine⟨fun j hj=>?_,⟨?_,?_⟩,?_,fun hg ht=>?_,ly.2::t2,by simp[KV],by simp[htl],fun k s' hk=>?_⟩
      · rw[ih.pre j (by omega),hpre j (by omega),List.getElem?_append_left hj]
      · have:=ih.len.1;omega
      · have:=ih.len.2;simp only[List.length_cons];omega
      · have:=ih.tot;simp only[List.length_cons];omega
      · have hgl:=sx (bG s).1 (ss++[⟨2,0,[],i⟩]) ss.length (hg.append (by intro x hx j hj;simp at hx;subst hx;cases hj)) (by simp);rw[hly] at hgl
        exact ih.good hgl.1 (fun j hj=>by
          rcases List.mem_append.1 hj with h1|h1
          · have:=ht j h1;omega
          · have:j=ly.2:=by simpa using h1
            rw[this];exact hgl.2)
      · cases k with
        |zero =>
          simp at hk;subst hk;refine⟨he,ss.length,ly.2,rfl,Nat.le_refl _,?_,fun F fin hS hF=>?_⟩
          · rw[ih.pre _ (by omega),hpre _ (by omega)];simp
          · have:=mJ hF (bG s).1 (ss++[⟨2,0,[],i⟩]) ss.length (fun j h1 h2=>by
              rw[hly] at h2 ⊢;simp only[List.length_append,List.length_singleton] at h1;rw[hS j (by omega) (by have:=ih.len.1;omega)];exact ih.pre j h2)
            rwa [hly] at this
        |succ k =>
          obtain⟨h0,a,b,hb,hla,ha,hsp⟩:=hst k s' (by simpa using hk);exact⟨h0,a,b,by simpa using hb,by omega,by rw[ha];simp;omega,fun F fin hS hF=>hsp F fin (fun j h1 h2=>hS j (by omega) h2) hF⟩
structure Made (rules:List By) (ss:List bA) (st:Nat):Prop where
  good:Good ss
  stl:st<ss.length
  len:ss.length<=30000
  tot:fC ss<=110000
  num:rules.length<=64
  lng:∀r w,(∃n,Acc ss (nJ ss r) n st w)↔∃s,rules[r]? =some s/\Kn (bG s).1 w
theorem fH {rules:List By}{ss:List bA}(h:fk rules= .inr (ss,st)):Made rules ss st:=by
  unfold fk at h;split at h
  · cases h
  · rename_i hn;split at h
    · cases h
    · rename_i ss0 t hm;split at h
      · cases h
      · cases h;have k:=wJ _ _ _ _ _ _ hm;obtain⟨t2,KV,htl,hst⟩:=k.starts;have ht:t=t2:=by simpa using KV
        subst ht;have hl:=k.len.2;have htot:=k.tot;have hgd:=k.good (by intro x hx;cases hx) (by intro j hj;cases hj);simp only[List.length_nil] at hl;have h0:fC ([]:List bA)=0:=rfl;have hF:(ss0++[⟨0,0,t,0⟩])[ss0.length]? =some ⟨0,0,t,0⟩:=by simp
        have hS:HC (ss0++[⟨0,0,t,0⟩]) ss0 ([]:List bA).length:=fun i _ h2=>List.getElem?_append_left h2
        refine⟨hgd.1.append (by intro x hx j hj;simp at hx;subst hx;have:=hgd.2 j hj;simp;omega),by simp,by simp;omega,?_,by omega,fun r w=>?_⟩
        · have hq:fC [(⟨0,0,t,0⟩:bA)]=t.length+1:=by simp[fC]
          rw[gQ,hq];omega
        · constructor
          · rintro⟨n,hw⟩;obtain⟨m,q',_,hq,hw'⟩:=hw.fork (vv _ r) hF rfl;obtain⟨k',hk'⟩:=List.getElem?_of_mem hq;have hkl:k'<t.length:=(List.getElem?_eq_some_iff.1 hk').1;obtain⟨s,hs⟩:∃s,rules[k']? =some s:=⟨_,List.getElem?_eq_getElem (by omega)⟩
            obtain⟨_,a,b,hb,_,ha,hsp⟩:=hst k' s hs;rw[hk'] at hb;cases hb;obtain⟨u,v,m',rfl,hu,_,hv⟩:=(hsp _ _ hS (vv _ r)).1 _ _ hw';have ha':(ss0++[(⟨0,0,t,0⟩:bA)])[a]? =some ⟨2,0,[],0+k'⟩:=by rw[hS a (Nat.zero_le _) (List.getElem?_eq_some_iff.1 ha).1,ha]
            cases hv with
            |done hfin =>
              obtain⟨x,hx,_,hr⟩:=hfin;rw[ha'] at hx;cases hx;simp only[Nat.zero_add] at hr;subst hr;exact⟨s,hs,by rw[List.append_nil];exact hu⟩
            |eps hx hk _ _=>rw[ha'] at hx;cases hx;cases hk
            |eat hx hk _ _ _=>rw[ha'] at hx;cases hx;cases hk
          · rintro⟨s,hs,hw⟩;obtain⟨_,a,b,hb,_,ha,hsp⟩:=hst r s hs;have ha':(ss0++[(⟨0,0,t,0⟩:bA)])[a]? =some ⟨2,0,[],0+r⟩:=by rw[hS a (Nat.zero_le _) (List.getElem?_eq_some_iff.1 ha).1,ha]
            obtain⟨n,hn⟩:=(hsp _ _ hS (vv _ r)).2 w [] 0 hw (.done ⟨_,ha',rfl,by simp⟩);rw[List.append_nil] at hn;exact⟨n+1,.eps (q':=b) hF rfl (show b∈t from List.mem_of_getElem? hb) hn⟩
theorem Ay {f:Nat->Nat}:∀{a b:List Nat},a.Sublist b->(a.map f).sum<=(b.map f).sum
  |_,_,.slnil=>by simp
  |_,_,.cons _ h=>by have:=Ay (f:=f) h;simp;omega
  |_,_,.cons_cons _ h=>by have:=Ay (f:=f) h;simp;omega
theorem FD:∀ss:List bA,(ss.map fun x=>x.to.length).sum<=fC ss
  | []=>by simp[fC]
  |x::r=>by have:=FD r;simp[fC] at *;omega
theorem GF (ss:List bA):((List.range ss.length).map fun i=>match ss[i]? with|some x=>x.to.length|none=>0).sum<=fC ss:=by
  have:((List.range ss.length).map fun i=>match ss[i]? with|some x=>x.to.length|none=>0)=ss.map fun x=>x.to.length:=by
    apply List.ext_getElem
    · simp
    · intro i h1 h2;simp at h2;simp[h2]
  rw[this];exact FD ss
theorem zq (ss:List bA) (c:UInt8):∀(l a:List Nat),(stepG ss c l a).length<=a.length+(l.map fun i=>match ss[i]? with|some x=>x.to.length|none=>0).sum
  | [],a=>by simp[stepG]
  |j::r,a=>by
    rw[stepG];refine Nat.le_trans (zq ss c r _) ?_;simp only[List.map_cons,List.sum_cons];cases ss[j]? with
    |none=>simp
    |some x=>simp only;split<;>simp<;>omega
theorem Gn {ss:List bA}(c:UInt8){now:List Nat}(h:now.Sublist (List.range ss.length)):(stepG ss c now []).length<=fC ss:=by
  have h1:=zq ss c now [];have h2:=Ay (f:=fun i=>match ss[i]? with|some x=>x.to.length|none=>0) h;have h3:=GF ss;simp only[List.length_nil] at h1;omega
def IsMatch (P:Nat->Nat->Prop) (n:Nat) (o:Int×Int):Prop :=
  (o=(0,-1)/\∀k r,k<=n->¬P k r)\/∃k r:Nat,o=((k:Int),(r:Int))/\k<=n/\P k r/\(∀k' r',k'<=n->P k' r'->k'<=k)/\∀r',P k r'->r<=r'
def oS (ac:Nat->Int):Nat->Nat->Int×Int->Int×Int
  | 0,k,b=>if 0<=ac k then ((k:Int),ac k) else b
  |n+1,k,b=>oS ac n (k+1) (if 0<=ac k then ((k:Int),ac k) else b)
def rz (P:Nat->Nat->Prop) (m:Nat) (o:Int×Int):Prop :=
  (o=(0,-1)/\∀k r,k<m->¬P k r)\/∃k r:Nat,o=((k:Int),(r:Int))/\k<m/\P k r/\(∀k' r',k'<m->P k' r'->k'<=k)/\∀r',P k r'->r<=r'
theorem rz.next {P:Nat->Nat->Prop}{m:Nat}{o:Int×Int}{a:Int}(h:rz P m o) (ha:pe (P m) a):rz P (m+1) (if 0<=a then ((m:Int),a) else o):=by
  rcases ha with ⟨rfl,h1⟩|⟨r,rfl,h1,h2⟩
  · rw[if_neg (by decide)]
    rcases h with ⟨rfl,h3⟩|⟨k,r,rfl,hk,hp,h3,h4⟩
    · exact .inl ⟨rfl,fun k r hk hp=>by
        by_cases e:k=m
        · subst e;exact h1 _ hp
        · exact h3 k r (by omega) hp⟩
    · exact .inr ⟨k,r,rfl,by omega,hp,fun k' r' hk' hp'=>by
        by_cases e:k'=m
        · subst e;exact absurd hp' (h1 _)
        · exact h3 k' r' (by omega) hp',h4⟩
  · rw[if_pos (by omega)];exact .inr ⟨m,r,rfl,by omega,h1,fun k' r' hk' _=>by omega,h2⟩
theorem yb {P:Nat->Nat->Prop}{ac:Nat->Int}:∀(n k:Nat) (b:Int×Int),rz P k b->(∀j,k<=j->j<=k+n->pe (P j) (ac j))->rz P (k+n+1) (oS ac n k b)
  | 0,k,b,h,ha=>by rw[oS];exact h.next (ha k (Nat.le_refl _) (by omega))
  |n+1,k,b,h,ha=>by
    rw[oS];have:=yb n (k+1) _ (h.next (ha k (Nat.le_refl _) (by omega))) (fun j h1 h2=>ha j (by omega) (by omega))
    rwa [show k+(n+1)+1=k+1+n+1 by omega]
theorem rz.match {P:Nat->Nat->Prop}{o:Int×Int}(h:rz P (n+1) o):IsMatch P n o:=by
  rcases h with ⟨rfl,h1⟩|⟨k,r,rfl,hk,hp,h1,h2⟩
  · exact .inl ⟨rfl,fun k r hk=>h1 k r (by omega)⟩
  · exact .inr ⟨k,r,rfl,by omega,hp,fun k' r' hk'=>h1 k' r' (by omega),h2⟩
theorem Gl (ss:List bA) (c:UInt8):cC ss c []=[]:=by simp[cC,stepG,closed]
theorem uh (ss:List bA) (st:Nat) (a b:By):lq ss st (a++b)=b.foldl (fun T c=>cC ss c T) (lq ss st a):=by simp[lq,List.foldl_append]
theorem Fm (ss:List bA):∀w:By,w.foldl (fun T c=>cC ss c T) ([]:List Nat)=[]
  | []=>rfl
  |c::w=>by rw[List.foldl_cons,Gl,Fm ss w]
theorem xZ {ac:Nat->Int}:∀(n k:Nat) (b:Int×Int),(∀j,k<=j->j<=k+n->ac j<0)->oS ac n k b=b
  | 0,k,b,h=>by rw[oS,if_neg (by have:=h k (Nat.le_refl _) (by omega);omega)]
  |n+1,k,b,h=>by
    rw[oS,if_neg (by have:=h k (Nat.le_refl _) (by omega);omega)];exact xZ n (k+1) b (fun j h1 h2=>h j (by omega) (by omega))
theorem Cs {ss:List bA}:∀(l a:By) (b:Int×Int),jP ss l (lq ss st a) a.length b=oS (fun k=>bf ss (lq ss st ((a++l).take k))) l.length a.length b:=by
  have none_:∀(l a:By) (b:Int×Int),lq ss st a=[]->jP ss l (lq ss st a) a.length b=oS (fun k=>bf ss (lq ss st ((a++l).take k))) l.length a.length b:=by
    intro l a b h;rw[wI (by rw[h];rfl),xZ];intro j h1 h2;have:(a++l).take j=a++l.take (j-a.length):=by rw[List.take_append,List.take_of_length_le h1]
    rw[this,uh,h,Fm];unfold bf;split
    · decide
    · simp[sZ]
  intro l
  induction l with
  |nil =>
    intro a b
    by_cases h:lq ss st a=[]
    · exact none_ [] a b h
    · rw[jP,if_neg (by simpa using h),List.length_nil,oS];simp
  |cons c r ih =>
    intro a b
    by_cases h:lq ss st a=[]
    · exact none_ (c::r) a b h
    · rw[jP,if_neg (by simpa using h)];simp only[List.length_cons,oS];have h1:=ih (a++[c]) (if 0<=bf ss (lq ss st a) then ((a.length:Int),bf ss (lq ss st a)) else b);rw[uh] at h1;simp only[List.foldl_cons,List.foldl_nil,List.length_append,List.length_singleton,List.append_assoc,List.singleton_append] at h1;rw[h1];have e:(a++c::r).take a.length=a:=by simp
      rw[e]
theorem oz {rules:List By}{ss:List bA}(k:Made rules ss st) (l:By):IsMatch (fun n r=>∃s,rules[r]? =some s/\Kn (bG s).1 (l.take n)) l.length (de ss st l):=by
  have hst:=k.stl;unfold de;rw[if_neg (by omega)];have h:=Cs (ss:=ss) (st:=st) l [] (0,-1);have e:lq ss st []=bW ss st:=rfl;rw[e] at h;simp only[List.length_nil,List.nil_append] at h;rw[h]
  have:=yb (P:=fun n r=>∃s,rules[r]? =some s/\Kn (bG s).1 (l.take n)) (ac:=fun k=>bf ss (lq ss st (l.take k))) l.length 0 (0,-1) (.inl ⟨rfl,fun k r hk=>by omega⟩) (fun j _ _=>by
    have h1:=ze k.good k.stl (l.take j)
    have e:(fun r=>∃n,Acc ss (nJ ss r) n st (l.take j))=(fun r=>∃s,rules[r]? =some s/\Kn (bG s).1 (l.take j)):=by
      funext r;exact propext (k.lng r _)
    rw[e] at h1;exact h1)
  rw[Nat.zero_add] at this;exact this.match
end
end Go.Proofs.YtpjgdgdnbkjoiaaGreatDoor
