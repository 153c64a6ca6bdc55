/- What the proof of the statement leans on (part 17). -/
import Derived.Test.YtdgckfkoihcmjaaGreatDoorRows
import Derived.Test.YtdgckfkoihcmjaaGreatDoorQp

namespace Go.Proofs.YtdgckfkoihcmjaaGreatDoor.H
open Go Go.Lw
theorem Na:aO Tryz.prog 106=some false:=by kernel_rfl
theorem M9:aO Tryz.prog 126=some false:=by kernel_rfl
theorem M8:aO Tryz.prog 129=some false:=by kernel_rfl
theorem M7:aO Tryz.prog 130=some false:=by kernel_rfl
theorem M6:aO Tryz.prog 131=some true:=by kernel_rfl
theorem Kp:aO Tryz.prog 132=some false:=by kernel_rfl
theorem xI:aO Tryz.prog 134=some true:=by kernel_rfl
theorem M5:aO Tryz.prog 140=some true:=by kernel_rfl
theorem M4:aO Tryz.prog 144=some false:=by kernel_rfl
theorem Ko:aO Tryz.prog 146=some true:=by kernel_rfl
theorem M3:aO Tryz.prog 149=some false:=by kernel_rfl
theorem M1:aO Tryz.prog 155=some true:=by kernel_rfl
theorem M0:aO Tryz.prog 172=some true:=by kernel_rfl
theorem MZ:aO Tryz.prog 198=some false:=by kernel_rfl
theorem PO:aO Tryz.prog 2=some false:=by kernel_rfl
theorem MY:aO Tryz.prog 214=some true:=by kernel_rfl
theorem MX:aO Tryz.prog 215=some true:=by kernel_rfl
theorem OG:aO Tryz.prog 25=some false:=by kernel_rfl
theorem OF:aO Tryz.prog 27=some true:=by kernel_rfl
theorem MW:aO Tryz.prog 271=some false:=by kernel_rfl
theorem MV:aO Tryz.prog 279=some true:=by kernel_rfl
theorem MU:aO Tryz.prog 28=some false:=by kernel_rfl
theorem FB:aO Tryz.prog 3=some false:=by kernel_rfl
theorem MT:aO Tryz.prog 30=some true:=by kernel_rfl
theorem OE:aO Tryz.prog 32=some true:=by kernel_rfl
theorem Lg:aO Tryz.prog 33=some false:=by kernel_rfl
theorem OD:aO Tryz.prog 36=some false:=by kernel_rfl
theorem OC:aO Tryz.prog 38=some true:=by kernel_rfl
theorem OB:aO Tryz.prog 39=some false:=by kernel_rfl
theorem PN:aO Tryz.prog 4=some false:=by kernel_rfl
theorem OA:aO Tryz.prog 41=some true:=by kernel_rfl
theorem PM:aO Tryz.prog 5=some false:=by kernel_rfl
theorem Oz:aO Tryz.prog 54=some true:=by kernel_rfl
theorem Oy:aO Tryz.prog 79=some false:=by kernel_rfl
theorem MS:aO Tryz.prog 82=some false:=by kernel_rfl
theorem Lf:aO Tryz.prog 85=some false:=by kernel_rfl
theorem Ox:aO Tryz.prog 87=some false:=by kernel_rfl
theorem Le:aO Tryz.prog 9=some false:=by kernel_rfl
theorem Ov:aO Tryz.prog 92=some true:=by kernel_rfl
theorem Ou:aO Tryz.prog 95=some false:=by kernel_rfl
theorem Fl (a0:Option Addr) (n0 c0:Nat) (a2:Int):Tryz.prog.built 100 [(0,.slice a0 n0 c0),(2,.int .i64 a2)]=some #[.slice a0 n0 c0,.int .i64 (0),.int .i64 a2,.bool false,.int .i64 (0)]:=by kernel_rfl
theorem Lc  : Tryz.prog.built 128 []=some #[.slice none 0 0,.int .i64 (0)]:=by kernel_rfl
theorem C0  : Tryz.prog.built 134 []=some #[.int .i64 (0),.int .u64 (0),.int .u64 (0),.int .u64 (0),.int .u64 (0),.slice none 0 0]:=by kernel_rfl
theorem qS (a0:Int) (a2:Option Addr) (n2 c2:Nat):Tryz.prog.built 134 [(0,.int .i64 a0),(2,.slice a2 n2 c2)]=some #[.int .i64 a0,.int .u64 (0),.int .u64 (0),.int .u64 (0),.int .u64 (0),.slice a2 n2 c2]:=by kernel_rfl
theorem DO (a0:Int):Tryz.prog.built 134 [(0,.int .i64 a0)]=some #[.int .i64 a0,.int .u64 (0),.int .u64 (0),.int .u64 (0),.int .u64 (0),.slice none 0 0]:=by kernel_rfl
theorem HR  : Tryz.prog.built 140 []=some #[.int .i64 (0),.int .u64 (0),.int .u64 (0),.int .u64 (0),.int .u64 (0),.slice none 0 0,.int .i64 (0)]:=by kernel_rfl
theorem BE (a0:Int) (a1_0 a1_1 a1_2 a1_3:Value) (a2:Option Addr) (n2 c2:Nat):Tryz.prog.built 140 [(0,.int .i64 a0),(1,.agg #[a1_0,a1_1,a1_2,a1_3]),(2,.slice a2 n2 c2)]=some #[.int .i64 a0,a1_0,a1_1,a1_2,a1_3,.slice a2 n2 c2,.int .i64 (0)]:=by kernel_rfl
theorem Fk (a0:Int) (a3:Int):Tryz.prog.built 140 [(0,.int .i64 a0),(3,.int .i64 a3)]=some #[.int .i64 a0,.int .u64 (0),.int .u64 (0),.int .u64 (0),.int .u64 (0),.slice none 0 0,.int .i64 a3]:=by kernel_rfl
theorem zx (a2:Option Addr) (n2 c2:Nat):Tryz.prog.built 140 [(2,.slice a2 n2 c2)]=some #[.int .i64 (0),.int .u64 (0),.int .u64 (0),.int .u64 (0),.int .u64 (0),.slice a2 n2 c2,.int .i64 (0)]:=by kernel_rfl
theorem Lb  : Tryz.prog.built 146 []=some #[.string ⟨#[]⟩,.int .i64 (0),.int .i64 (0)]:=by kernel_rfl
theorem HQ  : Tryz.prog.built 151 []=some #[.slice none 0 0,.slice none 0 0]:=by kernel_rfl
theorem se (a0:Int) (a1:ByteArray) (a2:Int):Tryz.prog.built 172 [(0,.int .i64 a0),(1,.string a1),(2,.int .i64 a2)]=some #[.int .i64 a0,.string a1,.int .i64 a2]:=by kernel_rfl
theorem iD (a0:Int) (a1:Int) (a2:Int) (a3:Int) (a4:Int) (a5:Int) (a6:Int) (a7:Int) (a8:Int) (a9:Int) (a10:Int):Tryz.prog.built 185 [(0,.int .i64 a0),(1,.int .i64 a1),(2,.int .i64 a2),(3,.int .i64 a3),(4,.int .i64 a4),(5,.int .i64 a5),(6,.int .i64 a6),(7,.int .i64 a7),(8,.int .i64 a8),(9,.int .i64 a9),(10,.int .i64 a10)]=some #[.int .i64 a0,.int .i64 a1,.int .i64 a2,.int .i64 a3,.int .i64 a4,.int .i64 a5,.int .i64 a6,.int .i64 a7,.int .i64 a8,.int .i64 a9,.int .i64 a10]:=by kernel_rfl
theorem gR  : Tryz.prog.built 188 []=some #[]:=by kernel_rfl
theorem Jz (a0:ByteArray):Tryz.prog.built 191 [(0,.string a0)]=some #[.string a0]:=by kernel_rfl
theorem dm (a0:ByteArray) (a1:ByteArray) (a2:ByteArray) (a3:ByteArray) (a4:ByteArray) (a5:ByteArray) (a6:ByteArray) (a7:ByteArray) (a8:ByteArray) (a9:ByteArray) (a10:ByteArray) (a11:ByteArray) (a12:ByteArray):Tryz.prog.built 24 [(0,.string a0),(1,.string a1),(2,.string a2),(3,.string a3),(4,.string a4),(5,.string a5),(6,.string a6),(7,.string a7),(8,.string a8),(9,.string a9),(10,.string a10),(11,.string a11),(12,.string a12)]=some #[.string a0,.string a1,.string a2,.string a3,.string a4,.string a5,.string a6,.string a7,.string a8,.string a9,.string a10,.string a11,.string a12]:=by kernel_rfl
theorem HP  : Tryz.prog.built 27 []=some #[.int .i64 (0),.string ⟨#[]⟩,.slice none 0 0]:=by kernel_rfl
theorem iz (a0:Int) (a1:ByteArray):Tryz.prog.built 27 [(0,.int .i64 a0),(1,.string a1)]=some #[.int .i64 a0,.string a1,.slice none 0 0]:=by kernel_rfl
theorem jA (a0:Int) (a1:ByteArray) (a2:Option Addr) (n2 c2:Nat):Tryz.prog.built 27 [(0,.int .i64 a0),(1,.string a1),(2,.slice a2 n2 c2)]=some #[.int .i64 a0,.string a1,.slice a2 n2 c2]:=by kernel_rfl
theorem BD (a0:Int) (a2:Option Addr) (n2 c2:Nat):Tryz.prog.built 27 [(0,.int .i64 a0),(2,.slice a2 n2 c2)]=some #[.int .i64 a0,.string ⟨#[]⟩,.slice a2 n2 c2]:=by kernel_rfl
theorem La (a0:Int):Tryz.prog.built 27 [(0,.int .i64 a0)]=some #[.int .i64 a0,.string ⟨#[]⟩,.slice none 0 0]:=by kernel_rfl
theorem dJ  : Tryz.prog.built 30 []=some #[.int .i64 (0),.int .i64 (0),.string ⟨#[]⟩,.string ⟨#[]⟩,.int .i64 (0),.string ⟨#[]⟩,.slice none 0 0,.slice none 0 0]:=by kernel_rfl
theorem iy (a0:Int) (a1:Int):Tryz.prog.built 30 [(0,.int .i64 a0),(1,.int .i64 a1)]=some #[.int .i64 a0,.int .i64 a1,.string ⟨#[]⟩,.string ⟨#[]⟩,.int .i64 (0),.string ⟨#[]⟩,.slice none 0 0,.slice none 0 0]:=by kernel_rfl
theorem vj (a0:Int) (a1:Int) (a2:ByteArray):Tryz.prog.built 30 [(0,.int .i64 a0),(1,.int .i64 a1),(2,.string a2)]=some #[.int .i64 a0,.int .i64 a1,.string a2,.string ⟨#[]⟩,.int .i64 (0),.string ⟨#[]⟩,.slice none 0 0,.slice none 0 0]:=by kernel_rfl
theorem BC (a0:Int) (a2:ByteArray):Tryz.prog.built 30 [(0,.int .i64 a0),(2,.string a2)]=some #[.int .i64 a0,.int .i64 (0),.string a2,.string ⟨#[]⟩,.int .i64 (0),.string ⟨#[]⟩,.slice none 0 0,.slice none 0 0]:=by kernel_rfl
theorem zu (a0:Int) (a2:ByteArray) (a4_0 a4_1 a4_2:Value) (a5:Option Addr) (n5 c5:Nat):Tryz.prog.built 30 [(0,.int .i64 a0),(2,.string a2),(4,.agg #[a4_0,a4_1,a4_2]),(5,.slice a5 n5 c5)]=some #[.int .i64 a0,.int .i64 (0),.string a2,.string ⟨#[]⟩,a4_0,a4_1,a4_2,.slice a5 n5 c5]:=by kernel_rfl
theorem K9 (a0:Int):Tryz.prog.built 30 [(0,.int .i64 a0)]=some #[.int .i64 a0,.int .i64 (0),.string ⟨#[]⟩,.string ⟨#[]⟩,.int .i64 (0),.string ⟨#[]⟩,.slice none 0 0,.slice none 0 0]:=by kernel_rfl
theorem vi (a0:ByteArray) (a1_0 a1_1 a1_2 a1_3 a1_4 a1_5 a1_6 a1_7:Value):Tryz.prog.built 32 [(0,.string a0),(1,.agg #[a1_0,a1_1,a1_2,a1_3,a1_4,a1_5,a1_6,a1_7])]=some #[.string a0,a1_0,a1_1,a1_2,a1_3,a1_4,a1_5,a1_6,a1_7]:=by kernel_rfl
theorem HO (a0:Int) (a1:ByteArray):Tryz.prog.built 38 [(0,.int .i64 a0),(1,.string a1)]=some #[.int .i64 a0,.string a1,.slice none 0 0]:=by kernel_rfl
theorem Kn  : Tryz.prog.built 41 []=some #[.int .i64 (0),.int .i64 (0),.string ⟨#[]⟩,.string ⟨#[]⟩,.int .i64 (0),.string ⟨#[]⟩,.slice none 0 0,.slice none 0 0]:=by kernel_rfl
theorem BB (a0:Int) (a1:Int):Tryz.prog.built 41 [(0,.int .i64 a0),(1,.int .i64 a1)]=some #[.int .i64 a0,.int .i64 a1,.string ⟨#[]⟩,.string ⟨#[]⟩,.int .i64 (0),.string ⟨#[]⟩,.slice none 0 0,.slice none 0 0]:=by kernel_rfl
theorem mZ (a0:Int) (a1:Int) (a2:ByteArray) (a3:ByteArray) (a4_0 a4_1 a4_2:Value):Tryz.prog.built 41 [(0,.int .i64 a0),(1,.int .i64 a1),(2,.string a2),(3,.string a3),(4,.agg #[a4_0,a4_1,a4_2])]=some #[.int .i64 a0,.int .i64 a1,.string a2,.string a3,a4_0,a4_1,a4_2,.slice none 0 0]:=by kernel_rfl
theorem HN (a0:Int) (a2:ByteArray):Tryz.prog.built 41 [(0,.int .i64 a0),(2,.string a2)]=some #[.int .i64 a0,.int .i64 (0),.string a2,.string ⟨#[]⟩,.int .i64 (0),.string ⟨#[]⟩,.slice none 0 0,.slice none 0 0]:=by kernel_rfl
theorem K8 (a0:Int):Tryz.prog.built 41 [(0,.int .i64 a0)]=some #[.int .i64 a0,.int .i64 (0),.string ⟨#[]⟩,.string ⟨#[]⟩,.int .i64 (0),.string ⟨#[]⟩,.slice none 0 0,.slice none 0 0]:=by kernel_rfl
theorem MQ  : Tryz.prog.built 54 []=some #[.int .i64 (0),.int .i64 (0)]:=by kernel_rfl
theorem HM (a0:Int) (a1:Int):Tryz.prog.built 54 [(0,.int .i64 a0),(1,.int .i64 a1)]=some #[.int .i64 a0,.int .i64 a1]:=by kernel_rfl
theorem K7 (a0:Int):Tryz.prog.built 54 [(0,.int .i64 a0)]=some #[.int .i64 a0,.int .i64 (0)]:=by kernel_rfl
theorem MP  : Tryz.prog.built 67 []=some #[.int .i64 (0)]:=by kernel_rfl
theorem MO  : Tryz.prog.built 73 []=some #[.int .i64 (0),.int .i64 (0)]:=by kernel_rfl
theorem HL (a0:ByteArray) (a1_0 a1_1 a1_2 a1_3 a1_4 a1_5 a1_6 a1_7:Value):Tryz.prog.built 77 [(0,.string a0),(1,.agg #[a1_0,a1_1,a1_2,a1_3,a1_4,a1_5,a1_6,a1_7])]=some #[.string a0,a1_0,a1_1,a1_2,a1_3,a1_4,a1_5,a1_6,a1_7]:=by kernel_rfl
theorem MN  : Tryz.prog.built 81 []=some #[.slice none 0 0]:=by kernel_rfl
theorem MM  : Tryz.prog.built 92 []=some #[.int .i64 (0),.int .i64 (0),.int .i64 (0)]:=by kernel_rfl
theorem vh (a0:Int) (a1:Int) (a2:Int):Tryz.prog.built 92 [(0,.int .i64 a0),(1,.int .i64 a1),(2,.int .i64 a2)]=some #[.int .i64 a0,.int .i64 a1,.int .i64 a2]:=by kernel_rfl
theorem Kk:Tryz.prog.concrete 188=true:=by kernel_rfl
set_option maxRecDepth 100000 in
theorem Mx:dV Tryz.prog 129 1 24:=⟨⟨_,_,rfl,rfl,rfl,rfl,rfl⟩,by decide⟩
set_option maxRecDepth 100000 in
theorem Hy:dV Tryz.prog 134 6 64:=⟨⟨_,_,rfl,rfl,rfl,rfl,rfl⟩,by decide⟩
set_option maxRecDepth 100000 in
theorem Kh:dV Tryz.prog 140 7 72:=⟨⟨_,_,rfl,rfl,rfl,rfl,rfl⟩,by decide⟩
set_option maxRecDepth 100000 in
theorem DD:dV Tryz.prog 155 256 2048:=⟨⟨_,_,rfl,rfl,rfl,rfl,rfl⟩,by decide⟩
set_option maxRecDepth 100000 in
theorem Hx:dV Tryz.prog 172 3 32:=⟨⟨_,_,rfl,rfl,rfl,rfl,rfl⟩,by decide⟩
set_option maxRecDepth 100000 in
theorem Hw:dV Tryz.prog 27 3 48:=⟨⟨_,_,rfl,rfl,rfl,rfl,rfl⟩,by decide⟩
set_option maxRecDepth 100000 in
theorem Mw:dV Tryz.prog 3 1 8:=⟨⟨_,_,rfl,rfl,rfl,rfl,rfl⟩,by decide⟩
set_option maxRecDepth 100000 in
theorem Jn:dV Tryz.prog 32 9 136:=⟨⟨_,_,rfl,rfl,rfl,rfl,rfl⟩,by decide⟩
set_option maxRecDepth 100000 in
theorem Oo:dV Tryz.prog 38 3 48:=⟨⟨_,_,rfl,rfl,rfl,rfl,rfl⟩,by decide⟩
set_option maxRecDepth 100000 in
theorem OQ:dV Tryz.prog 4 1 1:=⟨⟨_,_,rfl,rfl,rfl,rfl,rfl⟩,by decide⟩
set_option maxRecDepth 100000 in
theorem PI:dV Tryz.prog 5 1 1:=⟨⟨_,_,rfl,rfl,rfl,rfl,rfl⟩,by decide⟩
set_option maxRecDepth 100000 in
theorem On:dV Tryz.prog 77 9 136:=⟨⟨_,_,rfl,rfl,rfl,rfl,rfl⟩,by decide⟩
set_option maxRecDepth 100000 in
theorem Om:dV Tryz.prog 87 1 8:=⟨⟨_,_,rfl,rfl,rfl,rfl,rfl⟩,by decide⟩
set_option maxRecDepth 100000 in
theorem Ol:dV Tryz.prog 9 1 16:=⟨⟨_,_,rfl,rfl,rfl,rfl,rfl⟩,by decide⟩
set_option maxRecDepth 100000 in
theorem Mu:dV Tryz.prog 92 3 24:=⟨⟨_,_,rfl,rfl,rfl,rfl,rfl⟩,by decide⟩
theorem mixed:Tryz.prog.follows .mixedOrders=true:=by kernel_rfl
theorem Of:(Tryz.f56.name == "runtime.NumGoroutine")=false:=by decide +kernel
theorem Oe:(Tryz.f94.name == "runtime.NumGoroutine")=false:=by decide +kernel
theorem J7:cq Tryz.prog 106=some 1:=by kernel_rfl
theorem J6:cq Tryz.prog 126=some 1:=by kernel_rfl
theorem Ai:cq Tryz.prog 129=some 1:=by kernel_rfl
theorem L1:cq Tryz.prog 130=some 1:=by kernel_rfl
theorem FZ:cq Tryz.prog 131=some 4:=by kernel_rfl
theorem L0:cq Tryz.prog 132=some 1:=by kernel_rfl
theorem mg:cq Tryz.prog 134=some 6:=by kernel_rfl
theorem LZ:cq Tryz.prog 140=some 7:=by kernel_rfl
theorem LY:cq Tryz.prog 144=some 1:=by kernel_rfl
theorem FY:cq Tryz.prog 146=some 3:=by kernel_rfl
theorem J5:cq Tryz.prog 149=some 1:=by kernel_rfl
theorem LX:cq Tryz.prog 155=some 256:=by kernel_rfl
theorem LW:cq Tryz.prog 172=some 3:=by kernel_rfl
theorem J4:cq Tryz.prog 198=some 1:=by kernel_rfl
theorem ON:cq Tryz.prog 2=some 1:=by kernel_rfl
theorem J3:cq Tryz.prog 214=some 2:=by kernel_rfl
theorem LV:cq Tryz.prog 215=some 12:=by kernel_rfl
theorem N4:cq Tryz.prog 24=some 13:=by kernel_rfl
theorem LU:cq Tryz.prog 25=some 1:=by kernel_rfl
theorem LS:cq Tryz.prog 27=some 3:=by kernel_rfl
theorem LR:cq Tryz.prog 279=some 256:=by kernel_rfl
theorem N3:cq Tryz.prog 28=some 1:=by kernel_rfl
theorem jM:cq Tryz.prog 3=some 1:=by kernel_rfl
theorem D6:cq Tryz.prog 30=some 8:=by kernel_rfl
theorem IE:cq Tryz.prog 32=some 9:=by kernel_rfl
theorem D5:cq Tryz.prog 33=some 1:=by kernel_rfl
theorem LQ:cq Tryz.prog 36=some 1:=by kernel_rfl
theorem LP:cq Tryz.prog 38=some 3:=by kernel_rfl
theorem LO:cq Tryz.prog 39=some 1:=by kernel_rfl
theorem KB:cq Tryz.prog 4=some 1:=by kernel_rfl
theorem LN:cq Tryz.prog 41=some 8:=by kernel_rfl
theorem Pn:cq Tryz.prog 5=some 1:=by kernel_rfl
theorem N2:cq Tryz.prog 54=some 2:=by kernel_rfl
theorem N1:cq Tryz.prog 77=some 9:=by kernel_rfl
theorem LM:cq Tryz.prog 79=some 1:=by kernel_rfl
theorem N0:cq Tryz.prog 85=some 1:=by kernel_rfl
theorem NZ:cq Tryz.prog 87=some 1:=by kernel_rfl
theorem zK:cq Tryz.prog 9=some 1:=by kernel_rfl
theorem NY:cq Tryz.prog 92=some 3:=by kernel_rfl
theorem NX:cq Tryz.prog 95=some 1:=by kernel_rfl
theorem JZ:(Tryz.prog.info? 134).bind (·.zero)=some (.agg #[.int .i64 (0),.int .u64 (0),.int .u64 (0),.int .u64 (0),.int .u64 (0),.slice none 0 0]):=by kernel_rfl
theorem JY:(Tryz.prog.info? 146).bind (·.zero)=some (.agg #[.string ⟨#[]⟩,.int .i64 (0),.int .i64 (0)]):=by kernel_rfl
theorem LB:(Tryz.prog.info? 155).bind (·.zero)=some (.agg (Array.replicate 256 (.int .i64 (0)))):=by kernel_rfl
theorem LA:(Tryz.prog.info? 172).bind (·.zero)=some (.agg #[.int .i64 (0),.string ⟨#[]⟩,.int .i64 (0)]):=by kernel_rfl
theorem Lz:(Tryz.prog.info? 200).bind (·.zero)=some (.agg #[.pointer none,.slice none 0 0]):=by kernel_rfl
theorem Ly:(Tryz.prog.info? 214).bind (·.zero)=some (.agg #[.int .u8 (0),.int .u8 (0)]):=by kernel_rfl
theorem NK:(Tryz.prog.info? 24).bind (·.zero)=some (.agg #[.string ⟨#[]⟩,.string ⟨#[]⟩,.string ⟨#[]⟩,.string ⟨#[]⟩,.string ⟨#[]⟩,.string ⟨#[]⟩,.string ⟨#[]⟩,.string ⟨#[]⟩,.string ⟨#[]⟩,.string ⟨#[]⟩,.string ⟨#[]⟩,.string ⟨#[]⟩,.string ⟨#[]⟩]):=by kernel_rfl
theorem NJ:(Tryz.prog.info? 27).bind (·.zero)=some (.agg #[.int .i64 (0),.string ⟨#[]⟩,.slice none 0 0]):=by kernel_rfl
theorem Lx:(Tryz.prog.info? 279).bind (·.zero)=some (.agg (Array.replicate 256 (.bool false))):=by kernel_rfl
theorem OK:(Tryz.prog.info? 3).bind (·.zero)=some (.int .i64 (0)):=by kernel_rfl
theorem NI:(Tryz.prog.info? 30).bind (·.zero)=some (.agg #[.int .i64 (0),.int .i64 (0),.string ⟨#[]⟩,.string ⟨#[]⟩,.int .i64 (0),.string ⟨#[]⟩,.slice none 0 0,.slice none 0 0]):=by kernel_rfl
theorem NH:(Tryz.prog.info? 32).bind (·.zero)=some (.agg #[.string ⟨#[]⟩,.int .i64 (0),.int .i64 (0),.string ⟨#[]⟩,.string ⟨#[]⟩,.int .i64 (0),.string ⟨#[]⟩,.slice none 0 0,.slice none 0 0]):=by kernel_rfl
theorem NG:(Tryz.prog.info? 33).bind (·.zero)=some (.int .i64 (0)):=by kernel_rfl
theorem NF:(Tryz.prog.info? 38).bind (·.zero)=some (.agg #[.int .i64 (0),.string ⟨#[]⟩,.slice none 0 0]):=by kernel_rfl
theorem OJ:(Tryz.prog.info? 4).bind (·.zero)=some (.bool false):=by kernel_rfl
theorem ND:(Tryz.prog.info? 41).bind (·.zero)=some (.agg #[.int .i64 (0),.int .i64 (0),.string ⟨#[]⟩,.string ⟨#[]⟩,.int .i64 (0),.string ⟨#[]⟩,.slice none 0 0,.slice none 0 0]):=by kernel_rfl
theorem NC:(Tryz.prog.info? 54).bind (·.zero)=some (.agg #[.int .i64 (0),.int .i64 (0)]):=by kernel_rfl
theorem NB:(Tryz.prog.info? 85).bind (·.zero)=some (.slice none 0 0):=by kernel_rfl
theorem NA:(Tryz.prog.info? 92).bind (·.zero)=some (.agg #[.int .i64 (0),.int .i64 (0),.int .i64 (0)]):=by kernel_rfl
end Go.Proofs.YtdgckfkoihcmjaaGreatDoor.H
namespace Go.Proofs.YtdgckfkoihcmjaaGreatDoor.H
open Go.Proofs.Tryz
open Go Go.Lw
set_option maxRecDepth 100000 in
instance:JP Tryz.prog:=⟨by decide +kernel⟩
instance:kG Tryz.prog 106 false:=⟨Na⟩
instance:kG Tryz.prog 126 false:=⟨M9⟩
instance:kG Tryz.prog 129 false:=⟨M8⟩
instance:kG Tryz.prog 130 false:=⟨M7⟩
instance:kG Tryz.prog 131 true:=⟨M6⟩
instance:kG Tryz.prog 132 false:=⟨Kp⟩
instance:kG Tryz.prog 134 true:=⟨xI⟩
instance:kG Tryz.prog 140 true:=⟨M5⟩
instance:kG Tryz.prog 144 false:=⟨M4⟩
instance:kG Tryz.prog 146 true:=⟨Ko⟩
instance:kG Tryz.prog 149 false:=⟨M3⟩
instance:kG Tryz.prog 155 true:=⟨M1⟩
instance:kG Tryz.prog 172 true:=⟨M0⟩
instance:kG Tryz.prog 198 false:=⟨MZ⟩
instance:kG Tryz.prog 2 false:=⟨PO⟩
instance:kG Tryz.prog 215 true:=⟨MX⟩
instance:kG Tryz.prog 25 false:=⟨OG⟩
instance:kG Tryz.prog 27 true:=⟨OF⟩
instance:kG Tryz.prog 271 false:=⟨MW⟩
instance:kG Tryz.prog 279 true:=⟨MV⟩
instance:kG Tryz.prog 28 false:=⟨MU⟩
instance:kG Tryz.prog 3 false:=⟨FB⟩
instance:kG Tryz.prog 30 true:=⟨MT⟩
instance:kG Tryz.prog 33 false:=⟨Lg⟩
instance:kG Tryz.prog 36 false:=⟨OD⟩
instance:kG Tryz.prog 38 true:=⟨OC⟩
instance:kG Tryz.prog 39 false:=⟨OB⟩
instance:kG Tryz.prog 4 false:=⟨PN⟩
instance:kG Tryz.prog 41 true:=⟨OA⟩
instance:kG Tryz.prog 5 false:=⟨PM⟩
instance:kG Tryz.prog 54 true:=⟨Oz⟩
instance:kG Tryz.prog 79 false:=⟨Oy⟩
instance:kG Tryz.prog 82 false:=⟨MS⟩
instance:kG Tryz.prog 85 false:=⟨Lf⟩
instance:kG Tryz.prog 87 false:=⟨Ox⟩
instance:kG Tryz.prog 9 false:=⟨Le⟩
instance:kG Tryz.prog 92 true:=⟨Ov⟩
instance:kG Tryz.prog 95 false:=⟨Ou⟩
instance:OU Tryz.prog 188:=⟨Kk⟩
instance:BS Tryz.prog 129 1 24:=⟨Mx⟩
instance:BS Tryz.prog 134 6 64:=⟨Hy⟩
instance:BS Tryz.prog 140 7 72:=⟨Kh⟩
instance:BS Tryz.prog 172 3 32:=⟨Hx⟩
instance:BS Tryz.prog 27 3 48:=⟨Hw⟩
instance:BS Tryz.prog 3 1 8:=⟨Mw⟩
instance:BS Tryz.prog 32 9 136:=⟨Jn⟩
instance:BS Tryz.prog 38 3 48:=⟨Oo⟩
instance:BS Tryz.prog 5 1 1:=⟨PI⟩
instance:BS Tryz.prog 77 9 136:=⟨On⟩
instance:BS Tryz.prog 87 1 8:=⟨Om⟩
instance:BS Tryz.prog 9 1 16:=⟨Ol⟩
instance:BS Tryz.prog 92 3 24:=⟨Mu⟩
instance:gI Tryz.prog 100 0 0:=⟨⟨_,_,_,underlying100,rfl,rfl,NX⟩⟩
instance:gI Tryz.prog 100 1 1:=⟨⟨_,_,_,underlying100,rfl,rfl,jM⟩⟩
instance:gI Tryz.prog 100 2 2:=⟨⟨_,_,_,underlying100,rfl,rfl,jM⟩⟩
instance:gI Tryz.prog 100 3 3:=⟨⟨_,_,_,underlying100,rfl,rfl,KB⟩⟩
instance:gI Tryz.prog 100 4 4:=⟨⟨_,_,_,underlying100,rfl,rfl,jM⟩⟩
instance:gI Tryz.prog 128 0 0:=⟨⟨_,_,_,underlying128,rfl,rfl,J6⟩⟩
instance:gI Tryz.prog 128 1 1:=⟨⟨_,_,_,underlying128,rfl,rfl,jM⟩⟩
instance:gI Tryz.prog 134 0 0:=⟨⟨_,_,_,underlying134,rfl,rfl,jM⟩⟩
instance:gI Tryz.prog 134 1 1:=⟨⟨_,_,_,underlying134,rfl,rfl,FZ⟩⟩
instance:gI Tryz.prog 134 2 5:=⟨⟨_,_,_,underlying134,rfl,rfl,L0⟩⟩
instance:gI Tryz.prog 140 0 0:=⟨⟨_,_,_,underlying140,rfl,rfl,jM⟩⟩
instance:gI Tryz.prog 140 1 1:=⟨⟨_,_,_,underlying140,rfl,rfl,FZ⟩⟩
instance:gI Tryz.prog 140 2 5:=⟨⟨_,_,_,underlying140,rfl,rfl,Ai⟩⟩
instance:gI Tryz.prog 140 3 6:=⟨⟨_,_,_,underlying140,rfl,rfl,jM⟩⟩
instance:gI Tryz.prog 146 1 1:=⟨⟨_,_,_,underlying146,rfl,rfl,jM⟩⟩
instance:gI Tryz.prog 146 2 2:=⟨⟨_,_,_,underlying146,rfl,rfl,jM⟩⟩
instance:gI Tryz.prog 151 0 0:=⟨⟨_,_,_,underlying151,rfl,rfl,J5⟩⟩
instance:gI Tryz.prog 151 1 1:=⟨⟨_,_,_,underlying151,rfl,rfl,Ai⟩⟩
instance:gI Tryz.prog 172 0 0:=⟨⟨_,_,_,underlying172,rfl,rfl,jM⟩⟩
instance:gI Tryz.prog 172 1 1:=⟨⟨_,_,_,underlying172,rfl,rfl,zK⟩⟩
instance:gI Tryz.prog 172 2 2:=⟨⟨_,_,_,underlying172,rfl,rfl,jM⟩⟩
instance:gI Tryz.prog 191 0 0:=⟨⟨_,_,_,underlying191,rfl,rfl,zK⟩⟩
instance:gI Tryz.prog 200 0 0:=⟨⟨_,_,_,underlying200,rfl,rfl,J4⟩⟩
instance:gI Tryz.prog 200 1 1:=⟨⟨_,_,_,underlying200,rfl,rfl,J7⟩⟩
instance:gI Tryz.prog 27 0 0:=⟨⟨_,_,_,underlying27,rfl,rfl,jM⟩⟩
instance:gI Tryz.prog 27 1 1:=⟨⟨_,_,_,underlying27,rfl,rfl,zK⟩⟩
instance:gI Tryz.prog 27 2 2:=⟨⟨_,_,_,underlying27,rfl,rfl,LU⟩⟩
instance:gI Tryz.prog 30 0 0:=⟨⟨_,_,_,underlying30,rfl,rfl,jM⟩⟩
instance:gI Tryz.prog 30 1 1:=⟨⟨_,_,_,underlying30,rfl,rfl,ON⟩⟩
instance:gI Tryz.prog 30 2 2:=⟨⟨_,_,_,underlying30,rfl,rfl,zK⟩⟩
instance:gI Tryz.prog 30 3 3:=⟨⟨_,_,_,underlying30,rfl,rfl,zK⟩⟩
instance:gI Tryz.prog 30 4 4:=⟨⟨_,_,_,underlying30,rfl,rfl,LS⟩⟩
instance:gI Tryz.prog 30 5 7:=⟨⟨_,_,_,underlying30,rfl,rfl,N3⟩⟩
instance:gI Tryz.prog 32 0 0:=⟨⟨_,_,_,underlying32,rfl,rfl,zK⟩⟩
instance:gI Tryz.prog 32 1 1:=⟨⟨_,_,_,underlying32,rfl,rfl,D6⟩⟩
instance:gI Tryz.prog 38 0 0:=⟨⟨_,_,_,underlying38,rfl,rfl,jM⟩⟩
instance:gI Tryz.prog 38 1 1:=⟨⟨_,_,_,underlying38,rfl,rfl,zK⟩⟩
instance:gI Tryz.prog 38 2 2:=⟨⟨_,_,_,underlying38,rfl,rfl,LQ⟩⟩
instance:gI Tryz.prog 41 0 0:=⟨⟨_,_,_,underlying41,rfl,rfl,jM⟩⟩
instance:gI Tryz.prog 41 1 1:=⟨⟨_,_,_,underlying41,rfl,rfl,ON⟩⟩
instance:gI Tryz.prog 41 2 2:=⟨⟨_,_,_,underlying41,rfl,rfl,zK⟩⟩
instance:gI Tryz.prog 41 3 3:=⟨⟨_,_,_,underlying41,rfl,rfl,zK⟩⟩
instance:gI Tryz.prog 41 4 4:=⟨⟨_,_,_,underlying41,rfl,rfl,LP⟩⟩
instance:gI Tryz.prog 41 5 7:=⟨⟨_,_,_,underlying41,rfl,rfl,LO⟩⟩
instance:gI Tryz.prog 54 0 0:=⟨⟨_,_,_,underlying54,rfl,rfl,jM⟩⟩
instance:gI Tryz.prog 54 1 1:=⟨⟨_,_,_,underlying54,rfl,rfl,jM⟩⟩
instance:gI Tryz.prog 67 0 0:=⟨⟨_,_,_,underlying67,rfl,rfl,jM⟩⟩
instance:gI Tryz.prog 73 0 0:=⟨⟨_,_,_,underlying73,rfl,rfl,jM⟩⟩
instance:gI Tryz.prog 73 1 1:=⟨⟨_,_,_,underlying73,rfl,rfl,D5⟩⟩
instance:gI Tryz.prog 77 0 0:=⟨⟨_,_,_,underlying77,rfl,rfl,zK⟩⟩
instance:gI Tryz.prog 77 1 1:=⟨⟨_,_,_,underlying77,rfl,rfl,LN⟩⟩
instance:gI Tryz.prog 81 0 0:=⟨⟨_,_,_,underlying81,rfl,rfl,LM⟩⟩
instance:gI Tryz.prog 92 0 0:=⟨⟨_,_,_,underlying92,rfl,rfl,jM⟩⟩
instance:gI Tryz.prog 92 1 1:=⟨⟨_,_,_,underlying92,rfl,rfl,jM⟩⟩
instance:gI Tryz.prog 92 2 2:=⟨⟨_,_,_,underlying92,rfl,rfl,jM⟩⟩
instance:bI Tryz.prog 10 f10:=⟨func10⟩
instance:bI Tryz.prog 100 f100:=⟨func100⟩
instance:bI Tryz.prog 101 f101:=⟨func101⟩
instance:bI Tryz.prog 102 f102:=⟨func102⟩
instance:bI Tryz.prog 103 Tryz.f103:=⟨func103⟩
instance:bI Tryz.prog 104 f104:=⟨func104⟩
instance:bI Tryz.prog 105 f105:=⟨func105⟩
instance:bI Tryz.prog 106 Tryz.f106:=⟨func106⟩
instance:bI Tryz.prog 107 f107:=⟨func107⟩
instance:bI Tryz.prog 108 f108:=⟨func108⟩
instance:bI Tryz.prog 109 f109:=⟨func109⟩
instance:bI Tryz.prog 110 f110:=⟨func110⟩
instance:bI Tryz.prog 111 f111:=⟨func111⟩
instance:bI Tryz.prog 112 f112:=⟨func112⟩
instance:bI Tryz.prog 113 f113:=⟨func113⟩
instance:bI Tryz.prog 114 f114:=⟨func114⟩
instance:bI Tryz.prog 115 f115:=⟨func115⟩
instance:bI Tryz.prog 12 Tryz.f12:=⟨func12⟩
instance:bI Tryz.prog 123 f123:=⟨func123⟩
instance:bI Tryz.prog 124 f124:=⟨func124⟩
instance:bI Tryz.prog 125 f125:=⟨func125⟩
instance:bI Tryz.prog 13 Tryz.f13:=⟨func13⟩
instance:bI Tryz.prog 131 f131:=⟨func131⟩
instance:bI Tryz.prog 132 f132:=⟨func132⟩
instance:bI Tryz.prog 134 f134:=⟨func134⟩
instance:bI Tryz.prog 135 f135:=⟨func135⟩
instance:bI Tryz.prog 136 f136:=⟨func136⟩
instance:bI Tryz.prog 137 Tryz.f137:=⟨func137⟩
instance:bI Tryz.prog 138 f138:=⟨func138⟩
instance:bI Tryz.prog 139 f139:=⟨func139⟩
instance:bI Tryz.prog 14 f14:=⟨func14⟩
instance:bI Tryz.prog 140 f140:=⟨func140⟩
instance:bI Tryz.prog 144 Tryz.f144:=⟨func144⟩
instance:bI Tryz.prog 145 f145:=⟨func145⟩
instance:bI Tryz.prog 146 f146:=⟨func146⟩
instance:bI Tryz.prog 147 f147:=⟨func147⟩
instance:bI Tryz.prog 156 f156:=⟨func156⟩
instance:bI Tryz.prog 157 f157:=⟨func157⟩
instance:bI Tryz.prog 158 f158:=⟨func158⟩
instance:bI Tryz.prog 159 f159:=⟨func159⟩
instance:bI Tryz.prog 16 f16:=⟨func16⟩
instance:bI Tryz.prog 164 f164:=⟨func164⟩
instance:bI Tryz.prog 166 f166:=⟨func166⟩
instance:bI Tryz.prog 169 f169:=⟨func169⟩
instance:bI Tryz.prog 173 Tryz.f173:=⟨func173⟩
instance:bI Tryz.prog 175 f175:=⟨func175⟩
instance:bI Tryz.prog 176 f176:=⟨func176⟩
instance:bI Tryz.prog 177 f177:=⟨func177⟩
instance:bI Tryz.prog 18 f18:=⟨func18⟩
instance:bI Tryz.prog 182 f182:=⟨func182⟩
instance:bI Tryz.prog 185 f185:=⟨func185⟩
instance:bI Tryz.prog 186 f186:=⟨func186⟩
instance:bI Tryz.prog 189 f189:=⟨func189⟩
instance:bI Tryz.prog 19 f19:=⟨func19⟩
instance:bI Tryz.prog 190 f190:=⟨func190⟩
instance:bI Tryz.prog 191 f191:=⟨func191⟩
instance:bI Tryz.prog 192 f192:=⟨func192⟩
instance:bI Tryz.prog 195 f195:=⟨func195⟩
instance:bI Tryz.prog 196 f196:=⟨func196⟩
instance:bI Tryz.prog 198 f198:=⟨func198⟩
instance:bI Tryz.prog 199 f199:=⟨func199⟩
instance:bI Tryz.prog 20 f20:=⟨func20⟩
instance:bI Tryz.prog 200 f200:=⟨func200⟩
instance:bI Tryz.prog 201 f201:=⟨func201⟩
instance:bI Tryz.prog 203 f203:=⟨func203⟩
instance:bI Tryz.prog 205 Tryz.f205:=⟨func205⟩
instance:bI Tryz.prog 206 Tryz.f206:=⟨func206⟩
instance:bI Tryz.prog 21 f21:=⟨func21⟩
instance:bI Tryz.prog 22 f22:=⟨func22⟩
instance:bI Tryz.prog 23 Tryz.f23:=⟨func23⟩
instance:bI Tryz.prog 24 f24:=⟨func24⟩
instance:bI Tryz.prog 25 f25:=⟨func25⟩
instance:bI Tryz.prog 26 f26:=⟨func26⟩
instance:bI Tryz.prog 27 f27:=⟨func27⟩
instance:bI Tryz.prog 28 f28:=⟨func28⟩
instance:bI Tryz.prog 29 f29:=⟨func29⟩
instance:bI Tryz.prog 3 Tryz.f3:=⟨func3⟩
instance:bI Tryz.prog 30 f30:=⟨func30⟩
instance:bI Tryz.prog 31 f31:=⟨func31⟩
instance:bI Tryz.prog 32 f32:=⟨func32⟩
instance:bI Tryz.prog 33 f33:=⟨func33⟩
instance:bI Tryz.prog 34 f34:=⟨func34⟩
instance:bI Tryz.prog 35 f35:=⟨func35⟩
instance:bI Tryz.prog 37 f37:=⟨func37⟩
instance:bI Tryz.prog 38 f38:=⟨func38⟩
instance:bI Tryz.prog 39 f39:=⟨func39⟩
instance:bI Tryz.prog 40 f40:=⟨func40⟩
instance:bI Tryz.prog 41 f41:=⟨func41⟩
instance:bI Tryz.prog 42 f42:=⟨func42⟩
instance:bI Tryz.prog 43 f43:=⟨func43⟩
instance:bI Tryz.prog 44 f44:=⟨func44⟩
instance:bI Tryz.prog 45 f45:=⟨func45⟩
instance:bI Tryz.prog 46 f46:=⟨func46⟩
instance:bI Tryz.prog 47 f47:=⟨func47⟩
instance:bI Tryz.prog 48 f48:=⟨func48⟩
instance:bI Tryz.prog 49 f49:=⟨func49⟩
instance:bI Tryz.prog 5 f5:=⟨func5⟩
instance:bI Tryz.prog 50 f50:=⟨func50⟩
instance:bI Tryz.prog 52 f52:=⟨func52⟩
instance:bI Tryz.prog 53 f53:=⟨func53⟩
instance:bI Tryz.prog 55 f55:=⟨func55⟩
instance:bI Tryz.prog 56 f56:=⟨func56⟩
instance:bI Tryz.prog 57 f57:=⟨func57⟩
instance:bI Tryz.prog 58 f58:=⟨func58⟩
instance:bI Tryz.prog 59 f59:=⟨func59⟩
instance:bI Tryz.prog 6 f6:=⟨func6⟩
instance:bI Tryz.prog 60 f60:=⟨func60⟩
instance:bI Tryz.prog 61 f61:=⟨func61⟩
instance:bI Tryz.prog 62 f62:=⟨func62⟩
instance:bI Tryz.prog 63 f63:=⟨func63⟩
instance:bI Tryz.prog 64 f64:=⟨func64⟩
instance:bI Tryz.prog 65 f65:=⟨func65⟩
instance:bI Tryz.prog 66 f66:=⟨func66⟩
instance:bI Tryz.prog 67 f67:=⟨func67⟩
instance:bI Tryz.prog 68 f68:=⟨func68⟩
instance:bI Tryz.prog 69 f69:=⟨func69⟩
instance:bI Tryz.prog 7 f7:=⟨func7⟩
instance:bI Tryz.prog 70 f70:=⟨func70⟩
instance:bI Tryz.prog 71 f71:=⟨func71⟩
instance:bI Tryz.prog 72 f72:=⟨func72⟩
instance:bI Tryz.prog 73 f73:=⟨func73⟩
instance:bI Tryz.prog 74 f74:=⟨func74⟩
instance:bI Tryz.prog 75 f75:=⟨func75⟩
instance:bI Tryz.prog 76 f76:=⟨func76⟩
instance:bI Tryz.prog 8 f8:=⟨func8⟩
instance:bI Tryz.prog 80 f80:=⟨func80⟩
instance:bI Tryz.prog 81 f81:=⟨func81⟩
instance:bI Tryz.prog 84 f84:=⟨func84⟩
instance:bI Tryz.prog 85 f85:=⟨func85⟩
instance:bI Tryz.prog 86 f86:=⟨func86⟩
instance:bI Tryz.prog 87 f87:=⟨func87⟩
instance:bI Tryz.prog 88 f88:=⟨func88⟩
instance:bI Tryz.prog 89 f89:=⟨func89⟩
instance:bI Tryz.prog 9 f9:=⟨func9⟩
instance:bI Tryz.prog 90 f90:=⟨func90⟩
instance:bI Tryz.prog 91 f91:=⟨func91⟩
instance:bI Tryz.prog 92 f92:=⟨func92⟩
instance:bI Tryz.prog 94 f94:=⟨func94⟩
instance:bI Tryz.prog 95 f95:=⟨func95⟩
instance:bI Tryz.prog 96 f96:=⟨func96⟩
instance:bI Tryz.prog 97 f97:=⟨func97⟩
instance:bI Tryz.prog 98 f98:=⟨func98⟩
instance:bI Tryz.prog 99 f99:=⟨func99⟩
instance:Ll Tryz.prog:=⟨mixed⟩
instance:kV Tryz.prog 106 1:=⟨J7⟩
instance:kV Tryz.prog 126 1:=⟨J6⟩
instance:kV Tryz.prog 129 1:=⟨Ai⟩
instance:kV Tryz.prog 130 1:=⟨L1⟩
instance:kV Tryz.prog 131 4:=⟨FZ⟩
instance:kV Tryz.prog 134 6:=⟨mg⟩
instance:kV Tryz.prog 140 7:=⟨LZ⟩
instance:kV Tryz.prog 144 1:=⟨LY⟩
instance:kV Tryz.prog 146 3:=⟨FY⟩
instance:kV Tryz.prog 149 1:=⟨J5⟩
instance:kV Tryz.prog 155 256:=⟨LX⟩
instance:kV Tryz.prog 172 3:=⟨LW⟩
instance:kV Tryz.prog 198 1:=⟨J4⟩
instance:kV Tryz.prog 214 2:=⟨J3⟩
instance:kV Tryz.prog 215 12:=⟨LV⟩
instance:kV Tryz.prog 24 13:=⟨N4⟩
instance:kV Tryz.prog 25 1:=⟨LU⟩
instance:kV Tryz.prog 27 3:=⟨LS⟩
instance:kV Tryz.prog 279 256:=⟨LR⟩
instance:kV Tryz.prog 3 1:=⟨jM⟩
instance:kV Tryz.prog 30 8:=⟨D6⟩
instance:kV Tryz.prog 32 9:=⟨IE⟩
instance:kV Tryz.prog 33 1:=⟨D5⟩
instance:kV Tryz.prog 36 1:=⟨LQ⟩
instance:kV Tryz.prog 38 3:=⟨LP⟩
instance:kV Tryz.prog 39 1:=⟨LO⟩
instance:kV Tryz.prog 4 1:=⟨KB⟩
instance:kV Tryz.prog 41 8:=⟨LN⟩
instance:kV Tryz.prog 5 1:=⟨Pn⟩
instance:kV Tryz.prog 54 2:=⟨N2⟩
instance:kV Tryz.prog 77 9:=⟨N1⟩
instance:kV Tryz.prog 79 1:=⟨LM⟩
instance:kV Tryz.prog 87 1:=⟨NZ⟩
instance:kV Tryz.prog 9 1:=⟨zK⟩
instance:kV Tryz.prog 92 3:=⟨NY⟩
instance:kE Tryz.prog 106 (.slice 5):=⟨underlying106⟩
instance:kE Tryz.prog 126 (.slice 140):=⟨underlying126⟩
instance:kE Tryz.prog 129 (.slice 3):=⟨underlying129⟩
instance:kE Tryz.prog 131 (.array 4 130):=⟨underlying131⟩
instance:kE Tryz.prog 132 (.slice 134):=⟨underlying132⟩
instance:kE Tryz.prog 144 (.slice 146):=⟨underlying144⟩
instance:kE Tryz.prog 147 (.array 3 144):=⟨underlying147⟩
instance:kE Tryz.prog 149 (.slice 155):=⟨underlying149⟩
instance:kE Tryz.prog 154 (.slice 129):=⟨underlying154⟩
instance:kE Tryz.prog 155 (.array 256 3):=⟨underlying155⟩
instance:kE Tryz.prog 159 (.slice 4):=⟨underlying159⟩
instance:kE Tryz.prog 214 (.array 2 5):=⟨underlying214⟩
instance:kE Tryz.prog 22 (.array 2 9):=⟨underlying22⟩
instance:kE Tryz.prog 24 (.array 13 9):=⟨underlying24⟩
instance:kE Tryz.prog 25 (.slice 27):=⟨underlying25⟩
instance:kE Tryz.prog 279 (.array 256 4):=⟨underlying279⟩
instance:kE Tryz.prog 28 (.slice 32):=⟨underlying28⟩
instance:kE Tryz.prog 3 (.int .i64):=⟨underlying3⟩
instance:kE Tryz.prog 36 (.slice 38):=⟨underlying36⟩
instance:kE Tryz.prog 39 (.slice 77):=⟨underlying39⟩
instance:kE Tryz.prog 4 (.bool):=⟨underlying4⟩
instance:kE Tryz.prog 5 (.int .u8):=⟨underlying5⟩
instance:kE Tryz.prog 52 (.slice 92):=⟨underlying52⟩
instance:kE Tryz.prog 79 (.slice 87):=⟨underlying79⟩
instance:kE Tryz.prog 85 (.slice 9):=⟨underlying85⟩
instance:kE Tryz.prog 9 (.string):=⟨underlying9⟩
instance:kE Tryz.prog 95 (.slice 172):=⟨underlying95⟩
instance:BL Tryz.prog 134 (.agg #[.int .i64 (0),.int .u64 (0),.int .u64 (0),.int .u64 (0),.int .u64 (0),.slice none 0 0]):=⟨JZ⟩
instance:BL Tryz.prog 146 (.agg #[.string ⟨#[]⟩,.int .i64 (0),.int .i64 (0)]):=⟨JY⟩
instance:BL Tryz.prog 155 (.agg (Array.replicate 256 (.int .i64 (0)))):=⟨LB⟩
instance:BL Tryz.prog 172 (.agg #[.int .i64 (0),.string ⟨#[]⟩,.int .i64 (0)]):=⟨LA⟩
instance:BL Tryz.prog 200 (.agg #[.pointer none,.slice none 0 0]):=⟨Lz⟩
instance:BL Tryz.prog 214 (.agg #[.int .u8 (0),.int .u8 (0)]):=⟨Ly⟩
instance:BL Tryz.prog 24 (.agg #[.string ⟨#[]⟩,.string ⟨#[]⟩,.string ⟨#[]⟩,.string ⟨#[]⟩,.string ⟨#[]⟩,.string ⟨#[]⟩,.string ⟨#[]⟩,.string ⟨#[]⟩,.string ⟨#[]⟩,.string ⟨#[]⟩,.string ⟨#[]⟩,.string ⟨#[]⟩,.string ⟨#[]⟩]):=⟨NK⟩
instance:BL Tryz.prog 27 (.agg #[.int .i64 (0),.string ⟨#[]⟩,.slice none 0 0]):=⟨NJ⟩
instance:BL Tryz.prog 279 (.agg (Array.replicate 256 (.bool false))):=⟨Lx⟩
instance:BL Tryz.prog 30 (.agg #[.int .i64 (0),.int .i64 (0),.string ⟨#[]⟩,.string ⟨#[]⟩,.int .i64 (0),.string ⟨#[]⟩,.slice none 0 0,.slice none 0 0]):=⟨NI⟩
instance:BL Tryz.prog 33 (.int .i64 (0)):=⟨NG⟩
instance:BL Tryz.prog 38 (.agg #[.int .i64 (0),.string ⟨#[]⟩,.slice none 0 0]):=⟨NF⟩
instance:BL Tryz.prog 41 (.agg #[.int .i64 (0),.int .i64 (0),.string ⟨#[]⟩,.string ⟨#[]⟩,.int .i64 (0),.string ⟨#[]⟩,.slice none 0 0,.slice none 0 0]):=⟨ND⟩
instance:BL Tryz.prog 54 (.agg #[.int .i64 (0),.int .i64 (0)]):=⟨NC⟩
instance:BL Tryz.prog 85 (.slice none 0 0):=⟨NB⟩
instance:BL Tryz.prog 92 (.agg #[.int .i64 (0),.int .i64 (0),.int .i64 (0)]):=⟨NA⟩
end Go.Proofs.YtdgckfkoihcmjaaGreatDoor.H
namespace Go.Proofs.YtdgckfkoihcmjaaGreatDoor
abbrev By:=List UInt8
inductive Nd where
 |mk (kind:Nat) (set:Nat) (kids:List Nd)
def Nd.kind:Nd->Nat|.mk k _ _=>k
def Nd.set:Nd->Nat|.mk _ s _=>s
def Nd.kids:Nd->List Nd|.mk _ _ l=>l
def HW:Nat:=2 ^ 256-1
def wJ (s a:Nat):Nat->Nat
 | 0=>s
 |n+1=>wJ (s |||(1 <<< a)) (a+1) n
def nU (s:Nat) (a b:UInt8):Nat:=wJ s a.toNat (b.toNat+1-a.toNat)
def mH (s:Nat):Nat:=HW ^^^ s
def zl (b:UInt8):Nd:=.mk 1 (nU 0 b b) []
def Kj:Nd:=.mk 1 (nU (nU 0 0 9) 11 255) []
def nF:Nd:=.mk 0 0 []
def fG:By:=[40,41,91,93,124,42,43,63,46,92,45,94]
def lH (b:UInt8):Option Nat :=
 if 48<=b.toNat/\b.toNat<=57 then some (b.toNat-48) else if 97<=b.toNat/\b.toNat<=102 then some (b.toNat-87) else if 65<=b.toNat/\b.toNat<=70 then some (b.toNat-55) else none
def qf:By->Option (UInt8×By)
 | []=>none
 |b::r =>
  if b=110 then some (10,r) else if b=116 then some (9,r) else if b=114 then some (13,r)
  else if b=120 then
   match r with
   |x::y::r=>match lH x,lH y with
    |some m,some n=>some (UInt8.ofNat (m*16+n),r)
    |_,_=>none
   |_=>none
  else if b∈fG then some (b,r) else none
def oF:By->Option (UInt8×By)
 | []=>none
 |b::r=>if b=92 then qf r else if b∈fG then none else some (b,r)
def eH (s:By):Option ((UInt8×UInt8)×By) :=
 match oF s with
 |none=>none
 |some (a,r)=>match r with
  | 45::r'=>match oF r' with
   |none=>none
   |some (b,r'')=>if b.toNat<a.toNat then none else some ((a,b),r'')
  |_=>some ((a,a),r)
def lS:Nat->Nat->By->Option (Nat×By)
 | 0,_,_=>none
 |n+1,acc,s=>match eH s with
  |none=>none
  |some ((a,b),r)=>match r with
   | 93::r'=>some (nU acc a b,r')
   |_=>lS n (nU acc a b) r
def iw (s:By):Option (Nd×By) :=
 match s with
 | 94::r=>(lS (r.length+1) 0 r).map fun p=>(.mk 1 (mH p.1) [],p.2)
 |_=>(lS (s.length+1) 0 s).map fun p=>(.mk 1 p.1 [],p.2)
def eZ (rows:By->Option (Nd×By)):By->Option (Nd×By)
 | []=>none
 |c::r =>
  if c=40 then
   match rows r with
   |none=>none
   |some (n,r')=>match r' with
    | 41::r''=>some (n,r'')
    |_=>none
  else if c=91 then iw r
  else if c=46 then some (Kj,r)
  else if c=92 then (qf r).map fun p=>(zl p.1,p.2)
  else if c∈[(41:UInt8),93,124,42,43,63] then none
  else some (zl c,r)
def cW (c:UInt8):Nat:=if c=42 then 4 else if c=43 then 5 else if c=63 then 6 else 0
def eD (n:Nd):By->Nd×By
 | []=>(n,[])
 |c::r=>if cW c=0 then (n,c::r) else eD (.mk (cW c) 0 [n]) r
def fS (rows:By->Option (Nd×By)) (s:By):Option (Nd×By) :=
 (eZ rows s).map fun p=>eD p.1 p.2
def bS (kind:Nat):List Nd->Nd
 | []=>nF
 | [n]=>n
 |l=>.mk kind 0 l
def j8:By->Bool
 | []=>true
 |c::_=>c ==124 ||c ==41
def mz (rows:By->Option (Nd×By)):Nat->By->Option (List Nd×By)
 | 0,_=>none
 |n+1,s=>if j8 s then some ([],s) else
  match fS rows s with
  |none=>none
  |some (x,r)=>(mz rows n r).map fun p=>(x::p.1,p.2)
def iI (rows:By->Option (Nd×By)):Nat->List Nd->List Nd->By->Option (Nd×By)
 | 0,_,_,_=>none
 |n+1,all,row,s=>if j8 s then
  if s.head? =some 124 then iI rows n (all++[bS 2 row]) [] s.tail
  else some (bS 3 (all++[bS 2 row]),s)
  else match fS rows s with
   |none=>none
   |some (x,r)=>iI rows n all (row++[x]) r
def dI:Nat->By->Option (Nd×By)
 | 0,_=>none
 |d+1,s=>iI (dI d) (s.length+1) [] [] s
def j9 (s:By):Option Nd :=
 match dI (s.length+1) s with
 |some (n,[])=>some n
 |_=>none
theorem uR {s:By}{b:UInt8}{r:By}(h:qf s=some (b,r)):r.length<s.length:=by
 unfold qf at h;split at h
 · cases h
 · rename_i c t;split at h
   · cases h;simp
   · split at h
     · cases h;simp
     · split at h
       · cases h;simp
       · split at h
         · split at h
           · split at h
             · cases h;simp only[List.length_cons];omega
             · cases h
           · cases h
         · split at h
           · cases h;simp
           · cases h
theorem pU {s:By}{b:UInt8}{r:By}(h:oF s=some (b,r)):r.length<s.length:=by
 unfold oF at h;split at h
 · cases h
 · split at h
   · have:=uR h;simp only[List.length_cons];omega
   · split at h
     · cases h
     · cases h;simp
theorem mP {s:By}{p:UInt8×UInt8}{r:By}(h:eH s=some (p,r)):r.length<s.length:=by
 unfold eH at h;split at h
 · cases h
 · rename_i a t ha;have h1:=pU ha;split at h
   · rename_i t';split at h
     · cases h
     · rename_i b t'' hb;have h2:=pU hb;split at h
       · cases h
       · cases h;simp only[List.length_cons] at h1;omega
   · cases h;exact h1
theorem qE:∀(n acc:Nat){s:By}{m:Nat}{r:By},lS n acc s=some (m,r)->r.length<s.length
 | 0,_,s,m,r,h=>by cases h
 |n+1,acc,s,m,r,h=>by
  rw[lS] at h;split at h
  · cases h
  · rename_i a b t ht;have h1:=mP ht;split at h
    · cases h;simp only[List.length_cons] at h1;omega
    · have:=qE n _ h;omega
theorem qp {s:By}{x:Nd}{r:By}(h:iw s=some (x,r)):r.length<s.length:=by
 unfold iw at h;split at h
 · rename_i t;simp only[Option.map_eq_some_iff] at h;obtain⟨⟨m,r'⟩,h1,h2⟩:=h;cases h2;have:=qE _ _ h1;simp only[List.length_cons];omega
 · simp only[Option.map_eq_some_iff] at h;obtain⟨⟨m,r'⟩,h1,h2⟩:=h;cases h2;exact qE _ _ h1
theorem xG {rows:By->Option (Nd×By)}(hr:∀{s x r},rows s=some (x,r)->r.length<=s.length){s:By}{x:Nd}{r:By}(h:eZ rows s=some (x,r)):r.length<s.length:=by
 unfold eZ at h;split at h
 · cases h
 · rename_i c t;simp only[List.length_cons];split at h
   · split at h
     · cases h
     · rename_i n t' ht;have:=hr ht;split at h
       · rename_i t'' _;cases h;simp only[List.length_cons] at this;omega
       · cases h
   · split at h
     · have:=qp h;omega
     · split at h
       · cases h;omega
       · split at h
         · simp only[Option.map_eq_some_iff] at h;obtain⟨⟨b,r'⟩,h1,h2⟩:=h;cases h2;have:=uR h1;dsimp only;omega
         · split at h
           · cases h
           · cases h;omega
theorem tD:∀(s:By) (n:Nd),(eD n s).2.length<=s.length
 | [],n=>by simp[eD]
 |c::r,n=>by
  rw[eD];split
  · simp
  · have:=tD r (.mk (cW c) 0 [n]);simp only[List.length_cons];omega
theorem fR {rows:By->Option (Nd×By)}(hr:∀{s x r},rows s=some (x,r)->r.length<=s.length){s:By}{x:Nd}{r:By}(h:fS rows s=some (x,r)):r.length<s.length:=by
 unfold fS at h;simp only[Option.map_eq_some_iff] at h;obtain⟨⟨n,t⟩,h1,h2⟩:=h;have h3:=xG hr h1;have h4:=tD t n;rw[h2] at h4;simp only at h4;omega
theorem qH {rows:By->Option (Nd×By)}(hr:∀{s x r},rows s=some (x,r)->r.length<=s.length):∀(n:Nat) (all row:List Nd){s:By}{x:Nd}{r:By},iI rows n all row s=some (x,r)->r.length<=s.length/\(r=[]\/r.head? =some 41)
 | 0,_,_,s,x,r,h=>by cases h
 |n+1,all,row,s,x,r,h=>by
  rw[iI] at h;split at h
  · rename_i he;split at h
    · have:=qH hr n _ _ h;exact⟨by have h2:=this.1;simp only[List.length_tail] at h2;omega,this.2⟩
    · rename_i hn;cases h;refine⟨Nat.le_refl _,?_⟩;cases s with
      |nil=>exact .inl rfl
      |cons c t =>
       right
       unfold j8 at he;have h1:c≠124:=fun e=>hn (by rw[e];rfl)
       simp[h1] at he;simp[he]
  · split at h
    · cases h
    · rename_i y t ht;have h1:=fR hr ht;have h2:=qH hr n _ _ h;exact⟨by omega,h2.2⟩
theorem kK:∀(d:Nat){s:By}{x:Nd}{r:By},dI d s=some (x,r)->r.length<=s.length
 | 0,s,x,r,h=>by cases h
 |d+1,s,x,r,h=>(qH (fun h=>kK d h) _ _ _ h).1
theorem Ax {rows:By->Option (Nd×By)}(hr:∀{s x r},rows s=some (x,r)->r.length<=s.length):∀(n:Nat){s:By}{l:List Nd}{r:By},mz rows n s=some (l,r)->r.length<=s.length/\j8 r=true/\l.length<=s.length
 | 0,s,l,r,h=>by cases h
 |n+1,s,l,r,h=>by
  rw[mz] at h;split at h
  · rename_i he;cases h;exact⟨Nat.le_refl _,he,Nat.zero_le _⟩
  · split at h
    · cases h
    · rename_i y t ht;have h1:=fR hr ht;simp only[Option.map_eq_some_iff] at h;obtain⟨⟨m,r'⟩,h2,h3⟩:=h;cases h3;have h4:=Ax hr n h2;have h5:=h4.1;have h6:=h4.2.2;exact⟨by first|omega|(dsimp only;omega),h4.2.1,by simp only[List.length_cons];first|omega|(dsimp only at h6;omega)⟩
theorem tL {rows:By->Option (Nd×By)}(hr:∀{s x r},rows s=some (x,r)->r.length<=s.length):∀(k:Nat) (n m:Nat) (all row:List Nd) (s:By),s.length<=k->s.length<n->s.length<m->iI rows n all row s=iI rows m all row s:=by
 intro k
 induction k with
 |zero =>
  intro n m all row s hk hn hm;cases n with
  |zero=>omega
  |succ n =>
   cases m with
   |zero=>omega
   |succ m =>
    have:s=[]:=List.eq_nil_of_length_eq_zero (by omega);subst this;rfl
 |succ k ih =>
  intro n m all row s hk hn hm;cases n with
  |zero=>omega
  |succ n =>
   cases m with
   |zero=>omega
   |succ m =>
    rw[iI,iI];split
    · split
      · rename_i h1;have h2:s.tail.length+1=s.length:=by cases s with|nil=>cases h1|cons a b=>simp
        exact ih _ _ _ _ _ (by omega) (by omega) (by omega)
      · rfl
    · cases hp:fS rows s with
      |none=>rfl
      |some p =>
       obtain⟨y,t⟩:=p;have:=fR hr hp;exact ih _ _ _ _ _ (by omega) (by omega) (by omega)
theorem wM {rows:By->Option (Nd×By)}(hr:∀{s x r},rows s=some (x,r)->r.length<=s.length):∀(n m:Nat) (s:By),s.length<n->s.length<m->mz rows n s=mz rows m s
 | 0,_,_,h,_=>by omega
 |_,0,_,_,h=>by omega
 |n+1,m+1,s,hn,hm=>by
  rw[mz,mz];split
  · rfl
  · cases hp:fS rows s with
    |none=>rfl
    |some p =>
     obtain⟨y,t⟩:=p;have:=fR hr hp;simp only;rw[wM hr n m t (by omega) (by omega)]
def yu (rows:By->Option (Nd×By)) (s:By):Option (Nd×By):=(mz rows (s.length+1) s).map fun p=>(bS 2 p.1,p.2)
def rY (rows:By->Option (Nd×By)) (all:List Nd) (m:By):Option (Nd×By) :=
 if m.head? =some 124 then iI rows (m.tail.length+1) all [] m.tail else some (bS 3 all,m)
theorem Em {rows:By->Option (Nd×By)}(hr:∀{s x r},rows s=some (x,r)->r.length<=s.length):∀(n m:Nat) (all row:List Nd) (s:By),s.length<n->s.length<m ->
 iI rows n all row s=match mz rows m s with
  |none=>none
  |some (l,r)=>if r.head? =some 124 then iI rows (r.length+1) (all++[bS 2 (row++l)]) [] r.tail else some (bS 3 (all++[bS 2 (row++l)]),r):=by
 have fuel:=fun k=>@tL rows hr k
 intro n
 induction n with
 |zero=>intro m all row s h;omega
 |succ n ih =>
  intro m all row s hn hm;cases m with
  |zero=>omega
  |succ m =>
   rw[iI,mz]
   by_cases he:j8 s=true
   · rw[if_pos he,if_pos he];simp only[List.append_nil];split
     · rename_i h1;have h2:s.tail.length+1=s.length:=by cases s with|nil=>cases h1|cons a b=>simp
       exact fuel _ _ _ _ _ _ (Nat.le_refl _) (by omega) (by omega)
     · rfl
   · rw[if_neg he,if_neg he];cases hp:fS rows s with
     |none=>rfl
     |some p =>
      obtain⟨y,t⟩:=p;have hlt:=fR hr hp;simp only;rw[ih m all (row++[y]) t (by omega) (by omega)];cases hl:mz rows m t with
      |none=>rfl
      |some q =>
       obtain⟨l,r⟩:=q;simp only[Option.map_some,List.append_assoc,List.singleton_append]
theorem tM {rows:By->Option (Nd×By)}(hr:∀{s x r},rows s=some (x,r)->r.length<=s.length) (all:List Nd) (s:By) :
 iI rows (s.length+1) all [] s=match yu rows s with|none=>none|some (x,r)=>rY rows (all++[x]) r:=by
 rw[Em hr _ (s.length+1) _ _ _ (Nat.lt_succ_self _) (Nat.lt_succ_self _)];unfold yu;cases hl:mz rows (s.length+1) s with
 |none=>rfl
 |some q =>
  obtain⟨l,r⟩:=q;simp only[Option.map_some,List.nil_append,rY];split
  · exact tL hr r.length _ _ _ _ _ (by simp) (by simp;omega) (by omega)
  · rfl
theorem Aw {rows:By->Option (Nd×By)}(hr:∀{s x r},rows s=some (x,r)->r.length<=s.length){s:By}{x:Nd}{r:By}(h:yu rows s=some (x,r)):r.length<=s.length:=by
 unfold yu at h;simp only[Option.map_eq_some_iff] at h;obtain⟨⟨l,r'⟩,h1,h2⟩:=h;cases h2;exact(Ax hr _ h1).1
def bz (s:By):Nd×Int:=if 200<s.length then (nF,3) else match j9 s with|some x=>(x,0)|none=>(nF,10)
end Go.Proofs.YtdgckfkoihcmjaaGreatDoor
namespace Go.Proofs.YtdgckfkoihcmjaaGreatDoor
open Go
section
variable {k:Int}
inductive Tr where
 |mk (k:Int) (t:By) (l:List Tr)
def Tr.kind:Tr->Int|.mk k _ _=>k
def Tr.text:Tr->By|.mk _ t _=>t
def Tr.kids:Tr->List Tr|.mk _ _ l=>l
abbrev Un:=Int×By×Int
inductive PS where
 |ok (r:List Un)
 |bad (m:Int)
def PS.cJ:PS->Bool|.ok _=>false|.bad _=>true
def PS.len:PS->Nat|.ok r=>r.length|.bad _=>0
def Mk (e:Int):List Un->Int| []=>e|u::_=>u.2.2
def cZ (e:Int):PS->PS|.ok r=>.bad (Mk e r)|.bad m=>.bad m
def cY (k:Int) (ts:List By):PS->Option By×PS
 |.ok (u::r)=>if u.1=k/\u.2.1∈ts then (some u.2.1,.ok r) else (none,.ok (u::r))
 |.ok []=>(none,.ok [])
 |.bad m=>(none,.bad m)
def dS (e k:Int) (t:By) (s:PS):PS:=match (cY k [t] s).1 with|some _=>(cY k [t] s).2|none=>cZ e (cY k [t] s).2
def dz (e:Int):PS->By×PS
 |.ok (u::r)=>if u.1=3 then (u.2.1,.ok r) else ([],cZ e (.ok (u::r)))
 |.ok []=>([],cZ e (.ok []))
 |.bad m=>([],.bad m)
abbrev vX:By:=[108,101,116]
abbrev LL:By:=[105,110]
abbrev Il:By:=[105,102]
abbrev Ag:By:=[101,108,115,101]
abbrev FT:By:=[102,117,110]
abbrev l9:By:=[111,114]
abbrev jb:By:=[97,110,100]
abbrev nM:By:=[110,111,116]
abbrev iq:By:=[116,114,117,101]
abbrev lz:By:=[102,97,108,115,101]
abbrev tu:By:=[124,124]
abbrev tw:By:=[38,38]
abbrev Ah:By:=[33]
abbrev oz:By:=[45]
abbrev FU:List By:=[[61,61],[33,61],[60],[60,61],[62],[62,61]]
abbrev FR:List By:=[[43],[45]]
abbrev Af:List By:=[[42],[47],[37]]
def EA (k:Nat) (s:PS):Option By×PS :=
 if k=0 then (match cY 4 [l9] s with|(some _,s)=>(some l9,s)|(none,s)=>match cY 6 [tu] s with|(some _,s)=>(some l9,s)|(none,s)=>(none,s))
 else if k=1 then (match cY 4 [jb] s with|(some _,s)=>(some jb,s)|(none,s)=>match cY 6 [tw] s with|(some _,s)=>(some jb,s)|(none,s)=>(none,s))
 else if k=3 then cY 6 FU s
 else if k=4 then cY 6 FR s
 else cY 6 Af s
inductive Lv where
 |stmt|expr|lt (alone:Bool)|choice|fn|block
 |blockL (l:List Tr)|part (k:Nat)|opL (k:Nat) (t:Tr)|callL (t:Tr)|argL (t:Tr)|atom
def ng (u:Un):Option Tr :=
 if u.1=5 then some (.mk 0 u.2.1 []) else if u.1=9 then some (.mk 1 u.2.1 []) else if u.1=3 then some (.mk 3 u.2.1 [])
 else if u.1=4/\(u.2.1=iq\/u.2.1=lz) then some (.mk 2 u.2.1 []) else none
def IC:Tr:=.mk 0 [] []
abbrev Fv:=Option (Tr×PS)
def gF (a:Fv) (f:Tr->PS->Fv):Fv:=a.bind fun p=>f p.1 p.2
def pM (e:Int):Nat->Lv->PS->Fv
 | 0,_,_=>none
 |n+1,.stmt,s=>match cY 4 [vX] s with
  |(some _,s)=>pM e n (.lt true) s
  |(none,s)=>pM e n .expr s
 |n+1,.expr,s=>match cY 4 [vX] s with
  |(some _,s)=>pM e n (.lt false) s
  |(none,s)=>match cY 4 [Il] s with
   |(some _,s)=>pM e n .choice s
   |(none,s)=>match cY 4 [FT] s with
    |(some _,s)=>pM e n .fn s
    |(none,s)=>pM e n (.part 0) s
 |n+1,.lt alone,s=>gF (pM e n .expr (dS e 6 [61] (dz e s).2)) fun v s1=>match cY 4 [LL] s1 with
  |(some _,s2)=>gF (pM e n .expr s2) fun w s3=>some (.mk 7 (dz e s).1 [v,w],s3)
  |(none,s2)=>some (.mk 7 (dz e s).1 [v],if alone then s2 else cZ e s2)
 |n+1,.choice,s=>gF (pM e n .expr s) fun a s=>gF (pM e n .block s) fun b s=>match cY 4 [Il] (dS e 4 Ag s) with
  |(some _,s)=>gF (pM e n .choice s) fun c s=>some (.mk 6 [] [a,b,c],s)
  |(none,s)=>gF (pM e n .block s) fun c s=>some (.mk 6 [] [a,b,c],s)
 |n+1,.fn,s=>match cY 6 [[44]] (dz e s).2 with
  |(some _,s1)=>gF (pM e n .fn s1) fun a s2=>some (.mk 8 (dz e s).1 [a],s2)
  |(none,s1)=>gF (pM e n .expr (dS e 6 [45,62] s1)) fun a s2=>some (.mk 8 (dz e s).1 [a],s2)
 |n+1,.block,s=>pM e n (.blockL []) (dS e 7 [123] s)
 |n+1,.blockL l,s=>gF (pM e n .stmt s) fun t s=>match cY 6 [[59]] s with
  |(more,s)=>match cY 8 [[125]] s with
   |(some _,s)=>some (.mk 10 [] (l++[t]),s)
   |(none,s)=>if more.isSome && !s.cJ then pM e n (.blockL (l++[t])) s else some (.mk 10 [] (l++[t]),cZ e s)
 |n+1,.part k,s =>
  if k=7 then gF (pM e n .atom s) fun t s=>pM e n (.callL t) s
  else if k=2 then match cY 4 [nM] s with
   |(some _,s)=>gF (pM e n (.part 2) s) fun t s=>some (.mk 4 nM [t],s)
   |(none,s)=>match cY 6 [Ah] s with
    |(some _,s)=>gF (pM e n (.part 2) s) fun t s=>some (.mk 4 nM [t],s)
    |(none,s)=>pM e n (.part 3) s
  else if k=6 then match cY 6 [oz] s with
   |(some _,s)=>gF (pM e n (.part 6) s) fun t s=>some (.mk 4 oz [t],s)
   |(none,s)=>pM e n (.part 7) s
  else gF (pM e n (.part (k+1)) s) fun t s=>pM e n (.opL k t) s
 |n+1,.opL k t,s=>match EA k s with
  |(some op,s)=>gF (pM e n (.part (k+1)) s) fun u s=>if k=3 then some (.mk 5 op [t,u],s) else pM e n (.opL k (.mk 5 op [t,u])) s
  |(none,s)=>some (t,s)
 |n+1,.callL t,s=>match cY 7 [[40]] s with
  |(some _,s)=>pM e n (.argL t) s
  |(none,s)=>some (t,s)
 |n+1,.argL t,s=>gF (pM e n .expr s) fun a s=>match cY 6 [[44]] s with
  |(some _,s)=>pM e n (.argL (.mk 9 [] [t,a])) s
  |(none,s)=>pM e n (.callL (.mk 9 [] [t,a])) (dS e 8 [41] s)
 |n+1,.atom,s=>match s with
  |.bad m=>some (IC,.bad m)
  |.ok []=>some (IC,cZ e (.ok []))
  |.ok (u::r)=>match ng u with
   |some t=>some (t,.ok r)
   |none=>if u.1=7/\u.2.1=[123] then pM e n .block (.ok (u::r))
    else if u.1=7/\u.2.1=[40] then gF (pM e n .expr (.ok r)) fun t s=>some (t,dS e 8 [41] s)
    else some (IC,cZ e (.ok (u::r)))
theorem mN (k:Int) (ts:List By) (u:Un) (r:List Un):cY k ts (.ok (u::r))=if u.1=k/\u.2.1∈ts then (some u.2.1,.ok r) else (none,.ok (u::r)):=rfl
theorem oC (e:Int) (u:Un) (r:List Un):dz e (.ok (u::r))=if u.1=3 then (u.2.1,.ok r) else ([],cZ e (.ok (u::r))):=rfl
theorem Je (k:Int) (ts:List By) (m:Int):cY k ts (.bad m)=(none,.bad m):=rfl
theorem dO {ts:List By}{s s':PS}(h:cY k ts s=(none,s')):s'=s:=by
 cases s with
 |bad m=>cases h;rfl
 |ok r=>cases r with
  |nil=>cases h;rfl
  |cons u r=>rw[mN] at h;split at h<;>cases h;rfl
theorem uA {ts:List By}{s s':PS}{t:By}(h:cY k ts s=(some t,s')):∃u r,s= .ok (u::r)/\s'= .ok r/\u.1=k/\u.2.1=t/\t∈ts:=by
 cases s with
 |bad m=>cases h
 |ok r=>cases r with
  |nil=>cases h
  |cons u r=>rw[mN] at h;split at h<;>cases h;rename_i q;exact⟨u,r,rfl,rfl,q.1,rfl,q.2⟩
theorem p8 {ts:List By}{s s':PS}{t:By}(h:cY k ts s=(some t,s')):s.len=s'.len+1:=by
 obtain⟨u,r,rfl,rfl,_⟩:=uA h;simp[PS.len]
theorem xC (e:Int) (s:PS):∃m,cZ e s= .bad m:=by cases s<;>exact⟨_,rfl⟩
theorem EH (e k:Int) (t:By) (s:PS):(dS e k t s).len<=s.len:=by
 unfold dS
 rcases hq:cY k [t] s with ⟨q,s'⟩
 cases q with
 |none=>have:=dO hq;subst this;obtain⟨m,hm⟩:=xC e s';simp[hm,PS.len]
 |some x=>have:=p8 hq;simp;omega
theorem EG (e:Int) (s:PS):(dz e s).2.len<=s.len/\((dz e s).2.len<s.len\/(dz e s).2.cJ=true):=by
 cases s with
 |bad m=>simp[dz,PS.cJ]
 |ok r=>cases r with
  |nil=>simp[dz,cZ,PS.cJ,PS.len]
  |cons u r =>
   rw[oC];split
   · simp[PS.len]
   · simp[cZ,PS.len,PS.cJ]
theorem E6 (e:Int) (s:PS):(cZ e s).len=0:=by cases s<;>rfl
theorem Gz {k:Nat}{s s':PS}(h:EA k s=(none,s')):s'=s:=by
 unfold EA at h;split at h
 · rcases hq:cY 4 [l9] s with ⟨q,s1⟩
   rw[hq] at h;cases q with
   |some x=>simp at h
   |none =>
    have e1:=dO hq;subst e1
    rcases hq2:cY 6 [tu] s1 with ⟨q,s2⟩
    simp only[hq2] at h;cases q with
    |some x=>simp at h
    |none=>have:=dO hq2;subst this;simp at h;exact h.symm
 · split at h
   · rcases hq:cY 4 [jb] s with ⟨q,s1⟩
     rw[hq] at h;cases q with
     |some x=>simp at h
     |none =>
      have e1:=dO hq;subst e1
      rcases hq2:cY 6 [tw] s1 with ⟨q,s2⟩
      simp only[hq2] at h;cases q with
      |some x=>simp at h
      |none=>have:=dO hq2;subst this;simp at h;exact h.symm
   · split at h
     · exact dO h
     · split at h<;>exact dO h
theorem AF {k:Nat}{s s':PS}{t:By}(h:EA k s=(some t,s')):∃u r,s= .ok (u::r)/\s'= .ok r:=by
 have key:∀{k ts}{s s':PS}{t:By},cY k ts s=(some t,s')->∃u r,s= .ok (u::r)/\s'= .ok r:=fun h=>by
  obtain⟨u,r,h1,h2,_⟩:=uA h;exact⟨u,r,h1,h2⟩
 unfold EA at h;split at h
 · rcases hq:cY 4 [l9] s with ⟨q,s1⟩
   rw[hq] at h;cases q with
   |some x=>simp at h;rw[<-h.2];exact key hq
   |none =>
    have e1:=dO hq;subst e1
    rcases hq2:cY 6 [tu] s1 with ⟨q,s2⟩
    simp only[hq2] at h;cases q with
    |some x=>simp at h;rw[<-h.2];exact key hq2
    |none=>simp at h
 · split at h
   · rcases hq:cY 4 [jb] s with ⟨q,s1⟩
     rw[hq] at h;cases q with
     |some x=>simp at h;rw[<-h.2];exact key hq
     |none =>
      have e1:=dO hq;subst e1
      rcases hq2:cY 6 [tw] s1 with ⟨q,s2⟩
      simp only[hq2] at h;cases q with
      |some x=>simp at h;rw[<-h.2];exact key hq2
      |none=>simp at h
   · split at h
     · exact key h
     · split at h<;>exact key h
theorem IM {k:Nat}{s s':PS}{t:By}(h:EA k s=(some t,s')):s.len=s'.len+1:=by
 obtain⟨u,r,rfl,rfl⟩:=AF h;simp[PS.len]
theorem aD {a:Fv}{f:Tr->PS->Fv}{y:Tr×PS}(h:gF a f=some y):∃t s,a=some (t,s)/\f t s=some y:=by
 cases a with
 |none=>cases h
 |some p=>exact⟨p.1,p.2,rfl,h⟩
theorem yC (e:Int):∀(n:Nat) (j:Lv) (s:PS) (t:Tr) (s':PS),pM e n j s=some (t,s')->s'.len<=s.len/\(∀m,s= .bad m->s'= .bad m)
 | 0,_,_,_,_,h=>by cases h
 |n+1,j,s,t,s',h=>by
  have ih:=yC e n;have hm:∀{k t}{s:PS},(dS e k t s).len<=s.len/\(∀m,s= .bad m->dS e k t s= .bad m):=fun {k t s}=>⟨EH e k t s,fun m q=>by subst q;rfl⟩
  have hi:∀{k ts}{s s':PS} {o},cY k ts s=(o,s')->s'.len<=s.len/\(∀m,s= .bad m->s'= .bad m):=fun {k ts s s' o} q=>by
   cases o with
   |none=>have:=dO q;subst this;exact⟨Nat.le_refl _,fun m q=>q⟩
   |some x=>exact⟨by have:=p8 q;omega,fun m q2=>by subst q2;cases q⟩
  have ho:∀{k}{s s':PS} {o},EA k s=(o,s')->s'.len<=s.len/\(∀m,s= .bad m->s'= .bad m):=fun {k s s' o} q=>by
   cases o with
   |none=>have:=Gz q;subst this;exact⟨Nat.le_refl _,fun m q=>q⟩
   |some x=>exact⟨by have:=IM q;omega,fun m q2=>by subst q2;obtain⟨_,_,q3,_⟩:=AF q;cases q3⟩
  have hn:∀{s:PS},(dz e s).2.len<=s.len/\(∀m,s= .bad m->(dz e s).2= .bad m):=fun {s}=>⟨(EG e s).1,fun m q=>by subst q;rfl⟩
  have hf:∀{s:PS},(cZ e s).len<=s.len/\(∀m,s= .bad m->cZ e s= .bad m):=fun {s}=>⟨by rw[E6];omega,fun m q=>by subst q;rfl⟩
  have tr:∀{a b c:PS},(b.len<=a.len/\(∀m,a= .bad m->b= .bad m))->(c.len<=b.len/\(∀m,b= .bad m->c= .bad m))->(c.len<=a.len/\(∀m,a= .bad m->c= .bad m)) :=
   fun p q=>⟨Nat.le_trans q.1 p.1,fun m r=>q.2 m (p.2 m r)⟩
  cases j with
  |stmt =>
   simp only[pM] at h
   rcases h1:cY 4 [vX] s with ⟨o,s1⟩
   rw[h1] at h;cases o<;>exact tr (hi h1) (ih _ _ _ _ h)
  |expr =>
   simp only[pM] at h
   rcases h1:cY 4 [vX] s with ⟨o,s1⟩
   rw[h1] at h;cases o with
   |some x=>exact tr (hi h1) (ih _ _ _ _ h)
   |none =>
    simp only at h
    rcases h2:cY 4 [Il] s1 with ⟨o,s2⟩
    rw[h2] at h;cases o with
    |some x=>exact tr (hi h1) (tr (hi h2) (ih _ _ _ _ h))
    |none =>
     simp only at h
     rcases h3:cY 4 [FT] s2 with ⟨o,s3⟩
     rw[h3] at h;cases o<;>exact tr (hi h1) (tr (hi h2) (tr (hi h3) (ih _ _ _ _ h)))
  |lt alone =>
   simp only[pM] at h;obtain⟨v,s1,h1,h⟩:=aD h;have k1:=tr hn (tr hm (ih _ _ _ _ h1))
   rcases h2:cY 4 [LL] s1 with ⟨o,s2⟩
   rw[h2] at h;cases o with
   |some x =>
    simp only at h;obtain⟨w,s3,h3,h⟩:=aD h;cases h;exact tr k1 (tr (hi h2) (ih _ _ _ _ h3))
   |none =>
    simp only at h;cases h;cases alone
    · exact tr k1 (tr (hi h2) hf)
    · exact tr k1 (hi h2)
  |choice =>
   simp only[pM] at h;obtain⟨a,s1,h1,h⟩:=aD h;obtain⟨b,s2,h2,h⟩:=aD h;have k:=tr (ih _ _ _ _ h1) (tr (ih _ _ _ _ h2) (hm (k:=4) (t:=Ag)))
   rcases h3:cY 4 [Il] (dS e 4 Ag s2) with ⟨o,s3⟩
   rw[h3] at h;cases o with
   |some x=>simp only at h;obtain⟨c,s4,h4,h⟩:=aD h;cases h;exact tr k (tr (hi h3) (ih _ _ _ _ h4))
   |none=>simp only at h;obtain⟨c,s4,h4,h⟩:=aD h;cases h;exact tr k (tr (hi h3) (ih _ _ _ _ h4))
  |fn =>
   simp only[pM] at h
   rcases h3:cY 6 [[44]] (dz e s).2 with ⟨o,s3⟩
   rw[h3] at h;cases o with
   |some x=>simp only at h;obtain⟨c,s4,h4,h⟩:=aD h;cases h;exact tr hn (tr (hi h3) (ih _ _ _ _ h4))
   |none=>simp only at h;obtain⟨c,s4,h4,h⟩:=aD h;cases h;exact tr hn (tr (hi h3) (tr hm (ih _ _ _ _ h4)))
  |block=>simp only[pM] at h;exact tr hm (ih _ _ _ _ h)
  |blockL l =>
   simp only[pM] at h;obtain⟨t1,s1,h1,h⟩:=aD h
   rcases h2:cY 6 [[59]] s1 with ⟨o,s2⟩
   rw[h2] at h;simp only at h
   rcases h3:cY 8 [[125]] s2 with ⟨q,s3⟩
   rw[h3] at h;have k:=tr (ih _ _ _ _ h1) (tr (hi h2) (hi h3));cases q with
   |some x=>simp only at h;cases h;exact k
   |none =>
    simp only at h;split at h
    · exact tr k (ih _ _ _ _ h)
    · cases h;exact tr k hf
  |part k =>
   simp only[pM] at h;split at h
   · obtain⟨t1,s1,h1,h⟩:=aD h;exact tr (ih _ _ _ _ h1) (ih _ _ _ _ h)
   · split at h
     · rcases h1:cY 4 [nM] s with ⟨o,s1⟩
       rw[h1] at h;cases o with
       |some x=>simp only at h;obtain⟨c,s4,h4,h⟩:=aD h;cases h;exact tr (hi h1) (ih _ _ _ _ h4)
       |none =>
        simp only at h
        rcases h2:cY 6 [Ah] s1 with ⟨o,s2⟩
        rw[h2] at h;cases o with
        |some x=>simp only at h;obtain⟨c,s4,h4,h⟩:=aD h;cases h;exact tr (hi h1) (tr (hi h2) (ih _ _ _ _ h4))
        |none=>exact tr (hi h1) (tr (hi h2) (ih _ _ _ _ h))
     · split at h
       · rcases h1:cY 6 [oz] s with ⟨o,s1⟩
         rw[h1] at h;cases o with
         |some x=>simp only at h;obtain⟨c,s4,h4,h⟩:=aD h;cases h;exact tr (hi h1) (ih _ _ _ _ h4)
         |none=>exact tr (hi h1) (ih _ _ _ _ h)
       · obtain⟨t1,s1,h1,h⟩:=aD h;exact tr (ih _ _ _ _ h1) (ih _ _ _ _ h)
  |opL k t0 =>
   simp only[pM] at h
   rcases h1:EA k s with ⟨o,s1⟩
   rw[h1] at h;cases o with
   |some x =>
    simp only at h;obtain⟨c,s4,h4,h⟩:=aD h;split at h
    · cases h;exact tr (ho h1) (ih _ _ _ _ h4)
    · exact tr (ho h1) (tr (ih _ _ _ _ h4) (ih _ _ _ _ h))
   |none=>simp only at h;cases h;exact ho h1
  |callL t0 =>
   simp only[pM] at h
   rcases h1:cY 7 [[40]] s with ⟨o,s1⟩
   rw[h1] at h;cases o with
   |some x=>exact tr (hi h1) (ih _ _ _ _ h)
   |none=>simp only at h;cases h;exact hi h1
  |argL t0 =>
   simp only[pM] at h;obtain⟨t1,s1,h1,h⟩:=aD h
   rcases h2:cY 6 [[44]] s1 with ⟨o,s2⟩
   rw[h2] at h;cases o with
   |some x=>exact tr (ih _ _ _ _ h1) (tr (hi h2) (ih _ _ _ _ h))
   |none=>exact tr (ih _ _ _ _ h1) (tr (hi h2) (tr hm (ih _ _ _ _ h)))
  |atom =>
   cases s with
   |bad m=>simp only[pM] at h;cases h;exact⟨Nat.le_refl _,fun _ q=>q⟩
   |ok r=>cases r with
    |nil=>simp only[pM] at h;cases h;exact hf
    |cons u r =>
     simp only[pM] at h;have kk:(PS.ok r).len<=(PS.ok (u::r)).len/\(∀m,PS.ok (u::r)= .bad m->PS.ok r= .bad m):=⟨by simp[PS.len],fun m q=>by cases q⟩
     split at h
     · cases h;exact kk
     · split at h
       · exact ih _ _ _ _ h
       · split at h
         · obtain⟨t1,s1,h1,h⟩:=aD h;cases h;exact tr kk (tr (ih _ _ _ _ h1) hm)
         · cases h;exact hf
theorem Gu {e:Int}{n:Nat}{j:Lv}{s:PS}{t:Tr}{s':PS}(h:pM e n j s=some (t,s')):s'.len<=s.len:=(yC e n j s t s' h).1
theorem Gv {e:Int}{n:Nat}{j:Lv}{m:Int}{t:Tr}{s':PS}(h:pM e n j (.bad m)=some (t,s')):s'= .bad m:=(yC e n j _ t s' h).2 m rfl
abbrev Tok:=Int×Int×Int
def cR (s:By) (t:Tok):By:=(s.drop t.2.1.toNat).take (t.2.2.toNat-t.2.1.toNat)
def DA (s:By) (t:Tok):Bool:=decide (0<=t.2.1) && decide (t.2.2<=s.length) && decide (t.2.1<=t.2.2)
def kf:List (UInt8×UInt8):=[(110,10),(114,13),(116,9),(34,34),(92,92),(48,0)]
def Jk (c:UInt8):UInt8:=match kf.find? (fun p=>p.1 ==c) with|some p=>p.2|none=>c
def qN (t:By):UInt8:=match t[1]? with|some c=>Jk c|none=>32
def kU (x:By):List Un->List Un
 | []=>[]
 | [u]=>[(u.1,u.2.1++x,u.2.2)]
 |u::v::l=>u::kU x (v::l)
theorem xJ (x:By):∀(l:List Un) (u:Un),kU x (l++[u])=l++[(u.1,u.2.1++x,u.2.2)]
 | [],_=>rfl
 | [a],u=>rfl
 |a::b::l,u=>by
  show a::kU x ((b::l)++[u])=_
  rw[xJ x (b::l) u];rfl
theorem vw (x:By):∀l:List Un,(kU x l).length=l.length
 | []=>rfl
 | [_]=>rfl
 |_::b::l=>by show (kU x (b::l)).length+1=_;rw[vw x (b::l)];rfl
inductive UR where
 |er (at_ e:Int)
 |go (out:List Un) (op:Bool)
def lR (s:By) (out:List Un) (op:Bool) (t:Tok):UR :=
 if t.1=0 then .er t.2.1 10
 else if op then
  if t.1=9/\cR s t=[34] then .go out false
  else if t.1=10 then .go (kU [qN (cR s t)] out) true
  else .go (kU (cR s t) out) true
 else if t.1=1\/t.1=2\/t.1=11 then .go out false
 else if out.length=500 then .er t.2.1 3
 else .go (out++[(t.1,if t.1=9 then [] else cR s t,t.2.1)]) (decide (t.1=9))
def pg (s:By):List Tok->List Un->Bool->UR
 | [],out,op=>.go out op
 |t::l,out,op=>match lR s out op t with
  |.er a e=>.er a e
  |.go out op=>pg s l out op
def jY (s:By) (l:List Tok) (m:Int):(Int×Int) ⊕ List Un :=
 if l.all (DA s) then match pg s l [] false with
  |.er a e=>.inl (a,e)
  |.go out op=>if op\/m≠0 then .inl (s.length,10) else .inr out
 else .inl (0,2)
def ke (e:Int):Nat->List Tr->PS->Option (List Tr×PS)
 | 0,_,_=>none
 |n+1,l,s=>if s.len=0 then some (l,s) else (pM e n .stmt s).bind fun p=>match cY 6 [[59]] p.2 with
  |(some _,s2)=>ke e n (l++[p.1]) s2
  |(none,s2)=>ke e n (l++[p.1]) (if s2.len=0 then s2 else cZ e s2)
inductive eM (s:By) (l:List Tok) (m:Int):List Tr->Int->Int->Prop where
 |units {a e:Int}:jY s l m= .inl (a,e)->eM s l m [] a e
 |bad {u:List Un}{n:Nat}{k:List Tr}{a:Int}:jY s l m= .inr u->ke s.length n [] (.ok u)=some (k,.bad a)->eM s l m [] a 10
 |ok {u:List Un}{n:Nat}{k:List Tr}{r:List Un}:jY s l m= .inr u->ke s.length n [] (.ok u)=some (k,.ok r)->eM s l m k 0 0
def Tr.dep:Tr->Nat
 |.mk _ _ l=>depL l+1
where depL:List Tr->Nat
 | []=>0
 |t::l=>max t.dep (depL l)
theorem sW {t:By}{l:List Tr}{x:Tr}(h:x∈l):x.dep<(Tr.mk k t l).dep:=by
 show x.dep<Tr.dep.depL l+1
 have:x.dep<=Tr.dep.depL l:=by
  induction l with
  |nil=>simp at h
  |cons a l ih =>
   show x.dep<=max a.dep (Tr.dep.depL l)
   rcases List.mem_cons.1 h with rfl|h
   · omega
   · have:=ih h;omega
 omega
end
mutual
def rD:Tr->Tr->Bool
 |.mk k t l,.mk k' t' l'=>decide (k=k') && (decide (t=t') && lT l l')
def lT:List Tr->List Tr->Bool
 | [],[]=>true
 |a::l,b::l'=>rD a b && lT l l'
 | [],_::_=>false
 |_::_,[]=>false
end
mutual
theorem Eh:∀a b:Tr,rD a b=true↔a=b
 |.mk k t l,.mk k' t' l'=>by
  rw[rD,Bool.and_eq_true,Bool.and_eq_true,decide_eq_true_iff,decide_eq_true_iff,qG l l',Tr.mk.injEq]
theorem qG:∀l l':List Tr,lT l l'=true↔l=l'
 | [],[]=>by simp[lT]
 |a::l,b::l'=>by rw[lT,Bool.and_eq_true,Eh a b,qG l l',List.cons.injEq]
 | [],_::_=>by simp[lT]
 |_::_,[]=>by simp[lT]
end
section
variable {k:Int}
def yz (c:UInt8):By:=match kf.find? (fun p=>p.2 ==c) with|some p=>[92,p.1] |none=>[c]
def Cq (s:By):By:=34::(s.flatMap yz++[34])
def xq:List By->By
 | []=>[]
 | [x]=>x
 |x::y::l=>x++([59,32]++xq (y::l))
def BF (k:List By):By:=[105,102,32]++k.getD 0 []++[32]++k.getD 1 []++[32,101,108,115,101,32]++k.getD 2 []
def Gd (k:Int) (t:By) (l:List By):By :=
 if k=1 then Cq t
 else if k=4 then [40]++t++[32]++l.getD 0 []++[41]
 else if k=5 then [40]++l.getD 0 []++[32]++t++[32]++l.getD 1 []++[41]
 else if k=6 then [40]++BF l++[41]
 else if k=7 then (if l.length=1 then [108,101,116,32]++t++[32,61,32]++l.getD 0 [] else [40,108,101,116,32]++t++[32,61,32]++l.getD 0 []++[32,105,110,32]++l.getD 1 []++[41])
 else if k=8 then [40,102,117,110,32]++t++[32,45,62,32]++l.getD 0 []++[41]
 else if k=9 then l.getD 0 []++[40]++l.getD 1 []++[41]
 else if k=10 then [123,32]++xq l++[32,125]
 else t
end
mutual
def Gb:Bool->Tr->By
 |bare,.mk k t l=>if k=6/\bare=true then BF (mj (decide (k=6)) 0 l) else Gd k t (mj (decide (k=6)) 0 l)
def mj:Bool->Nat->List Tr->List By
 |_,_,[]=>[]
 |six,i,x::l=>Gb (six && decide (i=2)) x::mj six (i+1) l
end
section
variable {k:Int}
def jP (c:UInt8):Bool:=decide (48<=c) && decide (c<=57)
def isLet (c:UInt8):Bool:=(decide (97<=c) && decide (c<=122)) ||((decide (65<=c) && decide (c<=90)) ||decide (c=95))
def cx (s:By):By:=s.dropWhile jP
def eo (s:By):Bool:=decide ((cx s).length<s.length)
def l7 (s:By) (ok:Bool):Bool:=match s with
 |c::r=>if ok=true/\(c=101\/c=69) then
  (match r with
   |d::r'=>if d=43\/d=45 then eo r' && decide (cx r'=[]) else eo r && decide (cx r=[])
   | []=>false)
  else false
 | []=>ok
def Cv (s:By):Bool:=match cx s with
 |c::r=>if eo s=true/\c=46 then l7 (cx r) (eo r) else l7 (c::r) (eo s)
 | []=>eo s
def lD (word:By->Bool) (s:By):Bool :=
 (match s with| []=>false|c::r=>isLet c && r.all fun c=>isLet c ||jP c) && !word s
def wF:List By:=[[45],nM]
def dB:List By:=[l9,jb,[61,61],[33,61],[60],[60,61],[62],[62,61],[43],[45],[42],[47],[37]]
def cA (word:By->Bool) (k:Int) (t:By):Bool :=
 if k=0 then Cv t
 else if k=1 then decide (t.length<=16384)
 else if k=2 then decide (t=iq) ||decide (t=lz)
 else if k=3\/k=7\/k=8 then lD word t
 else if k=4 then decide (t∈wF)
 else if k=5 then decide (t∈dB)
 else decide (t=[])
def bY (k:Int):Nat×Nat :=
 if k=4\/k=8 then (1,1) else if k=5\/k=9 then (2,2) else if k=6 then (3,3) else if k=7 then (1,2) else if k=10 then (1,500) else (0,0)
def jf (word:By->Bool) (k:Int) (t:By) (n:Nat):Bool :=
 decide ((bY k).1<=n) && (decide (n<=(bY k).2) && (decide (0<=k) && (decide (k<=10) && cA word k t)))
def Dz (k:Int) (i:Nat):Tr->Bool
 |.mk k' _ l=>(decide (k=10) ||(decide (k'≠7) ||decide (l.length=2))) && (decide (k≠6) ||(decide (i=0) ||(decide (k'=10) ||(decide (i≠1) && decide (k'=6)))))
end
mutual
def bQ (word:By->Bool):Tr->Bool
 |.mk k t l=>jf word k t l.length && fN word k 0 l
def fN (word:By->Bool) (k:Int):Nat->List Tr->Bool
 |_,[]=>true
 |i,x::l=>(bQ word x && Dz k i x) && fN word k (i+1) l
end
section
variable {k:Int}
def cO (s:By):Nat:=(s.takeWhile jP).length
theorem kQ (s:By):s.drop (cO s)=cx s:=by
 unfold cO cx
 induction s with
 |nil=>rfl
 |cons c r ih =>
  rw[List.takeWhile_cons,List.dropWhile_cons];split
  · simpa using ih
  · rfl
theorem Bq (s:By):(cx s).length+cO s=s.length:=by
 rw[<-kQ,List.length_drop]
 have:cO s<=s.length:=by
  unfold cO
  induction s with
  |nil=>simp
  |cons c r ih=>rw[List.takeWhile_cons];split<;>simp;exact ih
 omega
theorem nJ (s:By):eo s=decide (0<cO s):=by
 have:=Bq s;unfold eo;rw[decide_eq_decide];omega
def xu (s:By):By:=match s with
 |c::r=>if c=46/\0<cO r then r.drop (cO r) else c::r
 | []=>[]
def nV (s:By):By:=match s with
 |c::r=>if c=43\/c=45 then r else c::r
 | []=>[]
def yY (s:By):By:=match s with
 |c::d::r=>if (c=101\/c=69)/\0<cO (nV (d::r)) then (nV (d::r)).drop (cO (nV (d::r))) else c::d::r
 |l=>l
def GG (s:By):Bool:=decide (0<cO s) && (yY (xu (s.drop (cO s)))).isEmpty
theorem Dx (s:By):decide (s=[])=s.isEmpty:=by cases s<;>rfl
theorem Bj {s:By}(ok:Bool) (h:ok=true):l7 s ok=(yY s).isEmpty:=by
 subst h
 match s with
 | []=>rfl
 | [c] =>
  unfold l7;simp only[true_and];split<;>rfl
 |c::d::r =>
  unfold l7 yY nV;simp only[true_and]
  by_cases hc:c=101\/c=69
  · rw[if_pos hc]
    by_cases hd:d=43\/d=45
    · simp only[if_pos hd,hc,true_and,nJ,kQ,Dx]
      by_cases h0:0<cO r
      · rw[if_pos h0,decide_eq_true h0,Bool.true_and]
      · rw[if_neg h0,decide_eq_false h0,Bool.false_and];simp
    · simp only[if_neg hd,hc,true_and,nJ,kQ,Dx]
      by_cases h0:0<cO (d::r)
      · rw[if_pos h0,decide_eq_true h0,Bool.true_and]
      · rw[if_neg h0,decide_eq_false h0,Bool.false_and];simp
  · rw[if_neg hc,if_neg (fun q=>hc q.1)];rfl
theorem Bk (s:By):l7 s false=false:=by
 unfold l7;cases s with
 |nil=>rfl
 |cons c r=>simp only[Bool.false_eq_true,false_and,if_false]
theorem IS (s:By):Cv s=GG s:=by
 unfold Cv GG;rw[kQ,<-nJ];cases hd:cx s with
 |nil =>
  simp only[xu,yY,List.isEmpty_nil,Bool.and_true]
 |cons c r =>
  simp only[xu];cases hb:eo s with
  |false =>
   simp only[Bool.false_eq_true,false_and,if_false,Bool.false_and];exact Bk _
  |true =>
   simp only[true_and,Bool.true_and]
   by_cases hc:c=46
   · rw[if_pos hc,nJ]
     by_cases h0:0<cO r
     · rw[if_pos ⟨hc,h0⟩,decide_eq_true h0,kQ];exact Bj _ rfl
     · rw[if_neg (fun q=>h0 q.2),decide_eq_false h0,Bk];subst hc;cases r with
       |nil=>rfl
       |cons d r=>simp only[yY];rw[if_neg (fun q=>by rcases q.1 with q|q<;>exact absurd q (by decide))];rfl
   · rw[if_neg hc,if_neg (fun q=>hc q.1)];exact Bj _ rfl
end
mutual
def Tr.wt:Tr->Nat
 |.mk _ t l=>2*t.length+20+Iv l
def Iv:List Tr->Nat
 | []=>0
 |x::l=>x.wt+Iv l
end
section
variable {k:Int}
theorem xS {l:List Tr}{x:Tr}(h:x∈l):x.wt<=Iv l:=by
 induction l with
 |nil=>cases h
 |cons a l ih =>
  rw[Iv]
  rcases List.mem_cons.1 h with rfl|h
  · omega
  · have:=ih h;omega
theorem B5 {t:By}{l:List Tr}{x:Tr}(h:x∈l):x.wt+20<=(Tr.mk k t l).wt:=by
 rw[Tr.wt];have:=xS h;omega
theorem Dg (k:Int) (t:By) (l:List Tr):2*t.length+20<=(Tr.mk k t l).wt:=by rw[Tr.wt];omega
def su (l:List By):Nat:=(l.map List.length).sum
theorem Bc:∀l:List By,(xq l).length<=su l+2*l.length
 | []=>by simp[xq]
 | [x]=>by simp[xq,su]
 |x::y::l=>by
  have:=Bc (y::l);rw[xq];simp only[List.length_append,List.length_cons,List.length_nil,su,List.map_cons,List.sum_cons] at *;omega
theorem Be (l:List By):(l.getD 0 []).length+(l.getD 1 []).length+(l.getD 2 []).length<=su l:=by
 match l with
 | []=>simp
 | [a]=>simp[su]
 | [a,b]=>simp[su]
 |a::b::c::l=>simp[su];omega
theorem Ew (c:UInt8):(yz c).length<=2:=by unfold yz;split<;>simp
theorem Eu (s:By):(Cq s).length<=2*s.length+2:=by
 unfold Cq;simp only[List.length_cons,List.length_append,List.length_nil]
 have:(s.flatMap yz).length<=2*s.length:=by
  induction s with
  |nil=>simp
  |cons c s ih=>rw[List.flatMap_cons,List.length_append,List.length_cons];have:=Ew c;omega
 omega
theorem Gc (k:Int) (t:By) (l:List By):(Gd k t l).length<=2*t.length+18+2*l.length+su l:=by
 have h1:=Eu t;have h2:=Be l;have h3:=Bc l;unfold Gd BF
 repeat' split
 all_goals ((try simp only[List.length_append,List.length_cons,List.length_nil]);omega)
theorem HS (l:List By):(BF l).length<=18+su l:=by
 have h2:=Be l;unfold BF;simp only[List.length_append,List.length_cons,List.length_nil];omega
theorem pG:∀(l:List Tr) (s:Bool) (i:Nat),(mj s i l).length=l.length
 | [],_,_=>by rw[mj];rfl
 |_::l,s,i=>by rw[mj,List.length_cons,pG l];rfl
end
mutual
theorem Ga:∀(x:Tr) (b:Bool),(Gb b x).length+2<=x.wt
 |.mk k t l,b=>by
  have h1:=tE l (decide (k=6)) 0;have h2:=Gc k t (mj (decide (k=6)) 0 l);have h3:=HS (mj (decide (k=6)) 0 l);have h4:=pG l (decide (k=6)) 0;rw[Gb,Tr.wt];split<;>omega
theorem tE:∀(l:List Tr) (s:Bool) (i:Nat),su (mj s i l)+2*l.length<=Iv l
 | [],_,_=>by rw[mj];simp[su,Iv]
 |x::l,s,i=>by
  have h1:=Ga x (s && decide (i=2));have h2:=tE l s (i+1);rw[mj,Iv];simp only[su,List.map_cons,List.sum_cons,List.length_cons] at *;omega
end
section
variable {k:Int}
def wO (j:Nat) (c:UInt8):Bool:=isLet c ||(decide (j≠0) && jP c)
def AK (s:By):Bool:=match s with| []=>false|c::r=>isLet c && r.all fun c=>isLet c ||jP c
theorem wU (word:By->Bool) (s:By):lD word s=(AK s && !word s):=by cases s<;>rfl
theorem wS (s:By):AK s=true↔s≠[]/\∀j c,s[j]? =some c->wO j c=true:=by
 cases s with
 |nil=>simp[AK]
 |cons c r =>
  simp only[AK,Bool.and_eq_true,List.all_eq_true];constructor
  · intro ⟨h1,h2⟩;refine⟨by simp,fun j d hd=>?_⟩;cases j with
    |zero=>simp at hd;subst hd;unfold wO;rw[h1];rfl
    |succ j =>
     have:=h2 d (List.mem_of_getElem? (by simpa using hd));unfold wO;simpa using this
  · intro ⟨_,h⟩;refine⟨by simpa [wO] using h 0 c rfl,fun d hd=>?_⟩;obtain⟨j,hj⟩:=List.getElem?_of_mem hd;simpa [wO] using h (j+1) d (by simpa using hj)
theorem AJ (word:By->Bool){s:By}{j:Nat}{c:UInt8}(h:s[j]? =some c) (hc:wO j c=false):lD word s=false:=by
 rw[wU]
 have:¬AK s=true:=fun q=>by
  have:=((wS s).1 q).2 j c h;rw[hc] at this;cases this
 rw[Bool.eq_false_iff.2 this];rfl
theorem wT (word:By->Bool){s:By}(h0:s≠[]) (h:∀j c,s[j]? =some c->wO j c=true):lD word s= !word s:=by
 rw[wU,(wS s).2 ⟨h0,h⟩,Bool.true_and]
theorem wR (word:By->Bool):lD word []=false:=rfl
theorem EU (c:UInt8):isLet c=decide ((97<=c.toNat/\c.toNat<=122)\/(65<=c.toNat/\c.toNat<=90)\/c.toNat=95):=by
 have k:∀n:Fin 256,isLet (UInt8.ofFin n)=decide ((97<=(UInt8.ofFin n).toNat/\(UInt8.ofFin n).toNat<=122)\/(65<=(UInt8.ofFin n).toNat/\(UInt8.ofFin n).toNat<=90)\/(UInt8.ofFin n).toNat=95):=by unfold isLet;decide +kernel
 exact k c.toFin
theorem qM (c:UInt8):jP c=decide (48<=c.toNat/\c.toNat<=57):=by
 have k:∀n:Fin 256,jP (UInt8.ofFin n)=decide (48<=(UInt8.ofFin n).toNat/\(UInt8.ofFin n).toNat<=57):=by unfold jP;decide +kernel
 exact k c.toFin
end
end Go.Proofs.YtdgckfkoihcmjaaGreatDoor
namespace Go.Proofs.YtdgckfkoihcmjaaGreatDoor
open Go Go.Lw
section
variable {h:aj}{O:Nat->Prop}{cs:List Value}
def B7 (s q:Nat):Nat:=(s >>> (64*q))%2 ^ 64
def ef (s q:Nat):Value:=.int .u64 (B7 s q:Nat)
def uS (s:Nat):List Value:=[ef s 0,ef s 1,ef s 2,ef s 3]
theorem B6 (s q:Nat):B7 s q<18446744073709551616:=Nat.mod_lt _ (by decide)
theorem lp (s q i:Nat):(B7 s q).testBit i=(decide (i<64) && s.testBit (64*q+i)):=by
 unfold B7;rw[Nat.testBit_mod_two_pow,Nat.testBit_shiftRight]
theorem FG (s b:Nat) (q:Nat) (h:q≠b / 64):B7 (s |||(1 <<< b)) q=B7 s q:=by
 apply Nat.eq_of_testBit_eq
 intro i;rw[lp,lp,Nat.testBit_or,Nat.one_shiftLeft,Nat.testBit_two_pow]
 by_cases hi:i<64
 · have:b≠64*q+i:=by omega
   simp[this]
 · simp[hi]
theorem FF (s b:Nat):B7 (s |||(1 <<< b)) (b / 64)=B7 s (b / 64) ||| 2 ^ (b%64):=by
 apply Nat.eq_of_testBit_eq
 intro i;rw[lp,Nat.testBit_or,Nat.testBit_or,lp,Nat.one_shiftLeft,Nat.testBit_two_pow,Nat.testBit_two_pow]
 by_cases hi:i<64
 · have:(b=64*(b / 64)+i)↔(b%64=i):=by omega
   simp[hi,this]
 · have:¬b%64=i:=by omega
   simp[hi,this]
theorem ny {i:Int}(h:0<=i/\i<=18446744073709551615):IntKind.u64.wrap i=i:=by
 have h64:(2:Int) ^ 64=18446744073709551616:=rfl;simp only[IntKind.wrap,IntKind.bits,IntKind.signed,h64,Bool.false_and,Bool.false_eq_true,if_false];omega
theorem Oa {x y:Nat}(hx:x<18446744073709551616) (hy:y<18446744073709551616):IntKind.u64.wrap ((BitVec.ofInt IntKind.u64.bits (x:Int) |||BitVec.ofInt IntKind.u64.bits (y:Int)).toNat:Int)=((x |||y:Nat):Int):=by
 have e:(BitVec.ofInt IntKind.u64.bits (x:Int) |||BitVec.ofInt IntKind.u64.bits (y:Int)).toNat=x |||y:=by
  rw[BitVec.toNat_or]
  have h1:(BitVec.ofInt IntKind.u64.bits (x:Int)).toNat=x:=by
   show (BitVec.ofInt 64 (x:Int)).toNat=x
   simp only[BitVec.toNat_ofInt];omega
  have h2:(BitVec.ofInt IntKind.u64.bits (y:Int)).toNat=y:=by
   show (BitVec.ofInt 64 (y:Int)).toNat=y
   simp only[BitVec.toNat_ofInt];omega
  rw[h1,h2]
 rw[e];have:x |||y<2 ^ 64:=Nat.or_lt_two_pow hx hy;exact ny ⟨by omega,by omega⟩
theorem L7 (b:Nat):IntKind.u64.wrap (1*2 ^ min ((b%64:Nat):Int).toNat IntKind.u64.bits)=((2 ^ (b%64):Nat):Int):=by
 have hb:b%64<64:=Nat.mod_lt _ (by decide);have h1:min ((b%64:Nat):Int).toNat IntKind.u64.bits=b%64:=by show min _ 64=_;simp;omega
 rw[h1,Int.one_mul];have h2:2 ^ (b%64)<2 ^ 64:=Nat.pow_lt_pow_right (by decide) hb;have h3:((2:Int) ^ (b%64))=((2 ^ (b%64):Nat):Int):=by push_cast;rfl
 rw[h3];generalize 2 ^ (b%64)=p at *;exact ny ⟨by omega,by omega⟩
theorem Ot {x:Nat}(hx:x<18446744073709551616):IntKind.u64.wrap ((BitVec.ofInt IntKind.u64.bits (x:Int) &&& BitVec.ofInt IntKind.u64.bits 1).toNat:Int)=((x%2:Nat):Int):=by
 have e:(BitVec.ofInt IntKind.u64.bits (x:Int) &&& BitVec.ofInt IntKind.u64.bits 1).toNat=x%2:=by
  rw[BitVec.toNat_and]
  have h1:(BitVec.ofInt IntKind.u64.bits (x:Int)).toNat=x:=by
   show (BitVec.ofInt 64 (x:Int)).toNat=x
   simp only[BitVec.toNat_ofInt];omega
  rw[h1]
  show x &&& 1=_
  exact Nat.and_one_is_mod x
 rw[e];exact ny ⟨by omega,by omega⟩
theorem L6 (x:Nat) (b:Nat) (hb:b<64):((x:Int)).fdiv (2 ^ min ((b:Nat):Int).toNat IntKind.u64.bits)=((x >>> b:Nat):Int):=by
 have h1:min ((b:Nat):Int).toNat IntKind.u64.bits=b:=by show min _ 64=_;simp;omega
 rw[h1,Nat.shiftRight_eq_div_pow];have h3:((2:Int) ^ b)=((2 ^ b:Nat):Int):=by push_cast;rfl
 rw[h3,Int.fdiv_eq_ediv_of_nonneg _ (Int.natCast_nonneg _)]
 push_cast;rfl
theorem Iy (s b:Nat):(B7 s (b / 64) >>> (b%64))%2=(s.testBit b).toNat:=by
 have h:=lp s (b / 64) (b%64);rw[show 64*(b / 64)+b%64=b from Nat.div_add_mod b 64] at h;have hb:b%64<64:=Nat.mod_lt _ (by decide);simp only[hb,decide_true,Bool.true_and] at h;rw[Nat.shiftRight_eq_div_pow,<-Nat.toNat_testBit,h]
def dy (k s:Nat) (v:Value):List Value:=[.int .i64 k,ef s 0,ef s 1,ef s 2,ef s 3,v]
inductive bB (h:aj) (O:Nat->Prop):List Value->Nd->Prop
 |mk (k s:Nat) (kids:List Nd) (oa:Option Addr) (n c:Nat) (css:Nat->List Value) (hl:kids.length=n) (hc:n<=c) (hm:c<=maxLen)
  (hr:∀i x,kids[i]? =some x->∃b o,oa=some ⟨b,o,none⟩/\¬O b/\Lw.rowAt h b (o+i*6) (css i)) (hk:∀i x,kids[i]? =some x->bB h O (css i) x):bB h O (dy k s (.slice oa n c)) (.mk k s kids)
theorem bB.len {x:Nd}(k:bB h O cs x):cs.length=6:=by cases k;rfl
theorem bB.one {x:Nd}(k:bB h O cs x):∀v∈cs,v.oneCell'=true:=by
 cases k;intro v hv;simp[dy,ef] at hv
 rcases hv with rfl|rfl|rfl|rfl|rfl|rfl<;>rfl
theorem bB.mv {h':aj}{O':Nat->Prop}{x:Nd}(k:bB h O cs x) (m:Mv O O' h h'):bB h' O' cs x:=by
 induction k with
 |mk k s kids oa n c css hl hc hm hr hk ih =>
  refine .mk k s kids oa n c css hl hc hm (fun i x hx=>?_) ih;obtain⟨b,o,ha,ho,hrow⟩:=hr i x hx;have hne:css i≠[]:=by intro e;have:=(hk i x hx).len;rw[e] at this;cases this
  exact⟨b,o,ha,(m.block b (cS hrow hne) ho).2,m.rowAt ho hrow⟩
def rR:gD Nd:=⟨6,by decide,bB,bB.len,bB.one,bB.mv⟩
theorem bB.ah {h h':aj}{O:Nat->Prop}{cs:List Value}{x:Nd}(k:bB h O cs x) (e:aq h h'):bB h' O cs x:=k.mv (Mv.ah e)
theorem bB.of {v:Value}{kids:List Nd}(k s:Nat) (hv:aY rR h O v kids):bB h O (dy k s v) (.mk k s kids):=by
 obtain⟨oa,n,c,rfl,hl,hc,hm,hg⟩:=hv
 have hx:∀i,i<n->∃cs:List Value,∃x,kids[i]? =some x/\(∃b o,oa=some ⟨b,o,none⟩/\¬O b/\Lw.rowAt h b (o+i*6) cs)/\bB h O cs x:=by
  intro i hi;obtain⟨b,o,cs,h1,h2,h3,h4⟩:=hg i kids[i] (List.getElem?_eq_getElem (by omega));exact⟨cs,kids[i],List.getElem?_eq_getElem (by omega),⟨b,o,h1,h2,h3⟩,h4⟩
 refine .mk k s kids oa n c (fun i=>if hi:i<n then Classical.choose (hx i hi) else []) hl hc hm (fun i x hxi=>?_) (fun i x hxi=>?_)
 · have hi:i<n:=by rw[<-hl];exact(List.getElem?_eq_some_iff.1 hxi).1
   simp only[dif_pos hi];obtain⟨y,_,h2,_⟩:=Classical.choose_spec (hx i hi);exact h2
 · have hi:i<n:=by rw[<-hl];exact(List.getElem?_eq_some_iff.1 hxi).1
   simp only[dif_pos hi];obtain⟨y,h1,_,h3⟩:=Classical.choose_spec (hx i hi);rw[h1] at hxi;cases hxi;exact h3
theorem bB.open {x:Nd}(k:bB h O cs x):∃v,cs=dy x.kind x.set v/\aY rR h O v x.kids:=by
 cases k with
 |mk k s kids oa n c css hl hc hm hr hk =>
  exact⟨_,rfl,oa,n,c,rfl,hl,hc,hm,fun i x hx=>by
   obtain⟨b,o,h1,h2,h3⟩:=hr i x hx;exact⟨b,o,css i,h1,h2,h3,hk i x hx⟩⟩
def bs (l:List UInt8):ByteArray:=⟨l.toArray⟩
theorem ig (l:List UInt8):(bs l).data.toList=l:=by simp[bs]
theorem MK (s:ByteArray):bs s.data.toList=s:=by simp[bs]
theorem aL (l:List UInt8):(bs l).size=l.length:=by simp[bs,ByteArray.size]
theorem iX (l m:List UInt8):bs l++bs m=bs (l++m):=by
 apply ByteArray.ext
 simp[bs]
theorem aI {l m:List UInt8}(h:bs l=bs m):l=m:=by have:=congrArg (fun x=>x.data.toList) h;simpa [bs] using this
theorem DM (l m:List UInt8):decide (bs l=bs m)=decide (l=m):=by
 rw[decide_eq_decide];exact⟨aI,fun h=>by rw[h]⟩
theorem kC (l:List UInt8):decide (bs l=(⟨#[]⟩:ByteArray))=decide (l=[]):=DM l []
theorem eJ {l:List UInt8}{i:Nat}{c:UInt8}(h:l[i]? =some c):(bs l).data[i]? =some c:=by simpa [bs] using h
theorem eI (l:List UInt8) (i:Nat):(bs l).extract i (bs l).size=bs (l.drop i):=by
 apply ByteArray.ext
 apply Array.ext'
 rw[ByteArray.data_extract,Array.toList_extract,List.extract_eq_take_drop];rw[aL];simp only[bs];exact List.take_of_length_le (by simp)
theorem DL (l:List UInt8) (i j:Nat) (_h:i<=j):(bs l).extract i j=bs ((l.take j).drop i):=by
 apply ByteArray.ext
 apply Array.ext'
 rw[ByteArray.data_extract,Array.toList_extract,List.extract_eq_take_drop];simp only[bs];rw[List.drop_take]
theorem LH (c d:UInt8):decide (((c.toNat:Nat):Int)≠((d.toNat:Nat):Int))=decide (c≠d):=by
 rw[decide_eq_decide];exact⟨fun h e=>h (by rw[e]),fun h e=>h (UInt8.toNat_inj.1 (by omega))⟩
theorem LI (c d:UInt8):decide (((c.toNat:Nat):Int)=((d.toNat:Nat):Int))=decide (c=d):=by
 rw[decide_eq_decide];exact⟨fun e=>UInt8.toNat_inj.1 (by omega),fun e=>by rw[e]⟩
theorem cI {c:UInt8}{k:Nat}{d:UInt8}(hd:d.toNat=k):(((c.toNat:Nat):Int)=(k:Int))↔c=d:=by
 subst hd;exact⟨fun e=>UInt8.toNat_inj.1 (by omega),fun e=>by rw[e]⟩
end
end Go.Proofs.YtdgckfkoihcmjaaGreatDoor
