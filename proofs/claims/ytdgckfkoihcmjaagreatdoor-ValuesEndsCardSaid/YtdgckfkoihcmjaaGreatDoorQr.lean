/- What the proof of the statement leans on (part 18). -/
import Derived.Test.YtdgckfkoihcmjaaGreatDoorRows
import Derived.Test.YtdgckfkoihcmjaaGreatDoorQq

namespace Go.Proofs.YtdgckfkoihcmjaaGreatDoor.H
open Go Go.Lw
theorem Oy:aR Tryz.prog 105=some true:=by kernel_rfl
theorem Ox:aR Tryz.prog 106=some false:=by kernel_rfl
theorem Ov:aR Tryz.prog 126=some false:=by kernel_rfl
theorem Ou:aR Tryz.prog 129=some false:=by kernel_rfl
theorem Ot:aR Tryz.prog 130=some false:=by kernel_rfl
theorem Oq:aR Tryz.prog 131=some true:=by kernel_rfl
theorem Ly:aR Tryz.prog 132=some false:=by kernel_rfl
theorem zq:aR Tryz.prog 134=some true:=by kernel_rfl
theorem Oo:aR Tryz.prog 140=some true:=by kernel_rfl
theorem On:aR Tryz.prog 144=some false:=by kernel_rfl
theorem Lx:aR Tryz.prog 146=some true:=by kernel_rfl
theorem Om:aR Tryz.prog 149=some false:=by kernel_rfl
theorem Ol:aR Tryz.prog 155=some true:=by kernel_rfl
theorem Oj:aR Tryz.prog 172=some true:=by kernel_rfl
theorem Oi:aR Tryz.prog 198=some false:=by kernel_rfl
theorem Rb:aR Tryz.prog 2=some false:=by kernel_rfl
theorem Lv:aR Tryz.prog 214=some true:=by kernel_rfl
theorem Oh:aR Tryz.prog 215=some true:=by kernel_rfl
theorem P1:aR Tryz.prog 25=some false:=by kernel_rfl
theorem P0:aR Tryz.prog 27=some true:=by kernel_rfl
theorem Og:aR Tryz.prog 271=some false:=by kernel_rfl
theorem Of:aR Tryz.prog 279=some true:=by kernel_rfl
theorem Oe:aR Tryz.prog 28=some false:=by kernel_rfl
theorem MN:aR Tryz.prog 3=some false:=by kernel_rfl
theorem Od:aR Tryz.prog 30=some true:=by kernel_rfl
theorem PZ:aR Tryz.prog 32=some true:=by kernel_rfl
theorem Mx:aR Tryz.prog 33=some false:=by kernel_rfl
theorem Ra:aR Tryz.prog 4=some false:=by kernel_rfl
theorem Q9:aR Tryz.prog 5=some false:=by kernel_rfl
theorem PY:aR Tryz.prog 54=some true:=by kernel_rfl
theorem PX:aR Tryz.prog 79=some false:=by kernel_rfl
theorem Oc:aR Tryz.prog 82=some false:=by kernel_rfl
theorem Mw:aR Tryz.prog 85=some false:=by kernel_rfl
theorem PW:aR Tryz.prog 87=some false:=by kernel_rfl
theorem MM:aR Tryz.prog 9=some false:=by kernel_rfl
theorem PV:aR Tryz.prog 92=some true:=by kernel_rfl
theorem PU:aR Tryz.prog 95=some false:=by kernel_rfl
theorem GG (a0:Option Addr) (n0 c0:Nat) (a2:Int):Tryz.prog.built 100 [(0,.slice a0 n0 c0),(2,.int .i64 a2)]=some #[.slice a0 n0 c0,.int .i64 (0),.int .i64 a2,.bool false,.int .i64 (0)]:=by kernel_rfl
theorem Mu  : Tryz.prog.built 128 []=some #[.slice none 0 0,.int .i64 (0)]:=by kernel_rfl
theorem D5  : Tryz.prog.built 134 []=some #[.int .i64 (0),.int .u64 (0),.int .u64 (0),.int .u64 (0),.int .u64 (0),.slice none 0 0]:=by kernel_rfl
theorem sD (a0:Int) (a2:Option Addr) (n2 c2:Nat):Tryz.prog.built 134 [(0,.int .i64 a0),(2,.slice a2 n2 c2)]=some #[.int .i64 a0,.int .u64 (0),.int .u64 (0),.int .u64 (0),.int .u64 (0),.slice a2 n2 c2]:=by kernel_rfl
theorem Fc (a0:Int):Tryz.prog.built 134 [(0,.int .i64 a0)]=some #[.int .i64 a0,.int .u64 (0),.int .u64 (0),.int .u64 (0),.int .u64 (0),.slice none 0 0]:=by kernel_rfl
theorem Jm  : Tryz.prog.built 140 []=some #[.int .i64 (0),.int .u64 (0),.int .u64 (0),.int .u64 (0),.int .u64 (0),.slice none 0 0,.int .i64 (0)]:=by kernel_rfl
theorem CM (a0:Int) (a1_0 a1_1 a1_2 a1_3:Value) (a2:Option Addr) (n2 c2:Nat):Tryz.prog.built 140 [(0,.int .i64 a0),(1,.agg #[a1_0,a1_1,a1_2,a1_3]),(2,.slice a2 n2 c2)]=some #[.int .i64 a0,a1_0,a1_1,a1_2,a1_3,.slice a2 n2 c2,.int .i64 (0)]:=by kernel_rfl
theorem GF (a0:Int) (a3:Int):Tryz.prog.built 140 [(0,.int .i64 a0),(3,.int .i64 a3)]=some #[.int .i64 a0,.int .u64 (0),.int .u64 (0),.int .u64 (0),.int .u64 (0),.slice none 0 0,.int .i64 a3]:=by kernel_rfl
theorem A1 (a2:Option Addr) (n2 c2:Nat):Tryz.prog.built 140 [(2,.slice a2 n2 c2)]=some #[.int .i64 (0),.int .u64 (0),.int .u64 (0),.int .u64 (0),.int .u64 (0),.slice a2 n2 c2,.int .i64 (0)]:=by kernel_rfl
theorem Mt  : Tryz.prog.built 146 []=some #[.string ⟨#[]⟩,.int .i64 (0),.int .i64 (0)]:=by kernel_rfl
theorem Jl  : Tryz.prog.built 151 []=some #[.slice none 0 0,.slice none 0 0]:=by kernel_rfl
theorem tP (a0:Int) (a1:ByteArray) (a2:Int):Tryz.prog.built 172 [(0,.int .i64 a0),(1,.string a1),(2,.int .i64 a2)]=some #[.int .i64 a0,.string a1,.int .i64 a2]:=by kernel_rfl
theorem iD  : Tryz.prog.built 188 []=some #[]:=by kernel_rfl
theorem KD (a0:ByteArray):Tryz.prog.built 191 [(0,.string a0)]=some #[.string a0]:=by kernel_rfl
theorem Jk  : Tryz.prog.built 27 []=some #[.int .i64 (0),.string ⟨#[]⟩,.slice none 0 0]:=by kernel_rfl
theorem iM (a0:Int) (a1:ByteArray):Tryz.prog.built 27 [(0,.int .i64 a0),(1,.string a1)]=some #[.int .i64 a0,.string a1,.slice none 0 0]:=by kernel_rfl
theorem jO (a0:Int) (a1:ByteArray) (a2:Option Addr) (n2 c2:Nat):Tryz.prog.built 27 [(0,.int .i64 a0),(1,.string a1),(2,.slice a2 n2 c2)]=some #[.int .i64 a0,.string a1,.slice a2 n2 c2]:=by kernel_rfl
theorem CL (a0:Int) (a2:Option Addr) (n2 c2:Nat):Tryz.prog.built 27 [(0,.int .i64 a0),(2,.slice a2 n2 c2)]=some #[.int .i64 a0,.string ⟨#[]⟩,.slice a2 n2 c2]:=by kernel_rfl
theorem Ms (a0:Int):Tryz.prog.built 27 [(0,.int .i64 a0)]=some #[.int .i64 a0,.string ⟨#[]⟩,.slice none 0 0]:=by kernel_rfl
theorem dU  : Tryz.prog.built 30 []=some #[.int .i64 (0),.int .i64 (0),.string ⟨#[]⟩,.string ⟨#[]⟩,.int .i64 (0),.string ⟨#[]⟩,.slice none 0 0,.slice none 0 0]:=by kernel_rfl
theorem fV (a0:Int) (a1:Int):Tryz.prog.built 30 [(0,.int .i64 a0),(1,.int .i64 a1)]=some #[.int .i64 a0,.int .i64 a1,.string ⟨#[]⟩,.string ⟨#[]⟩,.int .i64 (0),.string ⟨#[]⟩,.slice none 0 0,.slice none 0 0]:=by kernel_rfl
theorem D4 (a0:Int) (a1:Int) (a2:ByteArray):Tryz.prog.built 30 [(0,.int .i64 a0),(1,.int .i64 a1),(2,.string a2)]=some #[.int .i64 a0,.int .i64 a1,.string a2,.string ⟨#[]⟩,.int .i64 (0),.string ⟨#[]⟩,.slice none 0 0,.slice none 0 0]:=by kernel_rfl
theorem wV (a0:Int) (a2:ByteArray):Tryz.prog.built 30 [(0,.int .i64 a0),(2,.string a2)]=some #[.int .i64 a0,.int .i64 (0),.string a2,.string ⟨#[]⟩,.int .i64 (0),.string ⟨#[]⟩,.slice none 0 0,.slice none 0 0]:=by kernel_rfl
theorem rq (a0:Int) (a2:ByteArray) (a4_0 a4_1 a4_2:Value) (a5:Option Addr) (n5 c5:Nat):Tryz.prog.built 30 [(0,.int .i64 a0),(2,.string a2),(4,.agg #[a4_0,a4_1,a4_2]),(5,.slice a5 n5 c5)]=some #[.int .i64 a0,.int .i64 (0),.string a2,.string ⟨#[]⟩,a4_0,a4_1,a4_2,.slice a5 n5 c5]:=by kernel_rfl
theorem Mr (a0:Int):Tryz.prog.built 30 [(0,.int .i64 a0)]=some #[.int .i64 a0,.int .i64 (0),.string ⟨#[]⟩,.string ⟨#[]⟩,.int .i64 (0),.string ⟨#[]⟩,.slice none 0 0,.slice none 0 0]:=by kernel_rfl
theorem lJ (a0:ByteArray) (a1_0 a1_1 a1_2 a1_3 a1_4 a1_5 a1_6 a1_7:Value):Tryz.prog.built 32 [(0,.string a0),(1,.agg #[a1_0,a1_1,a1_2,a1_3,a1_4,a1_5,a1_6,a1_7])]=some #[.string a0,a1_0,a1_1,a1_2,a1_3,a1_4,a1_5,a1_6,a1_7]:=by kernel_rfl
theorem Oa  : Tryz.prog.built 54 []=some #[.int .i64 (0),.int .i64 (0)]:=by kernel_rfl
theorem Jj (a0:Int) (a1:Int):Tryz.prog.built 54 [(0,.int .i64 a0),(1,.int .i64 a1)]=some #[.int .i64 a0,.int .i64 a1]:=by kernel_rfl
theorem Mq (a0:Int):Tryz.prog.built 54 [(0,.int .i64 a0)]=some #[.int .i64 a0,.int .i64 (0)]:=by kernel_rfl
theorem N9  : Tryz.prog.built 67 []=some #[.int .i64 (0)]:=by kernel_rfl
theorem N8  : Tryz.prog.built 81 []=some #[.slice none 0 0]:=by kernel_rfl
theorem N7  : Tryz.prog.built 92 []=some #[.int .i64 (0),.int .i64 (0),.int .i64 (0)]:=by kernel_rfl
theorem wU (a0:Int) (a1:Int) (a2:Int):Tryz.prog.built 92 [(0,.int .i64 a0),(1,.int .i64 a1),(2,.int .i64 a2)]=some #[.int .i64 a0,.int .i64 a1,.int .i64 a2]:=by kernel_rfl
theorem Lp:Tryz.prog.concrete 188=true:=by kernel_rfl
set_option maxRecDepth 100000 in
theorem NT:fh Tryz.prog 129 1 24:=⟨⟨_,_,rfl,rfl,rfl,rfl,rfl⟩,by decide⟩
set_option maxRecDepth 100000 in
theorem Ja:fh Tryz.prog 134 6 64:=⟨⟨_,_,rfl,rfl,rfl,rfl,rfl⟩,by decide⟩
set_option maxRecDepth 100000 in
theorem Lm:fh Tryz.prog 140 7 72:=⟨⟨_,_,rfl,rfl,rfl,rfl,rfl⟩,by decide⟩
set_option maxRecDepth 100000 in
theorem EX:fh Tryz.prog 155 256 2048:=⟨⟨_,_,rfl,rfl,rfl,rfl,rfl⟩,by decide⟩
set_option maxRecDepth 100000 in
theorem I9:fh Tryz.prog 172 3 32:=⟨⟨_,_,rfl,rfl,rfl,rfl,rfl⟩,by decide⟩
set_option maxRecDepth 100000 in
theorem Kt:fh Tryz.prog 27 3 48:=⟨⟨_,_,rfl,rfl,rfl,rfl,rfl⟩,by decide⟩
set_option maxRecDepth 100000 in
theorem NS:fh Tryz.prog 3 1 8:=⟨⟨_,_,rfl,rfl,rfl,rfl,rfl⟩,by decide⟩
set_option maxRecDepth 100000 in
theorem Ks:fh Tryz.prog 32 9 136:=⟨⟨_,_,rfl,rfl,rfl,rfl,rfl⟩,by decide⟩
set_option maxRecDepth 100000 in
theorem Qf:fh Tryz.prog 4 1 1:=⟨⟨_,_,rfl,rfl,rfl,rfl,rfl⟩,by decide⟩
set_option maxRecDepth 100000 in
theorem Q5:fh Tryz.prog 5 1 1:=⟨⟨_,_,rfl,rfl,rfl,rfl,rfl⟩,by decide⟩
set_option maxRecDepth 100000 in
theorem PM:fh Tryz.prog 87 1 8:=⟨⟨_,_,rfl,rfl,rfl,rfl,rfl⟩,by decide⟩
set_option maxRecDepth 100000 in
theorem PL:fh Tryz.prog 9 1 16:=⟨⟨_,_,rfl,rfl,rfl,rfl,rfl⟩,by decide⟩
set_option maxRecDepth 100000 in
theorem NR:fh Tryz.prog 92 3 24:=⟨⟨_,_,rfl,rfl,rfl,rfl,rfl⟩,by decide⟩
theorem mixed:Tryz.prog.follows .mixedOrders=true:=by kernel_rfl
theorem PD:(Tryz.f56.name == "runtime.NumGoroutine")=false:=by decide +kernel
theorem PB:(Tryz.f94.name == "runtime.NumGoroutine")=false:=by decide +kernel
theorem Nj:cD Tryz.prog 105=some 4:=by kernel_rfl
theorem La:cD Tryz.prog 106=some 1:=by kernel_rfl
theorem K9:cD Tryz.prog 126=some 1:=by kernel_rfl
theorem BB:cD Tryz.prog 129=some 1:=by kernel_rfl
theorem Ni:cD Tryz.prog 130=some 1:=by kernel_rfl
theorem Ht:cD Tryz.prog 131=some 4:=by kernel_rfl
theorem Nh:cD Tryz.prog 132=some 1:=by kernel_rfl
theorem mX:cD Tryz.prog 134=some 6:=by kernel_rfl
theorem Ng:cD Tryz.prog 140=some 7:=by kernel_rfl
theorem Nf:cD Tryz.prog 144=some 1:=by kernel_rfl
theorem Hs:cD Tryz.prog 146=some 3:=by kernel_rfl
theorem K8:cD Tryz.prog 149=some 1:=by kernel_rfl
theorem Nc:cD Tryz.prog 155=some 256:=by kernel_rfl
theorem Nb:cD Tryz.prog 172=some 3:=by kernel_rfl
theorem K7:cD Tryz.prog 198=some 1:=by kernel_rfl
theorem Pt:cD Tryz.prog 2=some 1:=by kernel_rfl
theorem Hr:cD Tryz.prog 214=some 2:=by kernel_rfl
theorem Na:cD Tryz.prog 215=some 12:=by kernel_rfl
theorem M9:cD Tryz.prog 25=some 1:=by kernel_rfl
theorem M8:cD Tryz.prog 27=some 3:=by kernel_rfl
theorem M7:cD Tryz.prog 279=some 256:=by kernel_rfl
theorem Pr:cD Tryz.prog 28=some 1:=by kernel_rfl
theorem mW:cD Tryz.prog 3=some 1:=by kernel_rfl
theorem Fw:cD Tryz.prog 30=some 8:=by kernel_rfl
theorem JP:cD Tryz.prog 32=some 9:=by kernel_rfl
theorem Hq:cD Tryz.prog 33=some 1:=by kernel_rfl
theorem LO:cD Tryz.prog 4=some 1:=by kernel_rfl
theorem OP:cD Tryz.prog 5=some 1:=by kernel_rfl
theorem Pq:cD Tryz.prog 54=some 2:=by kernel_rfl
theorem M6:cD Tryz.prog 79=some 1:=by kernel_rfl
theorem Pp:cD Tryz.prog 85=some 1:=by kernel_rfl
theorem Po:cD Tryz.prog 87=some 1:=by kernel_rfl
theorem Ew:cD Tryz.prog 9=some 1:=by kernel_rfl
theorem Pn:cD Tryz.prog 92=some 3:=by kernel_rfl
theorem Pm:cD Tryz.prog 95=some 1:=by kernel_rfl
theorem MU:(Tryz.prog.info? 105).bind (·.zero)=some (.agg #[.int .u8 (0),.int .u8 (0),.int .i64 (0),.string ⟨#[]⟩]):=by kernel_rfl
theorem K2:(Tryz.prog.info? 134).bind (·.zero)=some (.agg #[.int .i64 (0),.int .u64 (0),.int .u64 (0),.int .u64 (0),.int .u64 (0),.slice none 0 0]):=by kernel_rfl
theorem K1:(Tryz.prog.info? 146).bind (·.zero)=some (.agg #[.string ⟨#[]⟩,.int .i64 (0),.int .i64 (0)]):=by kernel_rfl
theorem MT:(Tryz.prog.info? 155).bind (·.zero)=some (.agg (Array.replicate 256 (.int .i64 (0)))):=by kernel_rfl
theorem MS:(Tryz.prog.info? 172).bind (·.zero)=some (.agg #[.int .i64 (0),.string ⟨#[]⟩,.int .i64 (0)]):=by kernel_rfl
theorem MR:(Tryz.prog.info? 200).bind (·.zero)=some (.agg #[.pointer none,.slice none 0 0]):=by kernel_rfl
theorem MQ:(Tryz.prog.info? 214).bind (·.zero)=some (.agg #[.int .u8 (0),.int .u8 (0)]):=by kernel_rfl
theorem O5:(Tryz.prog.info? 27).bind (·.zero)=some (.agg #[.int .i64 (0),.string ⟨#[]⟩,.slice none 0 0]):=by kernel_rfl
theorem MP:(Tryz.prog.info? 279).bind (·.zero)=some (.agg (Array.replicate 256 (.bool false))):=by kernel_rfl
theorem O1:(Tryz.prog.info? 3).bind (·.zero)=some (.int .i64 (0)):=by kernel_rfl
theorem O0:(Tryz.prog.info? 30).bind (·.zero)=some (.agg #[.int .i64 (0),.int .i64 (0),.string ⟨#[]⟩,.string ⟨#[]⟩,.int .i64 (0),.string ⟨#[]⟩,.slice none 0 0,.slice none 0 0]):=by kernel_rfl
theorem OZ:(Tryz.prog.info? 32).bind (·.zero)=some (.agg #[.string ⟨#[]⟩,.int .i64 (0),.int .i64 (0),.string ⟨#[]⟩,.string ⟨#[]⟩,.int .i64 (0),.string ⟨#[]⟩,.slice none 0 0,.slice none 0 0]):=by kernel_rfl
theorem OY:(Tryz.prog.info? 33).bind (·.zero)=some (.int .i64 (0)):=by kernel_rfl
theorem P4:(Tryz.prog.info? 4).bind (·.zero)=some (.bool false):=by kernel_rfl
theorem OX:(Tryz.prog.info? 54).bind (·.zero)=some (.agg #[.int .i64 (0),.int .i64 (0)]):=by kernel_rfl
theorem OW:(Tryz.prog.info? 85).bind (·.zero)=some (.slice none 0 0):=by kernel_rfl
theorem OV:(Tryz.prog.info? 92).bind (·.zero)=some (.agg #[.int .i64 (0),.int .i64 (0),.int .i64 (0)]):=by kernel_rfl
end Go.Proofs.YtdgckfkoihcmjaaGreatDoor.H
namespace Go.Proofs.YtdgckfkoihcmjaaGreatDoor.H
open Go.Proofs.Tryz
open Go Go.Lw
set_option maxRecDepth 100000 in
instance:KT Tryz.prog:=⟨by decide +kernel⟩
instance:lR Tryz.prog 105 true:=⟨Oy⟩
instance:lR Tryz.prog 106 false:=⟨Ox⟩
instance:lR Tryz.prog 126 false:=⟨Ov⟩
instance:lR Tryz.prog 129 false:=⟨Ou⟩
instance:lR Tryz.prog 130 false:=⟨Ot⟩
instance:lR Tryz.prog 131 true:=⟨Oq⟩
instance:lR Tryz.prog 132 false:=⟨Ly⟩
instance:lR Tryz.prog 134 true:=⟨zq⟩
instance:lR Tryz.prog 140 true:=⟨Oo⟩
instance:lR Tryz.prog 144 false:=⟨On⟩
instance:lR Tryz.prog 146 true:=⟨Lx⟩
instance:lR Tryz.prog 149 false:=⟨Om⟩
instance:lR Tryz.prog 155 true:=⟨Ol⟩
instance:lR Tryz.prog 172 true:=⟨Oj⟩
instance:lR Tryz.prog 198 false:=⟨Oi⟩
instance:lR Tryz.prog 2 false:=⟨Rb⟩
instance:lR Tryz.prog 214 true:=⟨Lv⟩
instance:lR Tryz.prog 215 true:=⟨Oh⟩
instance:lR Tryz.prog 25 false:=⟨P1⟩
instance:lR Tryz.prog 27 true:=⟨P0⟩
instance:lR Tryz.prog 271 false:=⟨Og⟩
instance:lR Tryz.prog 279 true:=⟨Of⟩
instance:lR Tryz.prog 28 false:=⟨Oe⟩
instance:lR Tryz.prog 3 false:=⟨MN⟩
instance:lR Tryz.prog 30 true:=⟨Od⟩
instance:lR Tryz.prog 33 false:=⟨Mx⟩
instance:lR Tryz.prog 4 false:=⟨Ra⟩
instance:lR Tryz.prog 5 false:=⟨Q9⟩
instance:lR Tryz.prog 54 true:=⟨PY⟩
instance:lR Tryz.prog 79 false:=⟨PX⟩
instance:lR Tryz.prog 82 false:=⟨Oc⟩
instance:lR Tryz.prog 85 false:=⟨Mw⟩
instance:lR Tryz.prog 87 false:=⟨PW⟩
instance:lR Tryz.prog 9 false:=⟨MM⟩
instance:lR Tryz.prog 92 true:=⟨PV⟩
instance:lR Tryz.prog 95 false:=⟨PU⟩
instance:Qk Tryz.prog 188:=⟨Lp⟩
instance:En Tryz.prog 129 1 24:=⟨NT⟩
instance:En Tryz.prog 134 6 64:=⟨Ja⟩
instance:En Tryz.prog 140 7 72:=⟨Lm⟩
instance:En Tryz.prog 172 3 32:=⟨I9⟩
instance:En Tryz.prog 27 3 48:=⟨Kt⟩
instance:En Tryz.prog 3 1 8:=⟨NS⟩
instance:En Tryz.prog 32 9 136:=⟨Ks⟩
instance:En Tryz.prog 5 1 1:=⟨Q5⟩
instance:En Tryz.prog 87 1 8:=⟨PM⟩
instance:En Tryz.prog 9 1 16:=⟨PL⟩
instance:En Tryz.prog 92 3 24:=⟨NR⟩
instance:jU Tryz.prog 100 0 0:=⟨⟨_,_,_,underlying100,rfl,rfl,Pm⟩⟩
instance:jU Tryz.prog 100 1 1:=⟨⟨_,_,_,underlying100,rfl,rfl,mW⟩⟩
instance:jU Tryz.prog 100 2 2:=⟨⟨_,_,_,underlying100,rfl,rfl,mW⟩⟩
instance:jU Tryz.prog 100 3 3:=⟨⟨_,_,_,underlying100,rfl,rfl,LO⟩⟩
instance:jU Tryz.prog 100 4 4:=⟨⟨_,_,_,underlying100,rfl,rfl,mW⟩⟩
instance:jU Tryz.prog 105 0 0:=⟨⟨_,_,_,underlying105,rfl,rfl,OP⟩⟩
instance:jU Tryz.prog 105 1 1:=⟨⟨_,_,_,underlying105,rfl,rfl,OP⟩⟩
instance:jU Tryz.prog 105 2 2:=⟨⟨_,_,_,underlying105,rfl,rfl,Pt⟩⟩
instance:jU Tryz.prog 105 3 3:=⟨⟨_,_,_,underlying105,rfl,rfl,Ew⟩⟩
instance:jU Tryz.prog 128 0 0:=⟨⟨_,_,_,underlying128,rfl,rfl,K9⟩⟩
instance:jU Tryz.prog 128 1 1:=⟨⟨_,_,_,underlying128,rfl,rfl,mW⟩⟩
instance:jU Tryz.prog 134 0 0:=⟨⟨_,_,_,underlying134,rfl,rfl,mW⟩⟩
instance:jU Tryz.prog 134 1 1:=⟨⟨_,_,_,underlying134,rfl,rfl,Ht⟩⟩
instance:jU Tryz.prog 134 2 5:=⟨⟨_,_,_,underlying134,rfl,rfl,Nh⟩⟩
instance:jU Tryz.prog 140 0 0:=⟨⟨_,_,_,underlying140,rfl,rfl,mW⟩⟩
instance:jU Tryz.prog 140 1 1:=⟨⟨_,_,_,underlying140,rfl,rfl,Ht⟩⟩
instance:jU Tryz.prog 140 2 5:=⟨⟨_,_,_,underlying140,rfl,rfl,BB⟩⟩
instance:jU Tryz.prog 140 3 6:=⟨⟨_,_,_,underlying140,rfl,rfl,mW⟩⟩
instance:jU Tryz.prog 146 1 1:=⟨⟨_,_,_,underlying146,rfl,rfl,mW⟩⟩
instance:jU Tryz.prog 146 2 2:=⟨⟨_,_,_,underlying146,rfl,rfl,mW⟩⟩
instance:jU Tryz.prog 151 0 0:=⟨⟨_,_,_,underlying151,rfl,rfl,K8⟩⟩
instance:jU Tryz.prog 151 1 1:=⟨⟨_,_,_,underlying151,rfl,rfl,BB⟩⟩
instance:jU Tryz.prog 172 0 0:=⟨⟨_,_,_,underlying172,rfl,rfl,mW⟩⟩
instance:jU Tryz.prog 172 1 1:=⟨⟨_,_,_,underlying172,rfl,rfl,Ew⟩⟩
instance:jU Tryz.prog 172 2 2:=⟨⟨_,_,_,underlying172,rfl,rfl,mW⟩⟩
instance:jU Tryz.prog 191 0 0:=⟨⟨_,_,_,underlying191,rfl,rfl,Ew⟩⟩
instance:jU Tryz.prog 200 0 0:=⟨⟨_,_,_,underlying200,rfl,rfl,K7⟩⟩
instance:jU Tryz.prog 200 1 1:=⟨⟨_,_,_,underlying200,rfl,rfl,La⟩⟩
instance:jU Tryz.prog 27 0 0:=⟨⟨_,_,_,underlying27,rfl,rfl,mW⟩⟩
instance:jU Tryz.prog 27 1 1:=⟨⟨_,_,_,underlying27,rfl,rfl,Ew⟩⟩
instance:jU Tryz.prog 27 2 2:=⟨⟨_,_,_,underlying27,rfl,rfl,M9⟩⟩
instance:jU Tryz.prog 30 0 0:=⟨⟨_,_,_,underlying30,rfl,rfl,mW⟩⟩
instance:jU Tryz.prog 30 1 1:=⟨⟨_,_,_,underlying30,rfl,rfl,Pt⟩⟩
instance:jU Tryz.prog 30 2 2:=⟨⟨_,_,_,underlying30,rfl,rfl,Ew⟩⟩
instance:jU Tryz.prog 30 3 3:=⟨⟨_,_,_,underlying30,rfl,rfl,Ew⟩⟩
instance:jU Tryz.prog 30 4 4:=⟨⟨_,_,_,underlying30,rfl,rfl,M8⟩⟩
instance:jU Tryz.prog 30 5 7:=⟨⟨_,_,_,underlying30,rfl,rfl,Pr⟩⟩
instance:jU Tryz.prog 32 1 1:=⟨⟨_,_,_,underlying32,rfl,rfl,Fw⟩⟩
instance:jU Tryz.prog 54 0 0:=⟨⟨_,_,_,underlying54,rfl,rfl,mW⟩⟩
instance:jU Tryz.prog 54 1 1:=⟨⟨_,_,_,underlying54,rfl,rfl,mW⟩⟩
instance:jU Tryz.prog 67 0 0:=⟨⟨_,_,_,underlying67,rfl,rfl,mW⟩⟩
instance:jU Tryz.prog 81 0 0:=⟨⟨_,_,_,underlying81,rfl,rfl,M6⟩⟩
instance:jU Tryz.prog 92 0 0:=⟨⟨_,_,_,underlying92,rfl,rfl,mW⟩⟩
instance:jU Tryz.prog 92 1 1:=⟨⟨_,_,_,underlying92,rfl,rfl,mW⟩⟩
instance:jU Tryz.prog 92 2 2:=⟨⟨_,_,_,underlying92,rfl,rfl,mW⟩⟩
instance:bO Tryz.prog 100 f100:=⟨func100⟩
instance:bO Tryz.prog 101 f101:=⟨func101⟩
instance:bO Tryz.prog 102 f102:=⟨func102⟩
instance:bO Tryz.prog 103 Tryz.f103:=⟨func103⟩
instance:bO Tryz.prog 104 f104:=⟨func104⟩
instance:bO Tryz.prog 105 f105:=⟨func105⟩
instance:bO Tryz.prog 106 Tryz.f106:=⟨func106⟩
instance:bO Tryz.prog 107 f107:=⟨func107⟩
instance:bO Tryz.prog 108 f108:=⟨func108⟩
instance:bO Tryz.prog 109 f109:=⟨func109⟩
instance:bO Tryz.prog 11 f11:=⟨func11⟩
instance:bO Tryz.prog 110 f110:=⟨func110⟩
instance:bO Tryz.prog 111 f111:=⟨func111⟩
instance:bO Tryz.prog 112 f112:=⟨func112⟩
instance:bO Tryz.prog 113 f113:=⟨func113⟩
instance:bO Tryz.prog 114 f114:=⟨func114⟩
instance:bO Tryz.prog 115 f115:=⟨func115⟩
instance:bO Tryz.prog 12 Tryz.f12:=⟨func12⟩
instance:bO Tryz.prog 120 f120:=⟨func120⟩
instance:bO Tryz.prog 121 Tryz.f121:=⟨func121⟩
instance:bO Tryz.prog 122 f122:=⟨func122⟩
instance:bO Tryz.prog 123 f123:=⟨func123⟩
instance:bO Tryz.prog 124 f124:=⟨func124⟩
instance:bO Tryz.prog 125 f125:=⟨func125⟩
instance:bO Tryz.prog 13 Tryz.f13:=⟨func13⟩
instance:bO Tryz.prog 131 f131:=⟨func131⟩
instance:bO Tryz.prog 132 f132:=⟨func132⟩
instance:bO Tryz.prog 136 f136:=⟨func136⟩
instance:bO Tryz.prog 137 Tryz.f137:=⟨func137⟩
instance:bO Tryz.prog 138 f138:=⟨func138⟩
instance:bO Tryz.prog 139 f139:=⟨func139⟩
instance:bO Tryz.prog 14 f14:=⟨func14⟩
instance:bO Tryz.prog 140 f140:=⟨func140⟩
instance:bO Tryz.prog 144 Tryz.f144:=⟨func144⟩
instance:bO Tryz.prog 145 f145:=⟨func145⟩
instance:bO Tryz.prog 146 f146:=⟨func146⟩
instance:bO Tryz.prog 147 f147:=⟨func147⟩
instance:bO Tryz.prog 15 f15:=⟨func15⟩
instance:bO Tryz.prog 153 f153:=⟨func153⟩
instance:bO Tryz.prog 154 f154:=⟨func154⟩
instance:bO Tryz.prog 155 f155:=⟨func155⟩
instance:bO Tryz.prog 156 f156:=⟨func156⟩
instance:bO Tryz.prog 157 f157:=⟨func157⟩
instance:bO Tryz.prog 158 f158:=⟨func158⟩
instance:bO Tryz.prog 159 f159:=⟨func159⟩
instance:bO Tryz.prog 16 f16:=⟨func16⟩
instance:bO Tryz.prog 164 f164:=⟨func164⟩
instance:bO Tryz.prog 166 f166:=⟨func166⟩
instance:bO Tryz.prog 169 f169:=⟨func169⟩
instance:bO Tryz.prog 17 f17:=⟨func17⟩
instance:bO Tryz.prog 172 f172:=⟨func172⟩
instance:bO Tryz.prog 173 Tryz.f173:=⟨func173⟩
instance:bO Tryz.prog 175 f175:=⟨func175⟩
instance:bO Tryz.prog 176 f176:=⟨func176⟩
instance:bO Tryz.prog 177 f177:=⟨func177⟩
instance:bO Tryz.prog 18 f18:=⟨func18⟩
instance:bO Tryz.prog 182 f182:=⟨func182⟩
instance:bO Tryz.prog 185 f185:=⟨func185⟩
instance:bO Tryz.prog 186 f186:=⟨func186⟩
instance:bO Tryz.prog 189 f189:=⟨func189⟩
instance:bO Tryz.prog 19 f19:=⟨func19⟩
instance:bO Tryz.prog 190 f190:=⟨func190⟩
instance:bO Tryz.prog 191 f191:=⟨func191⟩
instance:bO Tryz.prog 192 f192:=⟨func192⟩
instance:bO Tryz.prog 195 f195:=⟨func195⟩
instance:bO Tryz.prog 196 f196:=⟨func196⟩
instance:bO Tryz.prog 198 f198:=⟨func198⟩
instance:bO Tryz.prog 199 f199:=⟨func199⟩
instance:bO Tryz.prog 20 f20:=⟨func20⟩
instance:bO Tryz.prog 200 f200:=⟨func200⟩
instance:bO Tryz.prog 201 f201:=⟨func201⟩
instance:bO Tryz.prog 203 f203:=⟨func203⟩
instance:bO Tryz.prog 205 Tryz.f205:=⟨func205⟩
instance:bO Tryz.prog 206 Tryz.f206:=⟨func206⟩
instance:bO Tryz.prog 25 f25:=⟨func25⟩
instance:bO Tryz.prog 26 f26:=⟨func26⟩
instance:bO Tryz.prog 27 f27:=⟨func27⟩
instance:bO Tryz.prog 28 f28:=⟨func28⟩
instance:bO Tryz.prog 29 f29:=⟨func29⟩
instance:bO Tryz.prog 30 f30:=⟨func30⟩
instance:bO Tryz.prog 31 f31:=⟨func31⟩
instance:bO Tryz.prog 32 f32:=⟨func32⟩
instance:bO Tryz.prog 33 f33:=⟨func33⟩
instance:bO Tryz.prog 34 f34:=⟨func34⟩
instance:bO Tryz.prog 35 f35:=⟨func35⟩
instance:bO Tryz.prog 36 f36:=⟨func36⟩
instance:bO Tryz.prog 37 f37:=⟨func37⟩
instance:bO Tryz.prog 38 f38:=⟨func38⟩
instance:bO Tryz.prog 39 f39:=⟨func39⟩
instance:bO Tryz.prog 4 Tryz.f4:=⟨func4⟩
instance:bO Tryz.prog 40 f40:=⟨func40⟩
instance:bO Tryz.prog 41 f41:=⟨func41⟩
instance:bO Tryz.prog 42 f42:=⟨func42⟩
instance:bO Tryz.prog 43 f43:=⟨func43⟩
instance:bO Tryz.prog 44 f44:=⟨func44⟩
instance:bO Tryz.prog 45 f45:=⟨func45⟩
instance:bO Tryz.prog 46 f46:=⟨func46⟩
instance:bO Tryz.prog 47 f47:=⟨func47⟩
instance:bO Tryz.prog 5 f5:=⟨func5⟩
instance:bO Tryz.prog 55 f55:=⟨func55⟩
instance:bO Tryz.prog 56 f56:=⟨func56⟩
instance:bO Tryz.prog 57 f57:=⟨func57⟩
instance:bO Tryz.prog 58 f58:=⟨func58⟩
instance:bO Tryz.prog 59 f59:=⟨func59⟩
instance:bO Tryz.prog 6 f6:=⟨func6⟩
instance:bO Tryz.prog 60 f60:=⟨func60⟩
instance:bO Tryz.prog 61 f61:=⟨func61⟩
instance:bO Tryz.prog 62 f62:=⟨func62⟩
instance:bO Tryz.prog 63 f63:=⟨func63⟩
instance:bO Tryz.prog 64 f64:=⟨func64⟩
instance:bO Tryz.prog 65 f65:=⟨func65⟩
instance:bO Tryz.prog 66 f66:=⟨func66⟩
instance:bO Tryz.prog 67 f67:=⟨func67⟩
instance:bO Tryz.prog 68 f68:=⟨func68⟩
instance:bO Tryz.prog 69 f69:=⟨func69⟩
instance:bO Tryz.prog 70 f70:=⟨func70⟩
instance:bO Tryz.prog 71 f71:=⟨func71⟩
instance:bO Tryz.prog 72 f72:=⟨func72⟩
instance:bO Tryz.prog 73 f73:=⟨func73⟩
instance:bO Tryz.prog 74 f74:=⟨func74⟩
instance:bO Tryz.prog 75 f75:=⟨func75⟩
instance:bO Tryz.prog 76 f76:=⟨func76⟩
instance:bO Tryz.prog 79 f79:=⟨func79⟩
instance:bO Tryz.prog 80 f80:=⟨func80⟩
instance:bO Tryz.prog 81 f81:=⟨func81⟩
instance:bO Tryz.prog 84 f84:=⟨func84⟩
instance:bO Tryz.prog 85 f85:=⟨func85⟩
instance:bO Tryz.prog 86 f86:=⟨func86⟩
instance:bO Tryz.prog 87 f87:=⟨func87⟩
instance:bO Tryz.prog 88 f88:=⟨func88⟩
instance:bO Tryz.prog 89 f89:=⟨func89⟩
instance:bO Tryz.prog 94 f94:=⟨func94⟩
instance:bO Tryz.prog 95 f95:=⟨func95⟩
instance:bO Tryz.prog 96 f96:=⟨func96⟩
instance:bO Tryz.prog 97 f97:=⟨func97⟩
instance:bO Tryz.prog 98 f98:=⟨func98⟩
instance:bO Tryz.prog 99 f99:=⟨func99⟩
instance:MA Tryz.prog:=⟨mixed⟩
instance:mS Tryz.prog 105 4:=⟨Nj⟩
instance:mS Tryz.prog 106 1:=⟨La⟩
instance:mS Tryz.prog 126 1:=⟨K9⟩
instance:mS Tryz.prog 129 1:=⟨BB⟩
instance:mS Tryz.prog 130 1:=⟨Ni⟩
instance:mS Tryz.prog 131 4:=⟨Ht⟩
instance:mS Tryz.prog 134 6:=⟨mX⟩
instance:mS Tryz.prog 140 7:=⟨Ng⟩
instance:mS Tryz.prog 144 1:=⟨Nf⟩
instance:mS Tryz.prog 146 3:=⟨Hs⟩
instance:mS Tryz.prog 149 1:=⟨K8⟩
instance:mS Tryz.prog 155 256:=⟨Nc⟩
instance:mS Tryz.prog 172 3:=⟨Nb⟩
instance:mS Tryz.prog 198 1:=⟨K7⟩
instance:mS Tryz.prog 2 1:=⟨Pt⟩
instance:mS Tryz.prog 214 2:=⟨Hr⟩
instance:mS Tryz.prog 215 12:=⟨Na⟩
instance:mS Tryz.prog 25 1:=⟨M9⟩
instance:mS Tryz.prog 27 3:=⟨M8⟩
instance:mS Tryz.prog 279 256:=⟨M7⟩
instance:mS Tryz.prog 3 1:=⟨mW⟩
instance:mS Tryz.prog 30 8:=⟨Fw⟩
instance:mS Tryz.prog 32 9:=⟨JP⟩
instance:mS Tryz.prog 33 1:=⟨Hq⟩
instance:mS Tryz.prog 4 1:=⟨LO⟩
instance:mS Tryz.prog 5 1:=⟨OP⟩
instance:mS Tryz.prog 54 2:=⟨Pq⟩
instance:mS Tryz.prog 79 1:=⟨M6⟩
instance:mS Tryz.prog 87 1:=⟨Po⟩
instance:mS Tryz.prog 9 1:=⟨Ew⟩
instance:mS Tryz.prog 92 3:=⟨Pn⟩
instance:kT Tryz.prog 106 (.slice 5):=⟨underlying106⟩
instance:kT Tryz.prog 126 (.slice 140):=⟨underlying126⟩
instance:kT Tryz.prog 129 (.slice 3):=⟨underlying129⟩
instance:kT Tryz.prog 131 (.array 4 130):=⟨underlying131⟩
instance:kT Tryz.prog 132 (.slice 134):=⟨underlying132⟩
instance:kT Tryz.prog 144 (.slice 146):=⟨underlying144⟩
instance:kT Tryz.prog 147 (.array 3 144):=⟨underlying147⟩
instance:kT Tryz.prog 149 (.slice 155):=⟨underlying149⟩
instance:kT Tryz.prog 154 (.slice 129):=⟨underlying154⟩
instance:kT Tryz.prog 155 (.array 256 3):=⟨underlying155⟩
instance:kT Tryz.prog 159 (.slice 4):=⟨underlying159⟩
instance:kT Tryz.prog 2 (.int .i64):=⟨underlying2⟩
instance:kT Tryz.prog 214 (.array 2 5):=⟨underlying214⟩
instance:kT Tryz.prog 215 (.array 6 214):=⟨underlying215⟩
instance:kT Tryz.prog 25 (.slice 27):=⟨underlying25⟩
instance:kT Tryz.prog 250 (.slice 214):=⟨underlying250⟩
instance:kT Tryz.prog 279 (.array 256 4):=⟨underlying279⟩
instance:kT Tryz.prog 28 (.slice 32):=⟨underlying28⟩
instance:kT Tryz.prog 3 (.int .i64):=⟨underlying3⟩
instance:kT Tryz.prog 4 (.bool):=⟨underlying4⟩
instance:kT Tryz.prog 48 (.slice 105):=⟨underlying48⟩
instance:kT Tryz.prog 5 (.int .u8):=⟨underlying5⟩
instance:kT Tryz.prog 52 (.slice 92):=⟨underlying52⟩
instance:kT Tryz.prog 79 (.slice 87):=⟨underlying79⟩
instance:kT Tryz.prog 85 (.slice 9):=⟨underlying85⟩
instance:kT Tryz.prog 9 (.string):=⟨underlying9⟩
instance:kT Tryz.prog 95 (.slice 172):=⟨underlying95⟩
instance:CY Tryz.prog 105 (.agg #[.int .u8 (0),.int .u8 (0),.int .i64 (0),.string ⟨#[]⟩]):=⟨MU⟩
instance:CY Tryz.prog 134 (.agg #[.int .i64 (0),.int .u64 (0),.int .u64 (0),.int .u64 (0),.int .u64 (0),.slice none 0 0]):=⟨K2⟩
instance:CY Tryz.prog 146 (.agg #[.string ⟨#[]⟩,.int .i64 (0),.int .i64 (0)]):=⟨K1⟩
instance:CY Tryz.prog 155 (.agg (Array.replicate 256 (.int .i64 (0)))):=⟨MT⟩
instance:CY Tryz.prog 172 (.agg #[.int .i64 (0),.string ⟨#[]⟩,.int .i64 (0)]):=⟨MS⟩
instance:CY Tryz.prog 200 (.agg #[.pointer none,.slice none 0 0]):=⟨MR⟩
instance:CY Tryz.prog 214 (.agg #[.int .u8 (0),.int .u8 (0)]):=⟨MQ⟩
instance:CY Tryz.prog 27 (.agg #[.int .i64 (0),.string ⟨#[]⟩,.slice none 0 0]):=⟨O5⟩
instance:CY Tryz.prog 279 (.agg (Array.replicate 256 (.bool false))):=⟨MP⟩
instance:CY Tryz.prog 3 (.int .i64 (0)):=⟨O1⟩
instance:CY Tryz.prog 30 (.agg #[.int .i64 (0),.int .i64 (0),.string ⟨#[]⟩,.string ⟨#[]⟩,.int .i64 (0),.string ⟨#[]⟩,.slice none 0 0,.slice none 0 0]):=⟨O0⟩
instance:CY Tryz.prog 33 (.int .i64 (0)):=⟨OY⟩
instance:CY Tryz.prog 54 (.agg #[.int .i64 (0),.int .i64 (0)]):=⟨OX⟩
instance:CY Tryz.prog 85 (.slice none 0 0):=⟨OW⟩
instance:CY Tryz.prog 92 (.agg #[.int .i64 (0),.int .i64 (0),.int .i64 (0)]):=⟨OV⟩
end Go.Proofs.YtdgckfkoihcmjaaGreatDoor.H
namespace Go.Proofs.YtdgckfkoihcmjaaGreatDoor
abbrev By:=List UInt8
inductive Nd where
  |mk (kind:Nat) (set:Nat) (kids:List Nd)
def Nd.kind:Nd->Nat|.mk k _ _=>k
def Nd.set:Nd->Nat|.mk _ s _=>s
def Nd.kids:Nd->List Nd|.mk _ _ l=>l
def Jq:Nat:=2 ^ 256-1
def yG (s a:Nat):Nat->Nat
  | 0=>s
  |n+1=>yG (s |||(1 <<< a)) (a+1) n
def oQ (s:Nat) (a b:UInt8):Nat:=yG s a.toNat (b.toNat+1-a.toNat)
def nw (s:Nat):Nat:=Jq ^^^ s
def AV (b:UInt8):Nd:=.mk 1 (oQ 0 b b) []
def Lo:Nd:=.mk 1 (oQ (oQ 0 0 9) 11 255) []
def ox:Nd:=.mk 0 0 []
def fU:By:=[40,41,91,93,124,42,43,63,46,92,45,94]
def mj (b:UInt8):Option Nat :=
  if 48<=b.toNat/\b.toNat<=57 then some (b.toNat-48) else if 97<=b.toNat/\b.toNat<=102 then some (b.toNat-87) else if 65<=b.toNat/\b.toNat<=70 then some (b.toNat-55) else none
def qV:By->Option (UInt8×By)
  | []=>none
  |b::r =>
    if b=110 then some (10,r) else if b=116 then some (9,r) else if b=114 then some (13,r)
    else if b=120 then
      match r with
      |x::y::r=>match mj x,mj y with
        |some m,some n=>some (UInt8.ofNat (m*16+n),r)
        |_,_=>none
      |_=>none
    else if b∈fU then some (b,r) else none
def pR:By->Option (UInt8×By)
  | []=>none
  |b::r=>if b=92 then qV r else if b∈fU then none else some (b,r)
def fe (s:By):Option ((UInt8×UInt8)×By) :=
  match pR s with
  |none=>none
  |some (a,r)=>match r with
    | 45::r'=>match pR r' with
      |none=>none
      |some (b,r'')=>if b.toNat<a.toNat then none else some ((a,b),r'')
    |_=>some ((a,a),r)
def mI:Nat->Nat->By->Option (Nat×By)
  | 0,_,_=>none
  |n+1,acc,s=>match fe s with
    |none=>none
    |some ((a,b),r)=>match r with
      | 93::r'=>some (oQ acc a b,r')
      |_=>mI n (oQ acc a b) r
def iL (s:By):Option (Nd×By) :=
  match s with
  | 94::r=>(mI (r.length+1) 0 r).map fun p=>(.mk 1 (nw p.1) [],p.2)
  |_=>(mI (s.length+1) 0 s).map fun p=>(.mk 1 p.1 [],p.2)
def fF (rows:By->Option (Nd×By)):By->Option (Nd×By)
  | []=>none
  |c::r =>
    if c=40 then
      match rows r with
      |none=>none
      |some (n,r')=>match r' with
        | 41::r''=>some (n,r'')
        |_=>none
    else if c=91 then iL r
    else if c=46 then some (Lo,r)
    else if c=92 then (qV r).map fun p=>(AV p.1,p.2)
    else if c∈[(41:UInt8),93,124,42,43,63] then none
    else some (AV c,r)
def dw (c:UInt8):Nat:=if c=42 then 4 else if c=43 then 5 else if c=63 then 6 else 0
def eT (n:Nd):By->Nd×By
  | []=>(n,[])
  |c::r=>if dw c=0 then (n,c::r) else eT (.mk (dw c) 0 [n]) r
def gx (rows:By->Option (Nd×By)) (s:By):Option (Nd×By) :=
  (fF rows s).map fun p=>eT p.1 p.2
def bU (kind:Nat):List Nd->Nd
  | []=>ox
  | [n]=>n
  |l=>.mk kind 0 l
def kL:By->Bool
  | []=>true
  |c::_=>c ==124 ||c ==41
def ni (rows:By->Option (Nd×By)):Nat->By->Option (List Nd×By)
  | 0,_=>none
  |n+1,s=>if kL s then some ([],s) else
    match gx rows s with
    |none=>none
    |some (x,r)=>(ni rows n r).map fun p=>(x::p.1,p.2)
def iW (rows:By->Option (Nd×By)):Nat->List Nd->List Nd->By->Option (Nd×By)
  | 0,_,_,_=>none
  |n+1,all,row,s=>if kL s then
      if s.head? =some 124 then iW rows n (all++[bU 2 row]) [] s.tail
      else some (bU 3 (all++[bU 2 row]),s)
    else match gx rows s with
      |none=>none
      |some (x,r)=>iW rows n all (row++[x]) r
def dS:Nat->By->Option (Nd×By)
  | 0,_=>none
  |d+1,s=>iW (dS d) (s.length+1) [] [] s
def kM (s:By):Option Nd :=
  match dS (s.length+1) s with
  |some (n,[])=>some n
  |_=>none
theorem wD {s:By}{b:UInt8}{r:By}(h:qV s=some (b,r)):r.length<s.length:=by
  unfold qV at h;split at h
  · cases h
  · rename_i c t;split at h
    · cases h;simp
    · split at h
      · cases h;simp
      · split at h
        · cases h;simp
        · split at h
          · split at h
            · split at h
              · cases h;simp only[List.length_cons];omega
              · cases h
            · cases h
          · split at h
            · cases h;simp
            · cases h
theorem qP {s:By}{b:UInt8}{r:By}(h:pR s=some (b,r)):r.length<s.length:=by
  unfold pR at h;split at h
  · cases h
  · split at h
    · have:=wD h;simp only[List.length_cons];omega
    · split at h
      · cases h
      · cases h;simp
theorem nI {s:By}{p:UInt8×UInt8}{r:By}(h:fe s=some (p,r)):r.length<s.length:=by
  unfold fe at h;split at h
  · cases h
  · rename_i a t ha;have h1:=qP ha;split at h
    · rename_i t';split at h
      · cases h
      · rename_i b t'' hb;have h2:=qP hb;split at h
        · cases h
        · cases h;simp only[List.length_cons] at h1;omega
    · cases h;exact h1
theorem rS:∀(n acc:Nat){s:By}{m:Nat}{r:By},mI n acc s=some (m,r)->r.length<s.length
  | 0,_,s,m,r,h=>by cases h
  |n+1,acc,s,m,r,h=>by
    rw[mI] at h;split at h
    · cases h
    · rename_i a b t ht;have h1:=nI ht;split at h
      · cases h;simp only[List.length_cons] at h1;omega
      · have:=rS n _ h;omega
theorem rm {s:By}{x:Nd}{r:By}(h:iL s=some (x,r)):r.length<s.length:=by
  unfold iL at h;split at h
  · rename_i t;simp only[Option.map_eq_some_iff] at h;obtain⟨⟨m,r'⟩,h1,h2⟩:=h;cases h2;have:=rS _ _ h1;simp only[List.length_cons];omega
  · simp only[Option.map_eq_some_iff] at h;obtain⟨⟨m,r'⟩,h1,h2⟩:=h;cases h2;exact rS _ _ h1
theorem zm {rows:By->Option (Nd×By)}(hr:∀{s x r},rows s=some (x,r)->r.length<=s.length){s:By}{x:Nd}{r:By}(h:fF rows s=some (x,r)):r.length<s.length:=by
  unfold fF at h;split at h
  · cases h
  · rename_i c t;simp only[List.length_cons];split at h
    · split at h
      · cases h
      · rename_i n t' ht;have:=hr ht;split at h
        · rename_i t'' _;cases h;simp only[List.length_cons] at this;omega
        · cases h
    · split at h
      · have:=rm h;omega
      · split at h
        · cases h;omega
        · split at h
          · simp only[Option.map_eq_some_iff] at h;obtain⟨⟨b,r'⟩,h1,h2⟩:=h;cases h2;have:=wD h1;dsimp only;omega
          · split at h
            · cases h
            · cases h;omega
theorem uT:∀(s:By) (n:Nd),(eT n s).2.length<=s.length
  | [],n=>by simp[eT]
  |c::r,n=>by
    rw[eT];split
    · simp
    · have:=uT r (.mk (dw c) 0 [n]);simp only[List.length_cons];omega
theorem gw {rows:By->Option (Nd×By)}(hr:∀{s x r},rows s=some (x,r)->r.length<=s.length){s:By}{x:Nd}{r:By}(h:gx rows s=some (x,r)):r.length<s.length:=by
  unfold gx at h;simp only[Option.map_eq_some_iff] at h;obtain⟨⟨n,t⟩,h1,h2⟩:=h;have h3:=zm hr h1;have h4:=uT t n;rw[h2] at h4;simp only at h4;omega
theorem rU {rows:By->Option (Nd×By)}(hr:∀{s x r},rows s=some (x,r)->r.length<=s.length):∀(n:Nat) (all row:List Nd){s:By}{x:Nd}{r:By},iW rows n all row s=some (x,r)->r.length<=s.length/\(r=[]\/r.head? =some 41)
  | 0,_,_,s,x,r,h=>by cases h
  |n+1,all,row,s,x,r,h=>by
    rw[iW] at h;split at h
    · rename_i he;split at h
      · have:=rU hr n _ _ h;exact⟨by have h2:=this.1;simp only[List.length_tail] at h2;omega,this.2⟩
      · rename_i hn;cases h;refine⟨Nat.le_refl _,?_⟩;cases s with
        |nil=>exact .inl rfl
        |cons c t =>
          right
          unfold kL at he;have h1:c≠124:=fun e=>hn (by rw[e];rfl)
          simp[h1] at he;simp[he]
    · split at h
      · cases h
      · rename_i y t ht;have h1:=gw hr ht;have h2:=rU hr n _ _ h;exact⟨by omega,h2.2⟩
theorem lp:∀(d:Nat){s:By}{x:Nd}{r:By},dS d s=some (x,r)->r.length<=s.length
  | 0,s,x,r,h=>by cases h
  |d+1,s,x,r,h=>(rU (fun h=>lp d h) _ _ _ h).1
theorem BR {rows:By->Option (Nd×By)}(hr:∀{s x r},rows s=some (x,r)->r.length<=s.length):∀(n:Nat){s:By}{l:List Nd}{r:By},ni rows n s=some (l,r)->r.length<=s.length/\kL r=true/\l.length<=s.length
  | 0,s,l,r,h=>by cases h
  |n+1,s,l,r,h=>by
    rw[ni] at h;split at h
    · rename_i he;cases h;exact⟨Nat.le_refl _,he,Nat.zero_le _⟩
    · split at h
      · cases h
      · rename_i y t ht;have h1:=gw hr ht;simp only[Option.map_eq_some_iff] at h;obtain⟨⟨m,r'⟩,h2,h3⟩:=h;cases h3;have h4:=BR hr n h2;have h5:=h4.1;have h6:=h4.2.2;exact⟨by first|omega|(dsimp only;omega),h4.2.1,by simp only[List.length_cons];first|omega|(dsimp only at h6;omega)⟩
theorem u9 {rows:By->Option (Nd×By)}(hr:∀{s x r},rows s=some (x,r)->r.length<=s.length):∀(k:Nat) (n m:Nat) (all row:List Nd) (s:By),s.length<=k->s.length<n->s.length<m->iW rows n all row s=iW rows m all row s:=by
  intro k
  induction k with
  |zero =>
    intro n m all row s hk hn hm;cases n with
    |zero=>omega
    |succ n =>
      cases m with
      |zero=>omega
      |succ m =>
        have:s=[]:=List.eq_nil_of_length_eq_zero (by omega);subst this;rfl
  |succ k ih =>
    intro n m all row s hk hn hm;cases n with
    |zero=>omega
    |succ n =>
      cases m with
      |zero=>omega
      |succ m =>
        rw[iW,iW];split
        · split
          · rename_i h1;have h2:s.tail.length+1=s.length:=by cases s with|nil=>cases h1|cons a b=>simp
            exact ih _ _ _ _ _ (by omega) (by omega) (by omega)
          · rfl
        · cases hp:gx rows s with
          |none=>rfl
          |some p =>
            obtain⟨y,t⟩:=p;have:=gw hr hp;exact ih _ _ _ _ _ (by omega) (by omega) (by omega)
theorem yJ {rows:By->Option (Nd×By)}(hr:∀{s x r},rows s=some (x,r)->r.length<=s.length):∀(n m:Nat) (s:By),s.length<n->s.length<m->ni rows n s=ni rows m s
  | 0,_,_,h,_=>by omega
  |_,0,_,_,h=>by omega
  |n+1,m+1,s,hn,hm=>by
    rw[ni,ni];split
    · rfl
    · cases hp:gx rows s with
      |none=>rfl
      |some p =>
        obtain⟨y,t⟩:=p;have:=gw hr hp;simp only;rw[yJ hr n m t (by omega) (by omega)]
def Af (rows:By->Option (Nd×By)) (s:By):Option (Nd×By):=(ni rows (s.length+1) s).map fun p=>(bU 2 p.1,p.2)
def tM (rows:By->Option (Nd×By)) (all:List Nd) (m:By):Option (Nd×By) :=
  if m.head? =some 124 then iW rows (m.tail.length+1) all [] m.tail else some (bU 3 all,m)
theorem FL {rows:By->Option (Nd×By)}(hr:∀{s x r},rows s=some (x,r)->r.length<=s.length):∀(n m:Nat) (all row:List Nd) (s:By),s.length<n->s.length<m ->
    iW rows n all row s=match ni rows m s with
      |none=>none
      |some (l,r)=>if r.head? =some 124 then iW rows (r.length+1) (all++[bU 2 (row++l)]) [] r.tail else some (bU 3 (all++[bU 2 (row++l)]),r):=by
  have fuel:=fun k=>@u9 rows hr k
  intro n
  induction n with
  |zero=>intro m all row s h;omega
  |succ n ih =>
    intro m all row s hn hm;cases m with
    |zero=>omega
    |succ m =>
      rw[iW,ni]
      by_cases he:kL s=true
      · rw[if_pos he,if_pos he];simp only[List.append_nil];split
        · rename_i h1;have h2:s.tail.length+1=s.length:=by cases s with|nil=>cases h1|cons a b=>simp
          exact fuel _ _ _ _ _ _ (Nat.le_refl _) (by omega) (by omega)
        · rfl
      · rw[if_neg he,if_neg he];cases hp:gx rows s with
        |none=>rfl
        |some p =>
          obtain⟨y,t⟩:=p;have hlt:=gw hr hp;simp only;rw[ih m all (row++[y]) t (by omega) (by omega)];cases hl:ni rows m t with
          |none=>rfl
          |some q =>
            obtain⟨l,r⟩:=q;simp only[Option.map_some,List.append_assoc,List.singleton_append]
theorem ve {rows:By->Option (Nd×By)}(hr:∀{s x r},rows s=some (x,r)->r.length<=s.length) (all:List Nd) (s:By) :
    iW rows (s.length+1) all [] s=match Af rows s with|none=>none|some (x,r)=>tM rows (all++[x]) r:=by
  rw[FL hr _ (s.length+1) _ _ _ (Nat.lt_succ_self _) (Nat.lt_succ_self _)];unfold Af;cases hl:ni rows (s.length+1) s with
  |none=>rfl
  |some q =>
    obtain⟨l,r⟩:=q;simp only[Option.map_some,List.nil_append,tM];split
    · exact u9 hr r.length _ _ _ _ _ (by simp) (by simp;omega) (by omega)
    · rfl
theorem BQ {rows:By->Option (Nd×By)}(hr:∀{s x r},rows s=some (x,r)->r.length<=s.length){s:By}{x:Nd}{r:By}(h:Af rows s=some (x,r)):r.length<=s.length:=by
  unfold Af at h;simp only[Option.map_eq_some_iff] at h;obtain⟨⟨l,r'⟩,h1,h2⟩:=h;cases h2;exact(BR hr _ h1).1
def br (s:By):Nd×Int:=if 200<s.length then (ox,3) else match kM s with|some x=>(x,0)|none=>(ox,10)
end Go.Proofs.YtdgckfkoihcmjaaGreatDoor
namespace Go.Proofs.YtdgckfkoihcmjaaGreatDoor
open Go
section
variable {k e:Int}
inductive Tr where
  |mk (k:Int) (t:By) (l:List Tr)
def Tr.kind:Tr->Int|.mk k _ _=>k
def Tr.text:Tr->By|.mk _ t _=>t
def Tr.kids:Tr->List Tr|.mk _ _ l=>l
abbrev Un:=Int×By×Int
inductive PS where
  |ok (r:List Un)
  |bad (m:Int)
def PS.bI:PS->Bool|.ok _=>false|.bad _=>true
def PS.len:PS->Nat|.ok r=>r.length|.bad _=>0
def NH (e:Int):List Un->Int| []=>e|u::_=>u.2.2
def cB (e:Int):PS->PS|.ok r=>.bad (NH e r)|.bad m=>.bad m
def bE (k:Int) (ts:List By):PS->Option By×PS
  |.ok (u::r)=>if u.1=k/\u.2.1∈ts then (some u.2.1,.ok r) else (none,.ok (u::r))
  |.ok []=>(none,.ok [])
  |.bad m=>(none,.bad m)
def ck (e k:Int) (t:By) (s:PS):PS:=match (bE k [t] s).1 with|some _=>(bE k [t] s).2|none=>cB e (bE k [t] s).2
def bZ (e:Int):PS->By×PS
  |.ok (u::r)=>if u.1=3 then (u.2.1,.ok r) else ([],cB e (.ok (u::r)))
  |.ok []=>([],cB e (.ok []))
  |.bad m=>([],.bad m)
abbrev oH:By:=[108,101,116]
abbrev JO:By:=[105,110]
abbrev Bg:By:=[105,102]
abbrev ke:By:=[101,108,115,101]
abbrev BA:By:=[102,117,110]
abbrev rO:By:=[111,114]
abbrev kJ:By:=[97,110,100]
abbrev kI:By:=[110,111,116]
abbrev kY:By:=[116,114,117,101]
abbrev pK:By:=[102,97,108,115,101]
abbrev uK:By:=[124,124]
abbrev uL:By:=[38,38]
abbrev sX:By:=[33]
abbrev iQ:By:=[45]
abbrev Hl:List By:=[[61,61],[33,61],[60],[60,61],[62],[62,61]]
abbrev Hj:List By:=[[43],[45]]
abbrev Bz:List By:=[[42],[47],[37]]
def xP (k:Nat) (s:PS):Option By×PS :=
  if k=0 then (match bE 4 [rO] s with|(some _,s)=>(some rO,s)|(none,s)=>match bE 6 [uK] s with|(some _,s)=>(some rO,s)|(none,s)=>(none,s))
  else if k=1 then (match bE 4 [kJ] s with|(some _,s)=>(some kJ,s)|(none,s)=>match bE 6 [uL] s with|(some _,s)=>(some kJ,s)|(none,s)=>(none,s))
  else if k=3 then bE 6 Hl s
  else if k=4 then bE 6 Hj s
  else bE 6 Bz s
inductive Fl where
  |stmt|expr|lt (alone:Bool)|choice|fn|block
  |blockL (l:List Tr)|part (k:Nat)|opL (k:Nat) (t:Tr)|callL (t:Tr)|argL (t:Tr)|atom
def kE (u:Un):Option Tr :=
  if u.1=5 then some (.mk 0 u.2.1 []) else if u.1=9 then some (.mk 1 u.2.1 []) else if u.1=3 then some (.mk 3 u.2.1 [])
  else if u.1=4/\(u.2.1=kY\/u.2.1=pK) then some (.mk 2 u.2.1 []) else none
def Es:Tr:=.mk 0 [] []
abbrev xE:=Option (Tr×PS)
def dY (a:xE) (f:Tr->PS->xE):xE:=a.bind fun p=>f p.1 p.2
def pM (e:Int):Nat->Fl->PS->xE
  | 0,_,_=>none
  |n+1,.stmt,s=>match bE 4 [oH] s with
    |(some _,s)=>pM e n (.lt true) s
    |(none,s)=>pM e n .expr s
  |n+1,.expr,s=>match bE 4 [oH] s with
    |(some _,s)=>pM e n (.lt false) s
    |(none,s)=>match bE 4 [Bg] s with
      |(some _,s)=>pM e n .choice s
      |(none,s)=>match bE 4 [BA] s with
        |(some _,s)=>pM e n .fn s
        |(none,s)=>pM e n (.part 0) s
  |n+1,.lt alone,s=>dY (pM e n .expr (ck e 6 [61] (bZ e s).2)) fun v s1=>match bE 4 [JO] s1 with
    |(some _,s2)=>dY (pM e n .expr s2) fun w s3=>some (.mk 7 (bZ e s).1 [v,w],s3)
    |(none,s2)=>some (.mk 7 (bZ e s).1 [v],if alone then s2 else cB e s2)
  |n+1,.choice,s=>dY (pM e n .expr s) fun a s=>dY (pM e n .block s) fun b s=>match bE 4 [Bg] (ck e 4 ke s) with
    |(some _,s)=>dY (pM e n .choice s) fun c s=>some (.mk 6 [] [a,b,c],s)
    |(none,s)=>dY (pM e n .block s) fun c s=>some (.mk 6 [] [a,b,c],s)
  |n+1,.fn,s=>match bE 6 [[44]] (bZ e s).2 with
    |(some _,s1)=>dY (pM e n .fn s1) fun a s2=>some (.mk 8 (bZ e s).1 [a],s2)
    |(none,s1)=>dY (pM e n .expr (ck e 6 [45,62] s1)) fun a s2=>some (.mk 8 (bZ e s).1 [a],s2)
  |n+1,.block,s=>pM e n (.blockL []) (ck e 7 [123] s)
  |n+1,.blockL l,s=>dY (pM e n .stmt s) fun t s=>match bE 6 [[59]] s with
    |(more,s)=>match bE 8 [[125]] s with
      |(some _,s)=>some (.mk 10 [] (l++[t]),s)
      |(none,s)=>if more.isSome && !s.bI then pM e n (.blockL (l++[t])) s else some (.mk 10 [] (l++[t]),cB e s)
  |n+1,.part k,s =>
    if k=7 then dY (pM e n .atom s) fun t s=>pM e n (.callL t) s
    else if k=2 then match bE 4 [kI] s with
      |(some _,s)=>dY (pM e n (.part 2) s) fun t s=>some (.mk 4 kI [t],s)
      |(none,s)=>match bE 6 [sX] s with
        |(some _,s)=>dY (pM e n (.part 2) s) fun t s=>some (.mk 4 kI [t],s)
        |(none,s)=>pM e n (.part 3) s
    else if k=6 then match bE 6 [iQ] s with
      |(some _,s)=>dY (pM e n (.part 6) s) fun t s=>some (.mk 4 iQ [t],s)
      |(none,s)=>pM e n (.part 7) s
    else dY (pM e n (.part (k+1)) s) fun t s=>pM e n (.opL k t) s
  |n+1,.opL k t,s=>match xP k s with
    |(some op,s)=>dY (pM e n (.part (k+1)) s) fun u s=>if k=3 then some (.mk 5 op [t,u],s) else pM e n (.opL k (.mk 5 op [t,u])) s
    |(none,s)=>some (t,s)
  |n+1,.callL t,s=>match bE 7 [[40]] s with
    |(some _,s)=>pM e n (.argL t) s
    |(none,s)=>some (t,s)
  |n+1,.argL t,s=>dY (pM e n .expr s) fun a s=>match bE 6 [[44]] s with
    |(some _,s)=>pM e n (.argL (.mk 9 [] [t,a])) s
    |(none,s)=>pM e n (.callL (.mk 9 [] [t,a])) (ck e 8 [41] s)
  |n+1,.atom,s=>match s with
    |.bad m=>some (Es,.bad m)
    |.ok []=>some (Es,cB e (.ok []))
    |.ok (u::r)=>match kE u with
      |some t=>some (t,.ok r)
      |none=>if u.1=7/\u.2.1=[123] then pM e n .block (.ok (u::r))
        else if u.1=7/\u.2.1=[40] then dY (pM e n .expr (.ok r)) fun t s=>some (t,ck e 8 [41] s)
        else some (Es,cB e (.ok (u::r)))
theorem lG (k:Int) (ts:List By) (u:Un) (r:List Un):bE k ts (.ok (u::r))=if u.1=k/\u.2.1∈ts then (some u.2.1,.ok r) else (none,.ok (u::r)):=rfl
theorem iA (e:Int) (u:Un) (r:List Un):bZ e (.ok (u::r))=if u.1=3 then (u.2.1,.ok r) else ([],cB e (.ok (u::r))):=rfl
theorem Kl (k:Int) (ts:List By) (m:Int):bE k ts (.bad m)=(none,.bad m):=rfl
theorem aE {ts:List By}{s s':PS}(h:bE k ts s=(none,s')):s'=s:=by
  cases s with
  |bad m=>cases h;rfl
  |ok r=>cases r with
    |nil=>cases h;rfl
    |cons u r=>rw[lG] at h;split at h<;>cases h;rfl
theorem lF {ts:List By}{s s':PS}{t:By}(h:bE k ts s=(some t,s')):∃u r,s= .ok (u::r)/\s'= .ok r/\u.1=k/\u.2.1=t/\t∈ts:=by
  cases s with
  |bad m=>cases h
  |ok r=>cases r with
    |nil=>cases h
    |cons u r=>rw[lG] at h;split at h<;>cases h;rename_i q;exact⟨u,r,rfl,rfl,q.1,rfl,q.2⟩
theorem ct {ts:List By}{s s':PS}{t:By}(h:bE k ts s=(some t,s')):s.len=s'.len+1:=by
  obtain⟨u,r,rfl,rfl,_⟩:=lF h;simp[PS.len]
theorem zh (e:Int) (s:PS):∃m,cB e s= .bad m:=by cases s<;>exact⟨_,rfl⟩
theorem eo (e k:Int) (t:By) (s:PS):(ck e k t s).len<=s.len:=by
  unfold ck
  rcases hq:bE k [t] s with ⟨q,s'⟩
  cases q with
  |none=>have:=aE hq;subst this;obtain⟨m,hm⟩:=zh e s';simp[hm,PS.len]
  |some x=>have:=ct hq;simp;omega
theorem lz (e:Int) (s:PS):(bZ e s).2.len<=s.len/\((bZ e s).2.len<s.len\/(bZ e s).2.bI=true):=by
  cases s with
  |bad m=>simp[bZ,PS.bI]
  |ok r=>cases r with
    |nil=>simp[bZ,cB,PS.bI,PS.len]
    |cons u r =>
      rw[iA];split
      · simp[PS.len]
      · simp[cB,PS.len,PS.bI]
theorem zg (e:Int) (s:PS):(cB e s).len=0:=by cases s<;>rfl
theorem BY {k:Nat}{s s':PS}(h:xP k s=(none,s')):s'=s:=by
  unfold xP at h;split at h
  · rcases hq:bE 4 [rO] s with ⟨q,s1⟩
    rw[hq] at h;cases q with
    |some x=>simp at h
    |none =>
      have e1:=aE hq;subst e1
      rcases hq2:bE 6 [uK] s1 with ⟨q,s2⟩
      simp only[hq2] at h;cases q with
      |some x=>simp at h
      |none=>have:=aE hq2;subst this;simp at h;exact h.symm
  · split at h
    · rcases hq:bE 4 [kJ] s with ⟨q,s1⟩
      rw[hq] at h;cases q with
      |some x=>simp at h
      |none =>
        have e1:=aE hq;subst e1
        rcases hq2:bE 6 [uL] s1 with ⟨q,s2⟩
        simp only[hq2] at h;cases q with
        |some x=>simp at h
        |none=>have:=aE hq2;subst this;simp at h;exact h.symm
    · split at h
      · exact aE h
      · split at h<;>exact aE h
theorem BX {k:Nat}{s s':PS}{t:By}(h:xP k s=(some t,s')):∃u r,s= .ok (u::r)/\s'= .ok r:=by
  have key:∀{k ts}{s s':PS}{t:By},bE k ts s=(some t,s')->∃u r,s= .ok (u::r)/\s'= .ok r:=fun h=>by
    obtain⟨u,r,h1,h2,_⟩:=lF h;exact⟨u,r,h1,h2⟩
  unfold xP at h;split at h
  · rcases hq:bE 4 [rO] s with ⟨q,s1⟩
    rw[hq] at h;cases q with
    |some x=>simp at h;rw[<-h.2];exact key hq
    |none =>
      have e1:=aE hq;subst e1
      rcases hq2:bE 6 [uK] s1 with ⟨q,s2⟩
      simp only[hq2] at h;cases q with
      |some x=>simp at h;rw[<-h.2];exact key hq2
      |none=>simp at h
  · split at h
    · rcases hq:bE 4 [kJ] s with ⟨q,s1⟩
      rw[hq] at h;cases q with
      |some x=>simp at h;rw[<-h.2];exact key hq
      |none =>
        have e1:=aE hq;subst e1
        rcases hq2:bE 6 [uL] s1 with ⟨q,s2⟩
        simp only[hq2] at h;cases q with
        |some x=>simp at h;rw[<-h.2];exact key hq2
        |none=>simp at h
    · split at h
      · exact key h
      · split at h<;>exact key h
theorem An {k:Nat}{s s':PS}{t:By}(h:xP k s=(some t,s')):s.len=s'.len+1:=by
  obtain⟨u,r,rfl,rfl⟩:=BX h;simp[PS.len]
theorem ay {a:xE}{f:Tr->PS->xE}{y:Tr×PS}(h:dY a f=some y):∃t s,a=some (t,s)/\f t s=some y:=by
  cases a with
  |none=>cases h
  |some p=>exact⟨p.1,p.2,rfl,h⟩
theorem Hg {a:xE}{f:Tr->PS->xE}{t:Tr}{s:PS}(h:a=some (t,s)):dY a f=f t s:=by rw[h];rfl
theorem Am (e:Int):∀(n:Nat) (j:Fl) (s:PS) (t:Tr) (s':PS),pM e n j s=some (t,s')->s'.len<=s.len/\(∀m,s= .bad m->s'= .bad m)
  | 0,_,_,_,_,h=>by cases h
  |n+1,j,s,t,s',h=>by
    have ih:=Am e n;have hm:∀{k t}{s:PS},(ck e k t s).len<=s.len/\(∀m,s= .bad m->ck e k t s= .bad m):=fun {k t s}=>⟨eo e k t s,fun m q=>by subst q;rfl⟩
    have hi:∀{k ts}{s s':PS} {o},bE k ts s=(o,s')->s'.len<=s.len/\(∀m,s= .bad m->s'= .bad m):=fun {k ts s s' o} q=>by
      cases o with
      |none=>have:=aE q;subst this;exact⟨Nat.le_refl _,fun m q=>q⟩
      |some x=>exact⟨by have:=ct q;omega,fun m q2=>by subst q2;cases q⟩
    have ho:∀{k}{s s':PS} {o},xP k s=(o,s')->s'.len<=s.len/\(∀m,s= .bad m->s'= .bad m):=fun {k s s' o} q=>by
      cases o with
      |none=>have:=BY q;subst this;exact⟨Nat.le_refl _,fun m q=>q⟩
      |some x=>exact⟨by have:=An q;omega,fun m q2=>by subst q2;obtain⟨_,_,q3,_⟩:=BX q;cases q3⟩
    have hn:∀{s:PS},(bZ e s).2.len<=s.len/\(∀m,s= .bad m->(bZ e s).2= .bad m):=fun {s}=>⟨(lz e s).1,fun m q=>by subst q;rfl⟩
    have hf:∀{s:PS},(cB e s).len<=s.len/\(∀m,s= .bad m->cB e s= .bad m):=fun {s}=>⟨by rw[zg];omega,fun m q=>by subst q;rfl⟩
    have tr:∀{a b c:PS},(b.len<=a.len/\(∀m,a= .bad m->b= .bad m))->(c.len<=b.len/\(∀m,b= .bad m->c= .bad m))->(c.len<=a.len/\(∀m,a= .bad m->c= .bad m)) :=
      fun p q=>⟨Nat.le_trans q.1 p.1,fun m r=>q.2 m (p.2 m r)⟩
    cases j with
    |stmt =>
      simp only[pM] at h
      rcases h1:bE 4 [oH] s with ⟨o,s1⟩
      rw[h1] at h;cases o<;>exact tr (hi h1) (ih _ _ _ _ h)
    |expr =>
      simp only[pM] at h
      rcases h1:bE 4 [oH] s with ⟨o,s1⟩
      rw[h1] at h;cases o with
      |some x=>exact tr (hi h1) (ih _ _ _ _ h)
      |none =>
        simp only at h
        rcases h2:bE 4 [Bg] s1 with ⟨o,s2⟩
        rw[h2] at h;cases o with
        |some x=>exact tr (hi h1) (tr (hi h2) (ih _ _ _ _ h))
        |none =>
          simp only at h
          rcases h3:bE 4 [BA] s2 with ⟨o,s3⟩
          rw[h3] at h;cases o<;>exact tr (hi h1) (tr (hi h2) (tr (hi h3) (ih _ _ _ _ h)))
    |lt alone =>
      simp only[pM] at h;obtain⟨v,s1,h1,h⟩:=ay h;have k1:=tr hn (tr hm (ih _ _ _ _ h1))
      rcases h2:bE 4 [JO] s1 with ⟨o,s2⟩
      rw[h2] at h;cases o with
      |some x =>
        simp only at h;obtain⟨w,s3,h3,h⟩:=ay h;cases h;exact tr k1 (tr (hi h2) (ih _ _ _ _ h3))
      |none =>
        simp only at h;cases h;cases alone
        · exact tr k1 (tr (hi h2) hf)
        · exact tr k1 (hi h2)
    |choice =>
      simp only[pM] at h;obtain⟨a,s1,h1,h⟩:=ay h;obtain⟨b,s2,h2,h⟩:=ay h;have k:=tr (ih _ _ _ _ h1) (tr (ih _ _ _ _ h2) (hm (k:=4) (t:=ke)))
      rcases h3:bE 4 [Bg] (ck e 4 ke s2) with ⟨o,s3⟩
      rw[h3] at h;cases o with
      |some x=>simp only at h;obtain⟨c,s4,h4,h⟩:=ay h;cases h;exact tr k (tr (hi h3) (ih _ _ _ _ h4))
      |none=>simp only at h;obtain⟨c,s4,h4,h⟩:=ay h;cases h;exact tr k (tr (hi h3) (ih _ _ _ _ h4))
    |fn =>
      simp only[pM] at h
      rcases h3:bE 6 [[44]] (bZ e s).2 with ⟨o,s3⟩
      rw[h3] at h;cases o with
      |some x=>simp only at h;obtain⟨c,s4,h4,h⟩:=ay h;cases h;exact tr hn (tr (hi h3) (ih _ _ _ _ h4))
      |none=>simp only at h;obtain⟨c,s4,h4,h⟩:=ay h;cases h;exact tr hn (tr (hi h3) (tr hm (ih _ _ _ _ h4)))
    |block=>simp only[pM] at h;exact tr hm (ih _ _ _ _ h)
    |blockL l =>
      simp only[pM] at h;obtain⟨t1,s1,h1,h⟩:=ay h
      rcases h2:bE 6 [[59]] s1 with ⟨o,s2⟩
      rw[h2] at h;simp only at h
      rcases h3:bE 8 [[125]] s2 with ⟨q,s3⟩
      rw[h3] at h;have k:=tr (ih _ _ _ _ h1) (tr (hi h2) (hi h3));cases q with
      |some x=>simp only at h;cases h;exact k
      |none =>
        simp only at h;split at h
        · exact tr k (ih _ _ _ _ h)
        · cases h;exact tr k hf
    |part k =>
      simp only[pM] at h;split at h
      · obtain⟨t1,s1,h1,h⟩:=ay h;exact tr (ih _ _ _ _ h1) (ih _ _ _ _ h)
      · split at h
        · rcases h1:bE 4 [kI] s with ⟨o,s1⟩
          rw[h1] at h;cases o with
          |some x=>simp only at h;obtain⟨c,s4,h4,h⟩:=ay h;cases h;exact tr (hi h1) (ih _ _ _ _ h4)
          |none =>
            simp only at h
            rcases h2:bE 6 [sX] s1 with ⟨o,s2⟩
            rw[h2] at h;cases o with
            |some x=>simp only at h;obtain⟨c,s4,h4,h⟩:=ay h;cases h;exact tr (hi h1) (tr (hi h2) (ih _ _ _ _ h4))
            |none=>exact tr (hi h1) (tr (hi h2) (ih _ _ _ _ h))
        · split at h
          · rcases h1:bE 6 [iQ] s with ⟨o,s1⟩
            rw[h1] at h;cases o with
            |some x=>simp only at h;obtain⟨c,s4,h4,h⟩:=ay h;cases h;exact tr (hi h1) (ih _ _ _ _ h4)
            |none=>exact tr (hi h1) (ih _ _ _ _ h)
          · obtain⟨t1,s1,h1,h⟩:=ay h;exact tr (ih _ _ _ _ h1) (ih _ _ _ _ h)
    |opL k t0 =>
      simp only[pM] at h
      rcases h1:xP k s with ⟨o,s1⟩
      rw[h1] at h;cases o with
      |some x =>
        simp only at h;obtain⟨c,s4,h4,h⟩:=ay h;split at h
        · cases h;exact tr (ho h1) (ih _ _ _ _ h4)
        · exact tr (ho h1) (tr (ih _ _ _ _ h4) (ih _ _ _ _ h))
      |none=>simp only at h;cases h;exact ho h1
    |callL t0 =>
      simp only[pM] at h
      rcases h1:bE 7 [[40]] s with ⟨o,s1⟩
      rw[h1] at h;cases o with
      |some x=>exact tr (hi h1) (ih _ _ _ _ h)
      |none=>simp only at h;cases h;exact hi h1
    |argL t0 =>
      simp only[pM] at h;obtain⟨t1,s1,h1,h⟩:=ay h
      rcases h2:bE 6 [[44]] s1 with ⟨o,s2⟩
      rw[h2] at h;cases o with
      |some x=>exact tr (ih _ _ _ _ h1) (tr (hi h2) (ih _ _ _ _ h))
      |none=>exact tr (ih _ _ _ _ h1) (tr (hi h2) (tr hm (ih _ _ _ _ h)))
    |atom =>
      cases s with
      |bad m=>simp only[pM] at h;cases h;exact⟨Nat.le_refl _,fun _ q=>q⟩
      |ok r=>cases r with
        |nil=>simp only[pM] at h;cases h;exact hf
        |cons u r =>
          simp only[pM] at h;have kk:(PS.ok r).len<=(PS.ok (u::r)).len/\(∀m,PS.ok (u::r)= .bad m->PS.ok r= .bad m):=⟨by simp[PS.len],fun m q=>by cases q⟩
          split at h
          · cases h;exact kk
          · split at h
            · exact ih _ _ _ _ h
            · split at h
              · obtain⟨t1,s1,h1,h⟩:=ay h;cases h;exact tr kk (tr (ih _ _ _ _ h1) hm)
              · cases h;exact hf
theorem iz {n:Nat}{j:Fl}{s:PS}{t:Tr}{s':PS}(h:pM e n j s=some (t,s')):s'.len<=s.len:=(Am e n j s t s' h).1
theorem HT {n:Nat}{j:Fl}{m:Int}{t:Tr}{s':PS}(h:pM e n j (.bad m)=some (t,s')):s'= .bad m:=(Am e n j _ t s' h).2 m rfl
def Tm (F:Nat->xE):Prop:=∃n y,∀m,n<=m->F m=some y
theorem eI (y:Tr×PS):Tm fun _=>some y:=⟨0,y,fun _ _=>rfl⟩
theorem Tm.then {j:Fl}{s:PS}{f:Nat->Tr->PS->xE}(h:Tm fun n=>pM e n j s) (k:∀t s',s'.len<=s.len->Tm fun n=>f n t s'):Tm fun n=>dY (pM e n j s) (f n):=by
  obtain⟨n,⟨t,s'⟩,h⟩:=h;obtain⟨n2,y2,k⟩:=k t s' (iz (h n (Nat.le_refl _)))
  exact⟨max n n2,y2,fun m hm=>by
    show dY (pM e m j s) (f m)=some y2
    rw[Hg (h m (by omega))];exact k m (by omega)⟩
theorem Tm.succ {j:Fl}{s:PS}{F:Nat->xE}(h:Tm F) (k:∀n,pM e (n+1) j s=F n):Tm fun n=>pM e n j s:=by
  obtain⟨n,y,h⟩:=h;refine⟨n+1,y,fun m hm=>?_⟩;obtain⟨m',rfl⟩:∃m',m=m'+1:=⟨m-1,by omega⟩
  show pM e (m'+1) j s=some y
  rw[k];exact h m' (by omega)
def Qc:Fl->Prop|.part k=>k<=7|.opL k _=>k<=5|_=>True
theorem HS (e:Int):∀(L:Nat) (s:PS),s.len<=L->∀j,Qc j->Tm fun n=>pM e n j s:=by
  intro L
  induction L using Nat.strongRecOn with
  |_ L lo0 =>
  have lo:∀s:PS,s.len<L->∀j,Qc j->Tm fun n=>pM e n j s:=fun s hs j hj=>lo0 s.len hs s (Nat.le_refl _) j hj
  have atom:∀s:PS,s.len<=L->Tm fun n=>pM e n .atom s:=by
    intro s hs;cases s with
    |bad m=>exact(eI _).succ fun n=>by rw[pM]
    |ok r=>cases r with
      |nil=>exact(eI _).succ fun n=>by rw[pM]
      |cons u r =>
        have hr:r.length<L:=hs;have hl:=lo (.ok r) hr;cases h1:kE u with
        |some t=>exact(eI (t,.ok r)).succ fun n=>by rw[pM];simp only[h1]
        |none =>
          by_cases h2:u.1=7/\u.2.1=[123]
          · have hb:Tm fun n=>pM e n .block (.ok (u::r)):=(hl (.blockL []) trivial).succ fun n=>by
              rw[pM];have:ck e 7 [123] (.ok (u::r))= .ok r:=by unfold ck;rw[lG,if_pos ⟨h2.1,by simp[h2.2]⟩]
              rw[this]
            exact hb.succ fun n=>by rw[pM];simp only[h1];rw[if_pos h2]
          · by_cases h3:u.1=7/\u.2.1=[40]
            · exact((hl .expr trivial).then fun t s' _=>eI (t,ck e 8 [41] s')).succ fun n=>by rw[pM];simp only[h1];rw[if_neg h2,if_pos h3]
            · exact(eI (Es,cB e (.ok (u::r)))).succ fun n=>by rw[pM];simp only[h1];rw[if_neg h2,if_neg h3]
  have callL:∀t (s:PS),s.len<=L->Tm fun n=>pM e n (.callL t) s:=by
    intro t s hs
    rcases h1:bE 7 [[40]] s with ⟨o,s1⟩
    cases o with
    |some x=>exact(lo s1 (by have:=ct h1;omega) (.argL t) trivial).succ fun n=>by rw[pM,h1]
    |none=>exact(eI (t,s1)).succ fun n=>by rw[pM,h1]
  have p7:∀s:PS,s.len<=L->Tm fun n=>pM e n (.part 7) s:=fun s hs =>
    ((atom s hs).then (f:=fun n t s=>pM e n (.callL t) s) fun t s' hl=>callL t s' (Nat.le_trans hl hs)).succ fun n=>by rw[pM,if_pos rfl]
  have p6:∀s:PS,s.len<=L->Tm fun n=>pM e n (.part 6) s:=by
    intro s hs
    rcases h1:bE 6 [iQ] s with ⟨o,s1⟩
    cases o with
    |some x=>exact((lo s1 (by have:=ct h1;omega) (.part 6) (by decide:(6:Nat)<=7)).then fun t s' _=>eI (.mk 4 iQ [t],s')).succ fun n=>by rw[pM,if_neg (by decide),if_neg (by decide),if_pos rfl,h1]
    |none=>exact(p7 s1 (by have:=aE h1;subst this;exact hs)).succ fun n=>by rw[pM,if_neg (by decide),if_neg (by decide),if_pos rfl,h1]
  have opL:∀k,k<=5->∀t (s:PS),s.len<=L->Tm fun n=>pM e n (.opL k t) s:=by
    intro k hk t s hs
    rcases h1:xP k s with ⟨o,s1⟩
    cases o with
    |some x =>
      have hl:=An h1
      by_cases h3:k=3
      · exact((lo s1 (by omega) (.part (k+1)) (show k+1<=7 by omega)).then (f:=fun _ u s=>some (.mk 5 x [t,u],s)) fun u s' _=>eI _).succ fun n=>by
          rw[pM,h1];simp only[if_pos h3]
      · exact((lo s1 (by omega) (.part (k+1)) (show k+1<=7 by omega)).then (f:=fun n u s=>pM e n (.opL k (.mk 5 x [t,u])) s) fun u s' hl'=>lo s' (by omega) _ hk).succ fun n=>by
          rw[pM,h1];simp only[if_neg h3]
    |none=>exact(eI (t,s1)).succ fun n=>by rw[pM,h1]
  have up:∀k,k<=5->k≠2->(∀s:PS,s.len<=L->Tm fun n=>pM e n (.part (k+1)) s)->∀s:PS,s.len<=L->Tm fun n=>pM e n (.part k) s:=by
    intro k hk h2 h s hs
    exact((h s hs).then (f:=fun n t s=>pM e n (.opL k t) s) fun t s' hl=>opL k hk t s' (Nat.le_trans hl hs)).succ fun n=>by
      rw[pM,if_neg (by omega),if_neg h2,if_neg (by omega)]
  have p3:=up 3 (by decide) (by decide) (up 4 (by decide) (by decide) (up 5 (by decide) (by decide) p6))
  have p2:∀s:PS,s.len<=L->Tm fun n=>pM e n (.part 2) s:=by
    intro s hs
    rcases h1:bE 4 [kI] s with ⟨o,s1⟩
    cases o with
    |some x=>exact((lo s1 (by have:=ct h1;omega) (.part 2) (by decide:(2:Nat)<=7)).then fun t s' _=>eI (.mk 4 kI [t],s')).succ fun n=>by rw[pM,if_neg (by decide),if_pos rfl,h1]
    |none =>
      have e1:=aE h1
      rcases h2:bE 6 [sX] s1 with ⟨o,s2⟩
      cases o with
      |some x=>exact((lo s2 (by have:=ct h2;subst e1;omega) (.part 2) (by decide:(2:Nat)<=7)).then fun t s' _=>eI (.mk 4 kI [t],s')).succ fun n=>by rw[pM,if_neg (by decide),if_pos rfl,h1];simp only[h2]
      |none=>exact(p3 s2 (by have:=aE h2;subst this e1;exact hs)).succ fun n=>by rw[pM,if_neg (by decide),if_pos rfl,h1];simp only[h2]
  have p1:=up 1 (by decide) (by decide) p2;have p0:=up 0 (by decide) (by decide) p1
  have part:∀k,k<=7->∀s:PS,s.len<=L->Tm fun n=>pM e n (.part k) s:=fun k hk s hs=>by
    match k,hk with
    | 0,_=>exact p0 s hs
    | 1,_=>exact p1 s hs
    | 2,_=>exact p2 s hs
    | 3,_=>exact p3 s hs
    | 4,_=>exact up 4 (by decide) (by decide) (up 5 (by decide) (by decide) p6) s hs
    | 5,_=>exact up 5 (by decide) (by decide) p6 s hs
    | 6,_=>exact p6 s hs
    | 7,_=>exact p7 s hs
  have expr:∀s:PS,s.len<=L->Tm fun n=>pM e n .expr s:=by
    intro s hs
    rcases h1:bE 4 [oH] s with ⟨o,s1⟩
    cases o with
    |some x=>exact(lo s1 (by have:=ct h1;omega) (.lt false) trivial).succ fun n=>by rw[pM,h1]
    |none =>
      have e1:=aE h1
      rcases h2:bE 4 [Bg] s1 with ⟨o,s2⟩
      cases o with
      |some x=>exact(lo s2 (by have:=ct h2;subst e1;omega) .choice trivial).succ fun n=>by rw[pM,h1];simp only[h2]
      |none =>
        have e2:=aE h2
        rcases h3:bE 4 [BA] s2 with ⟨o,s3⟩
        cases o with
        |some x=>exact(lo s3 (by have:=ct h3;subst e2 e1;omega) .fn trivial).succ fun n=>by rw[pM,h1];simp only[h2,h3]
        |none=>exact(p0 s3 (by have:=aE h3;subst this e2 e1;exact hs)).succ fun n=>by rw[pM,h1];simp only[h2,h3]
  have stmt:∀s:PS,s.len<=L->Tm fun n=>pM e n .stmt s:=by
    intro s hs
    rcases h1:bE 4 [oH] s with ⟨o,s1⟩
    cases o with
    |some x=>exact(lo s1 (by have:=ct h1;omega) (.lt true) trivial).succ fun n=>by rw[pM,h1]
    |none=>exact(expr s1 (by have:=aE h1;subst this;exact hs)).succ fun n=>by rw[pM,h1]
  have blockL:∀l (s:PS),s.len<=L->Tm fun n=>pM e n (.blockL l) s:=by
    intro l s hs;refine((stmt s hs).then (f:=fun n t s=>match bE 6 [[59]] s with
    |(more,s)=>match bE 8 [[125]] s with
      |(some _,s)=>some (.mk 10 [] (l++[t]),s)
      |(none,s)=>if more.isSome && !s.bI then pM e n (.blockL (l++[t])) s else some (.mk 10 [] (l++[t]),cB e s)) fun t s1 hl=>?_).succ fun n=>by rw[pM]<;>rfl
    rcases h2:bE 6 [[59]] s1 with ⟨o,s2⟩
    rcases h3:bE 8 [[125]] s2 with ⟨q,s3⟩
    simp only[h2,h3];cases q with
    |some x=>exact eI _
    |none =>
      have e3:=aE h3;cases o with
      |none=>simp only[Option.isSome_none,Bool.false_and,Bool.false_eq_true,if_false];exact eI _
      |some x =>
        have:=ct h2;cases hb:s3.bI with
        |true=>exact⟨0,_,fun m _=>by show (if _ then _ else _)=_;rw[if_neg (by simp[hb])]⟩
        |false =>
          obtain⟨n,y,h⟩:=lo s3 (by subst e3;omega) (.blockL (l++[t])) trivial;exact⟨n,y,fun m hm=>by show (if _ then _ else _)=_;rw[if_pos (by simp[hb])];exact h m hm⟩
  have block:∀s:PS,s.len<=L->Tm fun n=>pM e n .block s:=fun s hs =>
    (blockL [] _ (Nat.le_trans (eo e 7 [123] s) hs)).succ fun n=>by rw[pM]
  have lt:∀a (s:PS),s.len<=L->Tm fun n=>pM e n (.lt a) s:=by
    intro a s hs;have hl0:(ck e 6 [61] (bZ e s).2).len<=L:=Nat.le_trans (eo _ _ _ _) (Nat.le_trans (lz e s).1 hs);refine((expr _ hl0).then (f:=fun n v s1=>match bE 4 [JO] s1 with
    |(some _,s2)=>dY (pM e n .expr s2) fun w s3=>some (.mk 7 (bZ e s).1 [v,w],s3)
    |(none,s2)=>some (.mk 7 (bZ e s).1 [v],if a then s2 else cB e s2)) fun t s1 hl=>?_).succ fun n=>by rw[pM]<;>rfl
    rcases h2:bE 4 [JO] s1 with ⟨o,s2⟩
    cases o with
    |none=>simp only[h2];exact eI _
    |some x=>simp only[h2];exact(expr s2 (by have:=ct h2;omega)).then fun w s3 _=>eI _
  have fn:∀s:PS,s.len<=L->Tm fun n=>pM e n .fn s:=by
    intro s hs
    rcases h2:bE 6 [[44]] (bZ e s).2 with ⟨o,s2⟩
    have hn:=(lz e s).1;cases o with
    |some x=>exact((lo s2 (by have:=ct h2;omega) .fn trivial).then fun t s' _=>eI (.mk 8 (bZ e s).1 [t],s')).succ fun n=>by rw[pM,h2]
    |none=>exact((expr (ck e 6 [45,62] s2) (by have:=eo e 6 [45,62] s2;have:=aE h2;subst this;omega)).then fun t s' _=>eI (.mk 8 (bZ e s).1 [t],s')).succ fun n=>by rw[pM,h2]
  have choice:∀s:PS,s.len<=L->Tm fun n=>pM e n .choice s:=by
    intro s hs;refine((expr s hs).then (f:=fun n a s=>dY (pM e n .block s) fun b s=>match bE 4 [Bg] (ck e 4 ke s) with
    |(some _,s)=>dY (pM e n .choice s) fun c s=>some (.mk 6 [] [a,b,c],s)
    |(none,s)=>dY (pM e n .block s) fun c s=>some (.mk 6 [] [a,b,c],s)) fun a s1 h1=>?_).succ fun n=>by rw[pM]<;>rfl
    refine(block s1 (by omega)).then (f:=fun n b s=>match bE 4 [Bg] (ck e 4 ke s) with
    |(some _,s)=>dY (pM e n .choice s) fun c s=>some (.mk 6 [] [a,b,c],s)
    |(none,s)=>dY (pM e n .block s) fun c s=>some (.mk 6 [] [a,b,c],s)) fun b s2 h2=>?_
    have hm:=eo e 4 ke s2
    rcases h3:bE 4 [Bg] (ck e 4 ke s2) with ⟨o,s3⟩
    cases o with
    |some x=>simp only[h3];exact(lo s3 (by have:=ct h3;omega) .choice trivial).then fun w s3 _=>eI _
    |none=>simp only[h3];exact(block s3 (by have:=aE h3;subst this;omega)).then fun w s3 _=>eI _
  have argL:∀t (s:PS),s.len<=L->Tm fun n=>pM e n (.argL t) s:=by
    intro t s hs;refine((expr s hs).then (f:=fun n a s=>match bE 6 [[44]] s with
    |(some _,s)=>pM e n (.argL (.mk 9 [] [t,a])) s
    |(none,s)=>pM e n (.callL (.mk 9 [] [t,a])) (ck e 8 [41] s)) fun a s1 h1=>?_).succ fun n=>by rw[pM]<;>rfl
    rcases h2:bE 6 [[44]] s1 with ⟨o,s2⟩
    cases o with
    |some x=>simp only[h2];exact lo s2 (by have:=ct h2;omega) _ trivial
    |none=>simp only[h2];exact callL _ _ (by have:=eo e 8 [41] s2;have:=aE h2;subst this;omega)
  intro s hs j hj;cases j with
  |stmt=>exact stmt s hs
  |expr=>exact expr s hs
  |lt a=>exact lt a s hs
  |choice=>exact choice s hs
  |fn=>exact fn s hs
  |block=>exact block s hs
  |blockL l=>exact blockL l s hs
  |part k=>exact part k hj s hs
  |opL k t=>exact opL k hj t s hs
  |callL t=>exact callL t s hs
  |argL t=>exact argL t s hs
  |atom=>exact atom s hs
abbrev Tok:=Int×Int×Int
def cz (s:By) (t:Tok):By:=(s.drop t.2.1.toNat).take (t.2.2.toNat-t.2.1.toNat)
def ES (s:By) (t:Tok):Bool:=decide (0<=t.2.1) && decide (t.2.2<=s.length) && decide (t.2.1<=t.2.2)
def iR:List (UInt8×UInt8):=[(110,10),(114,13),(116,9),(34,34),(92,92),(48,0)]
def Kp (c:UInt8):UInt8:=match iR.find? (fun p=>p.1 ==c) with|some p=>p.2|none=>c
def qW (t:By):UInt8:=match t[1]? with|some c=>Kp c|none=>32
def iU (x:By):List Un->List Un
  | []=>[]
  | [u]=>[(u.1,u.2.1++x,u.2.2)]
  |u::v::l=>u::iU x (v::l)
theorem sK (x:By):∀(l:List Un) (u:Un),iU x (l++[u])=l++[(u.1,u.2.1++x,u.2.2)]
  | [],_=>rfl
  | [a],u=>rfl
  |a::b::l,u=>by
    show a::iU x ((b::l)++[u])=_
    rw[sK x (b::l) u];rfl
theorem xh (x:By):∀l:List Un,(iU x l).length=l.length
  | []=>rfl
  | [_]=>rfl
  |_::b::l=>by show (iU x (b::l)).length+1=_;rw[xh x (b::l)];rfl
inductive UR where
  |er (at_ e:Int)
  |go (out:List Un) (op:Bool)
def js (s:By) (out:List Un) (op:Bool) (t:Tok):UR :=
  if t.1=0 then .er t.2.1 10
  else if op then
    if t.1=9/\cz s t=[34] then .go out false
    else if t.1=10 then .go (iU [qW (cz s t)] out) true
    else .go (iU (cz s t) out) true
  else if t.1=1\/t.1=2\/t.1=11 then .go out false
  else if out.length=500 then .er t.2.1 3
  else .go (out++[(t.1,if t.1=9 then [] else cz s t,t.2.1)]) (decide (t.1=9))
def j9 (s:By):List Tok->List Un->Bool->UR
  | [],out,op=>.go out op
  |t::l,out,op=>match js s out op t with
    |.er a e=>.er a e
    |.go out op=>j9 s l out op
def ie (s:By) (l:List Tok) (m:Int):(Int×Int) ⊕ List Un :=
  if l.all (ES s) then match j9 s l [] false with
    |.er a e=>.inl (a,e)
    |.go out op=>if op\/m≠0 then .inl (s.length,10) else .inr out
  else .inl (0,2)
def dG (e:Int):Nat->List Tr->PS->Option (List Tr×PS)
  | 0,_,_=>none
  |n+1,l,s=>if s.len=0 then some (l,s) else (pM e n .stmt s).bind fun p=>match bE 6 [[59]] p.2 with
    |(some _,s2)=>dG e n (l++[p.1]) s2
    |(none,s2)=>dG e n (l++[p.1]) (if s2.len=0 then s2 else cB e s2)
theorem Al (e:Int):∀(L:Nat) (s:PS),s.len<=L->∀l,∃n y,∀m,n<=m->dG e m l s=some y:=by
  intro L
  induction L with
  |zero =>
    intro s hs l
    exact⟨1,(l,s),fun m hm=>by
      obtain⟨m,rfl⟩:∃k,m=k+1:=⟨m-1,by omega⟩
      rw[dG,if_pos (by omega)]⟩
  |succ L ih =>
    intro s hs l
    by_cases h0:s.len=0
    · exact ih s (by omega) l
    obtain⟨n,⟨t,s1⟩,h1⟩:=HS e _ s (Nat.le_refl _) .stmt trivial;have h1:∀m,n<=m->pM e m .stmt s=some (t,s1):=h1;have hl:=iz (h1 n (Nat.le_refl _))
    rcases h2:bE 6 [[59]] s1 with ⟨o,s2⟩
    cases o with
    |some x =>
      obtain⟨n2,y,h3⟩:=ih s2 (by have:=ct h2;omega) (l++[t]);refine⟨max n n2+1,y,fun m hm=>?_⟩;obtain⟨m,rfl⟩:∃k,m=k+1:=⟨m-1,by omega⟩
      rw[dG,if_neg h0,h1 m (by omega)];simp only[Option.bind_some,h2];exact h3 m (by omega)
    |none =>
      have e2:=aE h2
      have hle:(if s2.len=0 then s2 else cB e s2).len<=L:=by
        split
        · omega
        · rw[zg];omega
      obtain⟨n2,y,h3⟩:=ih _ hle (l++[t]);refine⟨max n n2+1,y,fun m hm=>?_⟩;obtain⟨m,rfl⟩:∃k,m=k+1:=⟨m-1,by omega⟩
      rw[dG,if_neg h0,h1 m (by omega)];simp only[Option.bind_some,h2];exact h3 m (by omega)
inductive cU (s:By) (l:List Tok) (m:Int):List Tr->Int->Int->Prop where
  |units {a e:Int}:ie s l m= .inl (a,e)->cU s l m [] a e
  |bad {u:List Un}{n:Nat}{k:List Tr}{a:Int}:ie s l m= .inr u->dG s.length n [] (.ok u)=some (k,.bad a)->cU s l m [] a 10
  |ok {u:List Un}{n:Nat}{k:List Tr}{r:List Un}:ie s l m= .inr u->dG s.length n [] (.ok u)=some (k,.ok r)->cU s l m k 0 0
theorem yu (s:By) (l:List Tok) (m:Int):∃k a e,cU s l m k a e:=by
  rcases h:ie s l m with ⟨a,e⟩|u
  · exact⟨_,_,_,.units h⟩
  · obtain⟨n,⟨k,r⟩,h2⟩:=Al s.length _ (.ok u) (Nat.le_refl _) [];have h2:=h2 n (Nat.le_refl _);cases r with
    |ok r=>exact⟨_,_,_,.ok h h2⟩
    |bad a=>exact⟨_,_,_,.bad h h2⟩
def Tr.dep:Tr->Nat
  |.mk _ _ l=>depL l+1
where depL:List Tr->Nat
  | []=>0
  |t::l=>max t.dep (depL l)
theorem E6 {t:By}{l:List Tr}{x:Tr}(h:x∈l):x.dep<(Tr.mk k t l).dep:=by
  show x.dep<Tr.dep.depL l+1
  have:x.dep<=Tr.dep.depL l:=by
    induction l with
    |nil=>simp at h
    |cons a l ih =>
      show x.dep<=max a.dep (Tr.dep.depL l)
      rcases List.mem_cons.1 h with rfl|h
      · omega
      · have:=ih h;omega
  omega
end
mutual
def Nq:Tr->Tr->Bool
  |.mk k t l,.mk k' t' l'=>decide (k=k') && (decide (t=t') && Ld l l')
def Ld:List Tr->List Tr->Bool
  | [],[]=>true
  |a::l,b::l'=>Nq a b && Ld l l'
  | [],_::_=>false
  |_::_,[]=>false
end
section
variable {k e:Int}
def fQ (c:UInt8):By:=match iR.find? (fun p=>p.2 ==c) with|some p=>[92,p.1] |none=>[c]
def Ah (s:By):By:=34::(s.flatMap fQ++[34])
def gU:List By->By
  | []=>[]
  | [x]=>x
  |x::y::l=>x++([59,32]++gU (y::l))
def tQ (k:List By):By:=[105,102,32]++k.getD 0 []++[32]++k.getD 1 []++[32,101,108,115,101,32]++k.getD 2 []
def uW (k:Int) (t:By) (l:List By):By :=
  if k=1 then Ah t
  else if k=4 then [40]++t++[32]++l.getD 0 []++[41]
  else if k=5 then [40]++l.getD 0 []++[32]++t++[32]++l.getD 1 []++[41]
  else if k=6 then [40]++tQ l++[41]
  else if k=7 then (if l.length=1 then [108,101,116,32]++t++[32,61,32]++l.getD 0 [] else [40,108,101,116,32]++t++[32,61,32]++l.getD 0 []++[32,105,110,32]++l.getD 1 []++[41])
  else if k=8 then [40,102,117,110,32]++t++[32,45,62,32]++l.getD 0 []++[41]
  else if k=9 then l.getD 0 []++[40]++l.getD 1 []++[41]
  else if k=10 then [123,32]++gU l++[32,125]
  else t
end
mutual
def bh:Bool->Tr->By
  |bare,.mk k t l=>if k=6/\bare=true then tQ (gQ (decide (k=6)) 0 l) else uW k t (gQ (decide (k=6)) 0 l)
def gQ:Bool->Nat->List Tr->List By
  |_,_,[]=>[]
  |six,i,x::l=>bh (six && decide (i=2)) x::gQ six (i+1) l
end
section
variable {k e:Int}
def dN (c:UInt8):Bool:=decide (48<=c) && decide (c<=57)
def isLet (c:UInt8):Bool:=(decide (97<=c) && decide (c<=122)) ||((decide (65<=c) && decide (c<=90)) ||decide (c=95))
def cC (s:By):By:=s.dropWhile dN
def eF (s:By):Bool:=decide ((cC s).length<s.length)
def oM (s:By) (ok:Bool):Bool:=match s with
  |c::r=>if ok=true/\(c=101\/c=69) then
      (match r with
       |d::r'=>if d=43\/d=45 then eF r' && decide (cC r'=[]) else eF r && decide (cC r=[])
       | []=>false)
    else false
  | []=>ok
def tX (s:By):Bool:=match cC s with
  |c::r=>if eF s=true/\c=46 then oM (cC r) (eF r) else oM (c::r) (eF s)
  | []=>eF s
def cY (word:By->Bool) (s:By):Bool :=
  (match s with| []=>false|c::r=>isLet c && r.all fun c=>isLet c ||dN c) && !word s
def G6:List By:=[[45],kI]
def pF:List By:=[rO,kJ,[61,61],[33,61],[60],[60,61],[62],[62,61],[43],[45],[42],[47],[37]]
def dZ (word:By->Bool) (k:Int) (t:By):Bool :=
  if k=0 then tX t
  else if k=1 then decide (t.length<=16384)
  else if k=2 then decide (t=kY) ||decide (t=pK)
  else if k=3\/k=7\/k=8 then cY word t
  else if k=4 then decide (t∈G6)
  else if k=5 then decide (t∈pF)
  else decide (t=[])
def cw (k:Int):Nat×Nat :=
  if k=4\/k=8 then (1,1) else if k=5\/k=9 then (2,2) else if k=6 then (3,3) else if k=7 then (1,2) else if k=10 then (1,500) else (0,0)
def eH (word:By->Bool) (k:Int) (t:By) (n:Nat):Bool :=
  decide ((cw k).1<=n) && (decide (n<=(cw k).2) && (decide (0<=k) && (decide (k<=10) && dZ word k t)))
def gJ (k:Int) (i:Nat):Tr->Bool
  |.mk k' _ l=>(decide (k=10) ||(decide (k'≠7) ||decide (l.length=2))) && (decide (k≠6) ||(decide (i=0) ||(decide (k'=10) ||(decide (i≠1) && decide (k'=6)))))
end
mutual
def bq (word:By->Bool):Tr->Bool
  |.mk k t l=>eH word k t l.length && gq word k 0 l
def gq (word:By->Bool) (k:Int):Nat->List Tr->Bool
  |_,[]=>true
  |i,x::l=>(bq word x && gJ k i x) && gq word k (i+1) l
end
mutual
def Tr.wt:Tr->Nat
  |.mk _ t l=>2*t.length+20+mO l
def mO:List Tr->Nat
  | []=>0
  |x::l=>x.wt+mO l
end
section
variable {k e:Int}
theorem oe {l:List Tr}{x:Tr}(h:x∈l):x.wt<=mO l:=by
  induction l with
  |nil=>cases h
  |cons a l ih =>
    rw[mO]
    rcases List.mem_cons.1 h with rfl|h
    · omega
    · have:=ih h;omega
theorem rM {t:By}{l:List Tr}{x:Tr}(h:x∈l):x.wt+20<=(Tr.mk k t l).wt:=by
  rw[Tr.wt];have:=oe h;omega
theorem Eo (k:Int) (t:By) (l:List Tr):2*t.length+20<=(Tr.mk k t l).wt:=by rw[Tr.wt];omega
def tU (l:List By):Nat:=(l.map List.length).sum
theorem vT:∀l:List By,(gU l).length<=tU l+2*l.length
  | []=>by simp[gU]
  | [x]=>by simp[gU,tU]
  |x::y::l=>by
    have:=vT (y::l);rw[gU];simp only[List.length_append,List.length_cons,List.length_nil,tU,List.map_cons,List.sum_cons] at *;omega
theorem Cu (l:List By):(l.getD 0 []).length+(l.getD 1 []).length+(l.getD 2 []).length<=tU l:=by
  match l with
  | []=>simp
  | [a]=>simp[tU]
  | [a,b]=>simp[tU]
  |a::b::c::l=>simp[tU];omega
theorem FR (c:UInt8):(fQ c).length<=2:=by unfold fQ;split<;>simp
theorem FQ (s:By):(Ah s).length<=2*s.length+2:=by
  unfold Ah;simp only[List.length_cons,List.length_append,List.length_nil]
  have:(s.flatMap fQ).length<=2*s.length:=by
    induction s with
    |nil=>simp
    |cons c s ih=>rw[List.flatMap_cons,List.length_append,List.length_cons];have:=FR c;omega
  omega
theorem HA (k:Int) (t:By) (l:List By):(uW k t l).length<=2*t.length+18+2*l.length+tU l:=by
  have h1:=FQ t;have h2:=Cu l;have h3:=vT l;unfold uW tQ
  repeat' split
  all_goals ((try simp only[List.length_append,List.length_cons,List.length_nil]);omega)
theorem Jn (l:List By):(tQ l).length<=18+tU l:=by
  have h2:=Cu l;unfold tQ;simp only[List.length_append,List.length_cons,List.length_nil];omega
theorem lW:∀(l:List Tr) (s:Bool) (i:Nat),(gQ s i l).length=l.length
  | [],_,_=>by rw[gQ];rfl
  |_::l,s,i=>by rw[gQ,List.length_cons,lW l];rfl
end
mutual
theorem jA:∀(x:Tr) (b:Bool),(bh b x).length+2<=x.wt
  |.mk k t l,b=>by
    have h1:=qy l (decide (k=6)) 0;have h2:=HA k t (gQ (decide (k=6)) 0 l);have h3:=Jn (gQ (decide (k=6)) 0 l);have h4:=lW l (decide (k=6)) 0;rw[bh,Tr.wt];split<;>omega
theorem qy:∀(l:List Tr) (s:Bool) (i:Nat),tU (gQ s i l)+2*l.length<=mO l
  | [],_,_=>by rw[gQ];simp[tU,mO]
  |x::l,s,i=>by
    have h1:=jA x (s && decide (i=2));have h2:=qy l s (i+1);rw[gQ,mO];simp only[tU,List.map_cons,List.sum_cons,List.length_cons] at *;omega
end
section
variable {k e:Int}
def EM (j:Nat) (c:UInt8):Bool:=isLet c ||(decide (j≠0) && dN c)
def B4 (s:By):Bool:=match s with| []=>false|c::r=>isLet c && r.all fun c=>isLet c ||dN c
theorem yQ (word:By->Bool) (s:By):cY word s=(B4 s && !word s):=by cases s<;>rfl
theorem yP (s:By):B4 s=true↔s≠[]/\∀j c,s[j]? =some c->EM j c=true:=by
  cases s with
  |nil=>simp[B4]
  |cons c r =>
    simp only[B4,Bool.and_eq_true,List.all_eq_true];constructor
    · intro ⟨h1,h2⟩;refine⟨by simp,fun j d hd=>?_⟩;cases j with
      |zero=>simp at hd;subst hd;unfold EM;rw[h1];rfl
      |succ j =>
        have:=h2 d (List.mem_of_getElem? (by simpa using hd));unfold EM;simpa using this
    · intro ⟨_,h⟩;refine⟨by simpa [EM] using h 0 c rfl,fun d hd=>?_⟩;obtain⟨j,hj⟩:=List.getElem?_of_mem hd;simpa [EM] using h (j+1) d (by simpa using hj)
theorem Ih (word:By->Bool){s:By}{j:Nat}{c:UInt8}(h:s[j]? =some c) (hc:EM j c=false):cY word s=false:=by
  rw[yQ]
  have:¬B4 s=true:=fun q=>by
    have:=((yP s).1 q).2 j c h;rw[hc] at this;cases this
  rw[Bool.eq_false_iff.2 this];rfl
theorem F6 (word:By->Bool){s:By}(h0:s≠[]) (h:∀j c,s[j]? =some c->EM j c=true):cY word s= !word s:=by
  rw[yQ,(yP s).2 ⟨h0,h⟩,Bool.true_and]
theorem F0 (word:By->Bool):cY word []=false:=rfl
theorem Gi (c:UInt8):isLet c=decide ((97<=c.toNat/\c.toNat<=122)\/(65<=c.toNat/\c.toNat<=90)\/c.toNat=95):=by
  have k:∀n:Fin 256,isLet (UInt8.ofFin n)=decide ((97<=(UInt8.ofFin n).toNat/\(UInt8.ofFin n).toNat<=122)\/(65<=(UInt8.ofFin n).toNat/\(UInt8.ofFin n).toNat<=90)\/(UInt8.ofFin n).toNat=95):=by unfold isLet;decide +kernel
  exact k c.toFin
theorem Gj (c:UInt8):dN c=decide (48<=c.toNat/\c.toNat<=57):=by
  have k:∀n:Fin 256,dN (UInt8.ofFin n)=decide (48<=(UInt8.ofFin n).toNat/\(UInt8.ofFin n).toNat<=57):=by unfold dN;decide +kernel
  exact k c.toFin
end
end Go.Proofs.YtdgckfkoihcmjaaGreatDoor
namespace Go.Proofs.YtdgckfkoihcmjaaGreatDoor
open Go Go.Lw
section
variable {h:ai}{O:Nat->Prop}{cs:List Value}
def C9 (s q:Nat):Nat:=(s >>> (64*q))%2 ^ 64
def eP (s q:Nat):Value:=.int .u64 (C9 s q:Nat)
def wE (s:Nat):List Value:=[eP s 0,eP s 1,eP s 2,eP s 3]
theorem C8 (s q:Nat):C9 s q<18446744073709551616:=Nat.mod_lt _ (by decide)
theorem lS (s q i:Nat):(C9 s q).testBit i=(decide (i<64) && s.testBit (64*q+i)):=by
  unfold C9;rw[Nat.testBit_mod_two_pow,Nat.testBit_shiftRight]
theorem GY (s b:Nat) (q:Nat) (h:q≠b / 64):C9 (s |||(1 <<< b)) q=C9 s q:=by
  apply Nat.eq_of_testBit_eq
  intro i;rw[lS,lS,Nat.testBit_or,Nat.one_shiftLeft,Nat.testBit_two_pow]
  by_cases hi:i<64
  · have:b≠64*q+i:=by omega
    simp[this]
  · simp[hi]
theorem GX (s b:Nat):C9 (s |||(1 <<< b)) (b / 64)=C9 s (b / 64) ||| 2 ^ (b%64):=by
  apply Nat.eq_of_testBit_eq
  intro i;rw[lS,Nat.testBit_or,Nat.testBit_or,lS,Nat.one_shiftLeft,Nat.testBit_two_pow,Nat.testBit_two_pow]
  by_cases hi:i<64
  · have:(b=64*(b / 64)+i)↔(b%64=i):=by omega
    simp[hi,this]
  · have:¬b%64=i:=by omega
    simp[hi,this]
theorem og {i:Int}(h:0<=i/\i<=18446744073709551615):IntKind.u64.wrap i=i:=by
  have h64:(2:Int) ^ 64=18446744073709551616:=rfl;simp only[IntKind.wrap,IntKind.bits,IntKind.signed,h64,Bool.false_and,Bool.false_eq_true,if_false];omega
theorem Py {x y:Nat}(hx:x<18446744073709551616) (hy:y<18446744073709551616):IntKind.u64.wrap ((BitVec.ofInt IntKind.u64.bits (x:Int) |||BitVec.ofInt IntKind.u64.bits (y:Int)).toNat:Int)=((x |||y:Nat):Int):=by
  have e:(BitVec.ofInt IntKind.u64.bits (x:Int) |||BitVec.ofInt IntKind.u64.bits (y:Int)).toNat=x |||y:=by
    rw[BitVec.toNat_or]
    have h1:(BitVec.ofInt IntKind.u64.bits (x:Int)).toNat=x:=by
      show (BitVec.ofInt 64 (x:Int)).toNat=x
      simp only[BitVec.toNat_ofInt];omega
    have h2:(BitVec.ofInt IntKind.u64.bits (y:Int)).toNat=y:=by
      show (BitVec.ofInt 64 (y:Int)).toNat=y
      simp only[BitVec.toNat_ofInt];omega
    rw[h1,h2]
  rw[e];have:x |||y<2 ^ 64:=Nat.or_lt_two_pow hx hy;exact og ⟨by omega,by omega⟩
theorem Np (b:Nat):IntKind.u64.wrap (1*2 ^ min ((b%64:Nat):Int).toNat IntKind.u64.bits)=((2 ^ (b%64):Nat):Int):=by
  have hb:b%64<64:=Nat.mod_lt _ (by decide);have h1:min ((b%64:Nat):Int).toNat IntKind.u64.bits=b%64:=by show min _ 64=_;simp;omega
  rw[h1,Int.one_mul];have h2:2 ^ (b%64)<2 ^ 64:=Nat.pow_lt_pow_right (by decide) hb;have h3:((2:Int) ^ (b%64))=((2 ^ (b%64):Nat):Int):=by push_cast;rfl
  rw[h3];generalize 2 ^ (b%64)=p at *;exact og ⟨by omega,by omega⟩
theorem PT {x:Nat}(hx:x<18446744073709551616):IntKind.u64.wrap ((BitVec.ofInt IntKind.u64.bits (x:Int) &&& BitVec.ofInt IntKind.u64.bits 1).toNat:Int)=((x%2:Nat):Int):=by
  have e:(BitVec.ofInt IntKind.u64.bits (x:Int) &&& BitVec.ofInt IntKind.u64.bits 1).toNat=x%2:=by
    rw[BitVec.toNat_and]
    have h1:(BitVec.ofInt IntKind.u64.bits (x:Int)).toNat=x:=by
      show (BitVec.ofInt 64 (x:Int)).toNat=x
      simp only[BitVec.toNat_ofInt];omega
    rw[h1]
    show x &&& 1=_
    exact Nat.and_one_is_mod x
  rw[e];exact og ⟨by omega,by omega⟩
theorem No (x:Nat) (b:Nat) (hb:b<64):((x:Int)).fdiv (2 ^ min ((b:Nat):Int).toNat IntKind.u64.bits)=((x >>> b:Nat):Int):=by
  have h1:min ((b:Nat):Int).toNat IntKind.u64.bits=b:=by show min _ 64=_;simp;omega
  rw[h1,Nat.shiftRight_eq_div_pow];have h3:((2:Int) ^ b)=((2 ^ b:Nat):Int):=by push_cast;rfl
  rw[h3,Int.fdiv_eq_ediv_of_nonneg _ (Int.natCast_nonneg _)]
  push_cast;rfl
theorem JI (s b:Nat):(C9 s (b / 64) >>> (b%64))%2=(s.testBit b).toNat:=by
  have h:=lS s (b / 64) (b%64);rw[show 64*(b / 64)+b%64=b from Nat.div_add_mod b 64] at h;have hb:b%64<64:=Nat.mod_lt _ (by decide);simp only[hb,decide_true,Bool.true_and] at h;rw[Nat.shiftRight_eq_div_pow,<-Nat.toNat_testBit,h]
def dK (k s:Nat) (v:Value):List Value:=[.int .i64 k,eP s 0,eP s 1,eP s 2,eP s 3,v]
inductive bD (h:ai) (O:Nat->Prop):List Value->Nd->Prop
  |mk (k s:Nat) (kids:List Nd) (oa:Option Addr) (n c:Nat) (css:Nat->List Value) (hl:kids.length=n) (hc:n<=c) (hm:c<=maxLen)
      (hr:∀i x,kids[i]? =some x->∃b o,oa=some ⟨b,o,none⟩/\¬O b/\Lw.rowAt h b (o+i*6) (css i)) (hk:∀i x,kids[i]? =some x->bD h O (css i) x):bD h O (dK k s (.slice oa n c)) (.mk k s kids)
theorem bD.len {x:Nd}(k:bD h O cs x):cs.length=6:=by cases k;rfl
theorem bD.one {x:Nd}(k:bD h O cs x):∀v∈cs,v.oneCell'=true:=by
  cases k;intro v hv;simp[dK,eP] at hv
  rcases hv with rfl|rfl|rfl|rfl|rfl|rfl<;>rfl
theorem bD.mv {h':ai}{O':Nat->Prop}{x:Nd}(k:bD h O cs x) (m:Mv O O' h h'):bD h' O' cs x:=by
  induction k with
  |mk k s kids oa n c css hl hc hm hr hk ih =>
    refine .mk k s kids oa n c css hl hc hm (fun i x hx=>?_) ih;obtain⟨b,o,ha,ho,hrow⟩:=hr i x hx;have hne:css i≠[]:=by intro e;have:=(hk i x hx).len;rw[e] at this;cases this
    exact⟨b,o,ha,(m.block b (dL hrow hne) ho).2,m.rowAt ho hrow⟩
def tF:gN Nd:=⟨6,by decide,bD,bD.len,bD.one,bD.mv⟩
theorem bD.ah {h h':ai}{O:Nat->Prop}{cs:List Value}{x:Nd}(k:bD h O cs x) (e:aj h h'):bD h' O cs x:=k.mv (Mv.ah e)
theorem bD.of {v:Value}{kids:List Nd}(k s:Nat) (hv:aZ tF h O v kids):bD h O (dK k s v) (.mk k s kids):=by
  obtain⟨oa,n,c,rfl,hl,hc,hm,hg⟩:=hv
  have hx:∀i,i<n->∃cs:List Value,∃x,kids[i]? =some x/\(∃b o,oa=some ⟨b,o,none⟩/\¬O b/\Lw.rowAt h b (o+i*6) cs)/\bD h O cs x:=by
    intro i hi;obtain⟨b,o,cs,h1,h2,h3,h4⟩:=hg i kids[i] (List.getElem?_eq_getElem (by omega));exact⟨cs,kids[i],List.getElem?_eq_getElem (by omega),⟨b,o,h1,h2,h3⟩,h4⟩
  refine .mk k s kids oa n c (fun i=>if hi:i<n then Classical.choose (hx i hi) else []) hl hc hm (fun i x hxi=>?_) (fun i x hxi=>?_)
  · have hi:i<n:=by rw[<-hl];exact(List.getElem?_eq_some_iff.1 hxi).1
    simp only[dif_pos hi];obtain⟨y,_,h2,_⟩:=Classical.choose_spec (hx i hi);exact h2
  · have hi:i<n:=by rw[<-hl];exact(List.getElem?_eq_some_iff.1 hxi).1
    simp only[dif_pos hi];obtain⟨y,h1,_,h3⟩:=Classical.choose_spec (hx i hi);rw[h1] at hxi;cases hxi;exact h3
theorem bD.open {x:Nd}(k:bD h O cs x):∃v,cs=dK x.kind x.set v/\aZ tF h O v x.kids:=by
  cases k with
  |mk k s kids oa n c css hl hc hm hr hk =>
    exact⟨_,rfl,oa,n,c,rfl,hl,hc,hm,fun i x hx=>by
      obtain⟨b,o,h1,h2,h3⟩:=hr i x hx;exact⟨b,o,css i,h1,h2,h3,hk i x hx⟩⟩
def bs (l:List UInt8):ByteArray:=⟨l.toArray⟩
theorem gj (l:List UInt8):(bs l).data.toList=l:=by simp[bs]
theorem N5 (s:ByteArray):bs s.data.toList=s:=by simp[bs]
theorem aK (l:List UInt8):(bs l).size=l.length:=by simp[bs,ByteArray.size]
theorem cL (l m:List UInt8):bs l++bs m=bs (l++m):=by
  apply ByteArray.ext
  simp[bs]
theorem bu {l m:List UInt8}(h:bs l=bs m):l=m:=by have:=congrArg (fun x=>x.data.toList) h;simpa [bs] using this
theorem Lr (l m:List UInt8):decide (bs l=bs m)=decide (l=m):=by
  rw[decide_eq_decide];exact⟨bu,fun h=>by rw[h]⟩
theorem AW (l:List UInt8):decide (bs l=(⟨#[]⟩:ByteArray))=decide (l=[]):=Lr l []
theorem ic {l:List UInt8}{i:Nat}{c:UInt8}(h:l[i]? =some c):(bs l).data[i]? =some c:=by simpa [bs] using h
theorem oD (l:List UInt8) (i:Nat):(bs l).extract i (bs l).size=bs (l.drop i):=by
  apply ByteArray.ext
  apply Array.ext'
  rw[ByteArray.data_extract,Array.toList_extract,List.extract_eq_take_drop];rw[aK];simp only[bs];exact List.take_of_length_le (by simp)
theorem uy (l:List UInt8) (i j:Nat) (_h:i<=j):(bs l).extract i j=bs ((l.take j).drop i):=by
  apply ByteArray.ext
  apply Array.ext'
  rw[ByteArray.data_extract,Array.toList_extract,List.extract_eq_take_drop];simp only[bs];rw[List.drop_take]
theorem M3 (c d:UInt8):decide (((c.toNat:Nat):Int)≠((d.toNat:Nat):Int))=decide (c≠d):=by
  rw[decide_eq_decide];exact⟨fun h e=>h (by rw[e]),fun h e=>h (UInt8.toNat_inj.1 (by omega))⟩
theorem K5 (c d:UInt8):decide (((c.toNat:Nat):Int)=((d.toNat:Nat):Int))=decide (c=d):=by
  rw[decide_eq_decide];exact⟨fun e=>UInt8.toNat_inj.1 (by omega),fun e=>by rw[e]⟩
theorem cS {c:UInt8}{k:Nat}{d:UInt8}(hd:d.toNat=k):(((c.toNat:Nat):Int)=(k:Int))↔c=d:=by
  subst hd;exact⟨fun e=>UInt8.toNat_inj.1 (by omega),fun e=>by rw[e]⟩
end
end Go.Proofs.YtdgckfkoihcmjaaGreatDoor
