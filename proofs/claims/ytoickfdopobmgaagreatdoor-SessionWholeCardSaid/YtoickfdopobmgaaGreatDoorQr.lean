/- What the proof of the statement leans on (part 18). -/
import Derived.Test.YtoickfdopobmgaaGreatDoorRows
import Derived.Test.YtoickfdopobmgaaGreatDoorQq

namespace Go.Proofs.YtoickfdopobmgaaGreatDoor.H
open Go Go.Lw
theorem Pz:aS Tryz.prog 107=some false:=by kernel_rfl
theorem Py:aS Tryz.prog 118=some false:=by kernel_rfl
theorem Px:aS Tryz.prog 121=some false:=by kernel_rfl
theorem Pw:aS Tryz.prog 122=some false:=by kernel_rfl
theorem Pu:aS Tryz.prog 123=some true:=by kernel_rfl
theorem Mg:aS Tryz.prog 124=some false:=by kernel_rfl
theorem zQ:aS Tryz.prog 126=some true:=by kernel_rfl
theorem Pt:aS Tryz.prog 132=some true:=by kernel_rfl
theorem Pr:aS Tryz.prog 136=some false:=by kernel_rfl
theorem Mf:aS Tryz.prog 138=some true:=by kernel_rfl
theorem Pq:aS Tryz.prog 141=some false:=by kernel_rfl
theorem Pp:aS Tryz.prog 147=some true:=by kernel_rfl
theorem Po:aS Tryz.prog 163=some true:=by kernel_rfl
theorem Sn:aS Tryz.prog 2=some false:=by kernel_rfl
theorem Me:aS Tryz.prog 209=some true:=by kernel_rfl
theorem Pn:aS Tryz.prog 210=some true:=by kernel_rfl
theorem Nu:aS Tryz.prog 22=some false:=by kernel_rfl
theorem Pm:aS Tryz.prog 267=some false:=by kernel_rfl
theorem Pk:aS Tryz.prog 283=some true:=by kernel_rfl
theorem NO:aS Tryz.prog 3=some false:=by kernel_rfl
theorem Q0:aS Tryz.prog 30=some true:=by kernel_rfl
theorem QZ:aS Tryz.prog 37=some false:=by kernel_rfl
theorem QY:aS Tryz.prog 39=some true:=by kernel_rfl
theorem Sk:aS Tryz.prog 4=some false:=by kernel_rfl
theorem Pj:aS Tryz.prog 40=some false:=by kernel_rfl
theorem Ph:aS Tryz.prog 42=some true:=by kernel_rfl
theorem QX:aS Tryz.prog 45=some false:=by kernel_rfl
theorem Sj:aS Tryz.prog 5=some false:=by kernel_rfl
theorem Pg:aS Tryz.prog 52=some true:=by kernel_rfl
theorem QW:aS Tryz.prog 53=some false:=by kernel_rfl
theorem QV:aS Tryz.prog 57=some true:=by kernel_rfl
theorem Nt:aS Tryz.prog 60=some false:=by kernel_rfl
theorem QU:aS Tryz.prog 72=some false:=by kernel_rfl
theorem Pf:aS Tryz.prog 75=some false:=by kernel_rfl
theorem QT:aS Tryz.prog 79=some false:=by kernel_rfl
theorem QS:aS Tryz.prog 87=some true:=by kernel_rfl
theorem Ns:aS Tryz.prog 9=some false:=by kernel_rfl
theorem QO:aS Tryz.prog 90=some false:=by kernel_rfl
theorem Nr  : Tryz.prog.built 103 []=some #[.int .i64 (0)]:=by kernel_rfl
theorem Nq  : Tryz.prog.built 120 []=some #[.slice none 0 0,.int .i64 (0)]:=by kernel_rfl
theorem EN  : Tryz.prog.built 126 []=some #[.int .i64 (0),.int .u64 (0),.int .u64 (0),.int .u64 (0),.int .u64 (0),.slice none 0 0]:=by kernel_rfl
theorem sE (a0:Int) (a2:Option Addr) (n2 c2:Nat):Tryz.prog.built 126 [(0,.int .i64 a0),(2,.slice a2 n2 c2)]=some #[.int .i64 a0,.int .u64 (0),.int .u64 (0),.int .u64 (0),.int .u64 (0),.slice a2 n2 c2]:=by kernel_rfl
theorem FV (a0:Int):Tryz.prog.built 126 [(0,.int .i64 a0)]=some #[.int .i64 a0,.int .u64 (0),.int .u64 (0),.int .u64 (0),.int .u64 (0),.slice none 0 0]:=by kernel_rfl
theorem J8  : Tryz.prog.built 132 []=some #[.int .i64 (0),.int .u64 (0),.int .u64 (0),.int .u64 (0),.int .u64 (0),.slice none 0 0,.int .i64 (0)]:=by kernel_rfl
theorem Dd (a0:Int) (a1_0 a1_1 a1_2 a1_3:Value) (a2:Option Addr) (n2 c2:Nat):Tryz.prog.built 132 [(0,.int .i64 a0),(1,.agg #[a1_0,a1_1,a1_2,a1_3]),(2,.slice a2 n2 c2)]=some #[.int .i64 a0,a1_0,a1_1,a1_2,a1_3,.slice a2 n2 c2,.int .i64 (0)]:=by kernel_rfl
theorem Hp (a0:Int) (a3:Int):Tryz.prog.built 132 [(0,.int .i64 a0),(3,.int .i64 a3)]=some #[.int .i64 a0,.int .u64 (0),.int .u64 (0),.int .u64 (0),.int .u64 (0),.slice none 0 0,.int .i64 a3]:=by kernel_rfl
theorem Bo (a2:Option Addr) (n2 c2:Nat):Tryz.prog.built 132 [(2,.slice a2 n2 c2)]=some #[.int .i64 (0),.int .u64 (0),.int .u64 (0),.int .u64 (0),.int .u64 (0),.slice a2 n2 c2,.int .i64 (0)]:=by kernel_rfl
theorem Np  : Tryz.prog.built 138 []=some #[.string ⟨#[]⟩,.int .i64 (0),.int .i64 (0)]:=by kernel_rfl
theorem J7  : Tryz.prog.built 143 []=some #[.slice none 0 0,.slice none 0 0]:=by kernel_rfl
theorem tV (a0:Int) (a1:ByteArray) (a2:Int):Tryz.prog.built 163 [(0,.int .i64 a0),(1,.string a1),(2,.int .i64 a2)]=some #[.int .i64 a0,.string a1,.int .i64 a2]:=by kernel_rfl
theorem iz  : Tryz.prog.built 186 []=some #[]:=by kernel_rfl
theorem Lm (a0:ByteArray):Tryz.prog.built 189 [(0,.string a0)]=some #[.string a0]:=by kernel_rfl
theorem J6  : Tryz.prog.built 39 []=some #[.int .i64 (0),.string ⟨#[]⟩,.slice none 0 0]:=by kernel_rfl
theorem ko (a0:Int) (a1:ByteArray):Tryz.prog.built 39 [(0,.int .i64 a0),(1,.string a1)]=some #[.int .i64 a0,.string a1,.slice none 0 0]:=by kernel_rfl
theorem kf (a0:Int) (a1:ByteArray) (a2:Option Addr) (n2 c2:Nat):Tryz.prog.built 39 [(0,.int .i64 a0),(1,.string a1),(2,.slice a2 n2 c2)]=some #[.int .i64 a0,.string a1,.slice a2 n2 c2]:=by kernel_rfl
theorem Dc (a0:Int) (a2:Option Addr) (n2 c2:Nat):Tryz.prog.built 39 [(0,.int .i64 a0),(2,.slice a2 n2 c2)]=some #[.int .i64 a0,.string ⟨#[]⟩,.slice a2 n2 c2]:=by kernel_rfl
theorem No (a0:Int):Tryz.prog.built 39 [(0,.int .i64 a0)]=some #[.int .i64 a0,.string ⟨#[]⟩,.slice none 0 0]:=by kernel_rfl
theorem dO  : Tryz.prog.built 42 []=some #[.int .i64 (0),.int .i64 (0),.string ⟨#[]⟩,.string ⟨#[]⟩,.int .i64 (0),.string ⟨#[]⟩,.slice none 0 0,.slice none 0 0]:=by kernel_rfl
theorem iS (a0:Int) (a1:Int):Tryz.prog.built 42 [(0,.int .i64 a0),(1,.int .i64 a1)]=some #[.int .i64 a0,.int .i64 a1,.string ⟨#[]⟩,.string ⟨#[]⟩,.int .i64 (0),.string ⟨#[]⟩,.slice none 0 0,.slice none 0 0]:=by kernel_rfl
theorem Db (a0:Int) (a2:ByteArray):Tryz.prog.built 42 [(0,.int .i64 a0),(2,.string a2)]=some #[.int .i64 a0,.int .i64 (0),.string a2,.string ⟨#[]⟩,.int .i64 (0),.string ⟨#[]⟩,.slice none 0 0,.slice none 0 0]:=by kernel_rfl
theorem Bn (a0:Int) (a2:ByteArray) (a4_0 a4_1 a4_2:Value) (a5:Option Addr) (n5 c5:Nat):Tryz.prog.built 42 [(0,.int .i64 a0),(2,.string a2),(4,.agg #[a4_0,a4_1,a4_2]),(5,.slice a5 n5 c5)]=some #[.int .i64 a0,.int .i64 (0),.string a2,.string ⟨#[]⟩,a4_0,a4_1,a4_2,.slice a5 n5 c5]:=by kernel_rfl
theorem Nn (a0:Int):Tryz.prog.built 42 [(0,.int .i64 a0)]=some #[.int .i64 a0,.int .i64 (0),.string ⟨#[]⟩,.string ⟨#[]⟩,.int .i64 (0),.string ⟨#[]⟩,.slice none 0 0,.slice none 0 0]:=by kernel_rfl
theorem J5 (a0:Option Addr) (a1:Option Addr) (n1 c1:Nat):Tryz.prog.built 48 [(0,.pointer a0),(1,.slice a1 n1 c1)]=some #[.pointer a0,.slice a1 n1 c1]:=by kernel_rfl
theorem Nl (a0:Option Addr):Tryz.prog.built 48 [(0,.pointer a0)]=some #[.pointer a0,.slice none 0 0]:=by kernel_rfl
theorem xw (a0:ByteArray) (a1_0 a1_1 a1_2 a1_3 a1_4 a1_5 a1_6 a1_7:Value):Tryz.prog.built 52 [(0,.string a0),(1,.agg #[a1_0,a1_1,a1_2,a1_3,a1_4,a1_5,a1_6,a1_7])]=some #[.string a0,a1_0,a1_1,a1_2,a1_3,a1_4,a1_5,a1_6,a1_7]:=by kernel_rfl
theorem sD (a0:ByteArray) (a1:ByteArray) (a2:ByteArray) (a3:ByteArray) (a4:ByteArray) (a5:ByteArray):Tryz.prog.built 54 [(0,.string a0),(1,.string a1),(2,.string a2),(3,.string a3),(4,.string a4),(5,.string a5)]=some #[.string a0,.string a1,.string a2,.string a3,.string a4,.string a5]:=by kernel_rfl
theorem Pd  : Tryz.prog.built 57 []=some #[.int .i64 (0),.int .i64 (0)]:=by kernel_rfl
theorem J4 (a0:Int) (a1:Int):Tryz.prog.built 57 [(0,.int .i64 a0),(1,.int .i64 a1)]=some #[.int .i64 a0,.int .i64 a1]:=by kernel_rfl
theorem Nk (a0:Int):Tryz.prog.built 57 [(0,.int .i64 a0)]=some #[.int .i64 a0,.int .i64 (0)]:=by kernel_rfl
theorem Pc  : Tryz.prog.built 74 []=some #[.slice none 0 0]:=by kernel_rfl
theorem Pb  : Tryz.prog.built 87 []=some #[.int .i64 (0),.int .i64 (0),.int .i64 (0)]:=by kernel_rfl
theorem xu (a0:Int) (a1:Int) (a2:Int):Tryz.prog.built 87 [(0,.int .i64 a0),(1,.int .i64 a1),(2,.int .i64 a2)]=some #[.int .i64 a0,.int .i64 a1,.int .i64 a2]:=by kernel_rfl
theorem J3 (a0:Option Addr) (n0 c0:Nat) (a2:Int):Tryz.prog.built 95 [(0,.slice a0 n0 c0),(2,.int .i64 a2)]=some #[.slice a0 n0 c0,.int .i64 (0),.int .i64 a2,.bool false,.int .i64 (0)]:=by kernel_rfl
theorem Mb:Tryz.prog.concrete 186=true:=by kernel_rfl
set_option maxRecDepth 100000 in
theorem OT:eZ Tryz.prog 121 1 24:=⟨⟨_,_,rfl,rfl,rfl,rfl,rfl⟩,by decide⟩
set_option maxRecDepth 100000 in
theorem JQ:eZ Tryz.prog 126 6 64:=⟨⟨_,_,rfl,rfl,rfl,rfl,rfl⟩,by decide⟩
set_option maxRecDepth 100000 in
theorem L8:eZ Tryz.prog 132 7 72:=⟨⟨_,_,rfl,rfl,rfl,rfl,rfl⟩,by decide⟩
set_option maxRecDepth 100000 in
theorem FK:eZ Tryz.prog 147 256 2048:=⟨⟨_,_,rfl,rfl,rfl,rfl,rfl⟩,by decide⟩
set_option maxRecDepth 100000 in
theorem JP:eZ Tryz.prog 163 3 32:=⟨⟨_,_,rfl,rfl,rfl,rfl,rfl⟩,by decide⟩
set_option maxRecDepth 100000 in
theorem OS:eZ Tryz.prog 3 1 8:=⟨⟨_,_,rfl,rfl,rfl,rfl,rfl⟩,by decide⟩
set_option maxRecDepth 100000 in
theorem Lc:eZ Tryz.prog 39 3 48:=⟨⟨_,_,rfl,rfl,rfl,rfl,rfl⟩,by decide⟩
set_option maxRecDepth 100000 in
theorem Rl:eZ Tryz.prog 4 1 1:=⟨⟨_,_,rfl,rfl,rfl,rfl,rfl⟩,by decide⟩
set_option maxRecDepth 100000 in
theorem Se:eZ Tryz.prog 5 1 1:=⟨⟨_,_,rfl,rfl,rfl,rfl,rfl⟩,by decide⟩
set_option maxRecDepth 100000 in
theorem M9:eZ Tryz.prog 52 9 136:=⟨⟨_,_,rfl,rfl,rfl,rfl,rfl⟩,by decide⟩
set_option maxRecDepth 100000 in
theorem QJ:eZ Tryz.prog 79 1 8:=⟨⟨_,_,rfl,rfl,rfl,rfl,rfl⟩,by decide⟩
set_option maxRecDepth 100000 in
theorem OR:eZ Tryz.prog 87 3 24:=⟨⟨_,_,rfl,rfl,rfl,rfl,rfl⟩,by decide⟩
set_option maxRecDepth 100000 in
theorem QI:eZ Tryz.prog 9 1 16:=⟨⟨_,_,rfl,rfl,rfl,rfl,rfl⟩,by decide⟩
theorem mixed:Tryz.prog.follows .mixedOrders=true:=by kernel_rfl
theorem OF:(Tryz.f100.name == "runtime.NumGoroutine")=false:=by decide +kernel
theorem QC:(Tryz.f4.name == "runtime.NumGoroutine")=false:=by decide +kernel
theorem QB:(Tryz.f51.name == "runtime.NumGoroutine")=false:=by decide +kernel
theorem LY:cE Tryz.prog 107=some 1:=by kernel_rfl
theorem LX:cE Tryz.prog 118=some 1:=by kernel_rfl
theorem BV:cE Tryz.prog 121=some 1:=by kernel_rfl
theorem Og:cE Tryz.prog 122=some 1:=by kernel_rfl
theorem Ic:cE Tryz.prog 123=some 4:=by kernel_rfl
theorem Of:cE Tryz.prog 124=some 1:=by kernel_rfl
theorem nE:cE Tryz.prog 126=some 6:=by kernel_rfl
theorem Oe:cE Tryz.prog 132=some 7:=by kernel_rfl
theorem Od:cE Tryz.prog 136=some 1:=by kernel_rfl
theorem Ib:cE Tryz.prog 138=some 3:=by kernel_rfl
theorem LW:cE Tryz.prog 141=some 1:=by kernel_rfl
theorem Oc:cE Tryz.prog 147=some 256:=by kernel_rfl
theorem Ob:cE Tryz.prog 163=some 3:=by kernel_rfl
theorem RM:cE Tryz.prog 2=some 1:=by kernel_rfl
theorem Ia:cE Tryz.prog 209=some 2:=by kernel_rfl
theorem Oa:cE Tryz.prog 210=some 12:=by kernel_rfl
theorem Qs:cE Tryz.prog 22=some 1:=by kernel_rfl
theorem N9:cE Tryz.prog 283=some 256:=by kernel_rfl
theorem nD:cE Tryz.prog 3=some 1:=by kernel_rfl
theorem Qr:cE Tryz.prog 30=some 4:=by kernel_rfl
theorem N8:cE Tryz.prog 37=some 1:=by kernel_rfl
theorem N7:cE Tryz.prog 39=some 3:=by kernel_rfl
theorem Mz:cE Tryz.prog 4=some 1:=by kernel_rfl
theorem My:cE Tryz.prog 40=some 1:=by kernel_rfl
theorem Ge:cE Tryz.prog 42=some 8:=by kernel_rfl
theorem Qq:cE Tryz.prog 45=some 1:=by kernel_rfl
theorem NH:cE Tryz.prog 5=some 1:=by kernel_rfl
theorem DO:cE Tryz.prog 52=some 9:=by kernel_rfl
theorem N6:cE Tryz.prog 53=some 1:=by kernel_rfl
theorem Qp:cE Tryz.prog 54=some 6:=by kernel_rfl
theorem Qo:cE Tryz.prog 57=some 2:=by kernel_rfl
theorem H9:cE Tryz.prog 60=some 1:=by kernel_rfl
theorem N5:cE Tryz.prog 72=some 1:=by kernel_rfl
theorem Qn:cE Tryz.prog 79=some 1:=by kernel_rfl
theorem Qm:cE Tryz.prog 87=some 3:=by kernel_rfl
theorem Ds:cE Tryz.prog 9=some 1:=by kernel_rfl
theorem Ql:cE Tryz.prog 90=some 1:=by kernel_rfl
theorem NT:(Tryz.prog.info? 109).bind (·.zero)=some (.agg #[.pointer none,.slice none 0 0]):=by kernel_rfl
theorem LQ:(Tryz.prog.info? 126).bind (·.zero)=some (.agg #[.int .i64 (0),.int .u64 (0),.int .u64 (0),.int .u64 (0),.int .u64 (0),.slice none 0 0]):=by kernel_rfl
theorem LP:(Tryz.prog.info? 138).bind (·.zero)=some (.agg #[.string ⟨#[]⟩,.int .i64 (0),.int .i64 (0)]):=by kernel_rfl
theorem NS:(Tryz.prog.info? 147).bind (·.zero)=some (.agg (Array.replicate 256 (.int .i64 (0)))):=by kernel_rfl
theorem NR:(Tryz.prog.info? 163).bind (·.zero)=some (.agg #[.int .i64 (0),.string ⟨#[]⟩,.int .i64 (0)]):=by kernel_rfl
theorem NQ:(Tryz.prog.info? 209).bind (·.zero)=some (.agg #[.int .u8 (0),.int .u8 (0)]):=by kernel_rfl
theorem Qa:(Tryz.prog.info? 22).bind (·.zero)=some (.slice none 0 0):=by kernel_rfl
theorem NP:(Tryz.prog.info? 283).bind (·.zero)=some (.agg (Array.replicate 256 (.bool false))):=by kernel_rfl
theorem P9:(Tryz.prog.info? 3).bind (·.zero)=some (.int .i64 (0)):=by kernel_rfl
theorem P8:(Tryz.prog.info? 39).bind (·.zero)=some (.agg #[.int .i64 (0),.string ⟨#[]⟩,.slice none 0 0]):=by kernel_rfl
theorem Q5:(Tryz.prog.info? 4).bind (·.zero)=some (.bool false):=by kernel_rfl
theorem P7:(Tryz.prog.info? 42).bind (·.zero)=some (.agg #[.int .i64 (0),.int .i64 (0),.string ⟨#[]⟩,.string ⟨#[]⟩,.int .i64 (0),.string ⟨#[]⟩,.slice none 0 0,.slice none 0 0]):=by kernel_rfl
theorem Mn:(Tryz.prog.info? 52).bind (·.zero)=some (.agg #[.string ⟨#[]⟩,.int .i64 (0),.int .i64 (0),.string ⟨#[]⟩,.string ⟨#[]⟩,.int .i64 (0),.string ⟨#[]⟩,.slice none 0 0,.slice none 0 0]):=by kernel_rfl
theorem P6:(Tryz.prog.info? 54).bind (·.zero)=some (.agg #[.string ⟨#[]⟩,.string ⟨#[]⟩,.string ⟨#[]⟩,.string ⟨#[]⟩,.string ⟨#[]⟩,.string ⟨#[]⟩]):=by kernel_rfl
theorem P5:(Tryz.prog.info? 57).bind (·.zero)=some (.agg #[.int .i64 (0),.int .i64 (0)]):=by kernel_rfl
theorem P4:(Tryz.prog.info? 60).bind (·.zero)=some (.int .i64 (0)):=by kernel_rfl
theorem P3:(Tryz.prog.info? 87).bind (·.zero)=some (.agg #[.int .i64 (0),.int .i64 (0),.int .i64 (0)]):=by kernel_rfl
end Go.Proofs.YtoickfdopobmgaaGreatDoor.H
namespace Go.Proofs.YtoickfdopobmgaaGreatDoor.H
open Go.Proofs.Tryz
open Go Go.Lw
set_option maxRecDepth 100000 in
instance:LG Tryz.prog:=⟨by decide +kernel⟩
instance:lF Tryz.prog 107 false:=⟨Pz⟩
instance:lF Tryz.prog 118 false:=⟨Py⟩
instance:lF Tryz.prog 121 false:=⟨Px⟩
instance:lF Tryz.prog 122 false:=⟨Pw⟩
instance:lF Tryz.prog 123 true:=⟨Pu⟩
instance:lF Tryz.prog 124 false:=⟨Mg⟩
instance:lF Tryz.prog 126 true:=⟨zQ⟩
instance:lF Tryz.prog 132 true:=⟨Pt⟩
instance:lF Tryz.prog 136 false:=⟨Pr⟩
instance:lF Tryz.prog 138 true:=⟨Mf⟩
instance:lF Tryz.prog 141 false:=⟨Pq⟩
instance:lF Tryz.prog 147 true:=⟨Pp⟩
instance:lF Tryz.prog 163 true:=⟨Po⟩
instance:lF Tryz.prog 2 false:=⟨Sn⟩
instance:lF Tryz.prog 209 true:=⟨Me⟩
instance:lF Tryz.prog 210 true:=⟨Pn⟩
instance:lF Tryz.prog 22 false:=⟨Nu⟩
instance:lF Tryz.prog 267 false:=⟨Pm⟩
instance:lF Tryz.prog 283 true:=⟨Pk⟩
instance:lF Tryz.prog 3 false:=⟨NO⟩
instance:lF Tryz.prog 30 true:=⟨Q0⟩
instance:lF Tryz.prog 37 false:=⟨QZ⟩
instance:lF Tryz.prog 39 true:=⟨QY⟩
instance:lF Tryz.prog 4 false:=⟨Sk⟩
instance:lF Tryz.prog 40 false:=⟨Pj⟩
instance:lF Tryz.prog 42 true:=⟨Ph⟩
instance:lF Tryz.prog 45 false:=⟨QX⟩
instance:lF Tryz.prog 5 false:=⟨Sj⟩
instance:lF Tryz.prog 52 true:=⟨Pg⟩
instance:lF Tryz.prog 53 false:=⟨QW⟩
instance:lF Tryz.prog 57 true:=⟨QV⟩
instance:lF Tryz.prog 60 false:=⟨Nt⟩
instance:lF Tryz.prog 72 false:=⟨QU⟩
instance:lF Tryz.prog 75 false:=⟨Pf⟩
instance:lF Tryz.prog 79 false:=⟨QT⟩
instance:lF Tryz.prog 87 true:=⟨QS⟩
instance:lF Tryz.prog 9 false:=⟨Ns⟩
instance:lF Tryz.prog 90 false:=⟨QO⟩
instance:Rr Tryz.prog 186:=⟨Mb⟩
instance:E4 Tryz.prog 121 1 24:=⟨OT⟩
instance:E4 Tryz.prog 126 6 64:=⟨JQ⟩
instance:E4 Tryz.prog 132 7 72:=⟨L8⟩
instance:E4 Tryz.prog 163 3 32:=⟨JP⟩
instance:E4 Tryz.prog 3 1 8:=⟨OS⟩
instance:E4 Tryz.prog 39 3 48:=⟨Lc⟩
instance:E4 Tryz.prog 5 1 1:=⟨Se⟩
instance:E4 Tryz.prog 52 9 136:=⟨M9⟩
instance:E4 Tryz.prog 79 1 8:=⟨QJ⟩
instance:E4 Tryz.prog 87 3 24:=⟨OR⟩
instance:E4 Tryz.prog 9 1 16:=⟨QI⟩
instance:jA Tryz.prog 103 0 0:=⟨⟨_,_,_,underlying103,rfl,rfl,nD⟩⟩
instance:jA Tryz.prog 109 0 0:=⟨⟨_,_,_,underlying109,rfl,rfl,LY⟩⟩
instance:jA Tryz.prog 109 1 1:=⟨⟨_,_,_,underlying109,rfl,rfl,N6⟩⟩
instance:jA Tryz.prog 120 0 0:=⟨⟨_,_,_,underlying120,rfl,rfl,LX⟩⟩
instance:jA Tryz.prog 120 1 1:=⟨⟨_,_,_,underlying120,rfl,rfl,nD⟩⟩
instance:jA Tryz.prog 126 0 0:=⟨⟨_,_,_,underlying126,rfl,rfl,nD⟩⟩
instance:jA Tryz.prog 126 1 1:=⟨⟨_,_,_,underlying126,rfl,rfl,Ic⟩⟩
instance:jA Tryz.prog 126 2 5:=⟨⟨_,_,_,underlying126,rfl,rfl,Of⟩⟩
instance:jA Tryz.prog 132 0 0:=⟨⟨_,_,_,underlying132,rfl,rfl,nD⟩⟩
instance:jA Tryz.prog 132 1 1:=⟨⟨_,_,_,underlying132,rfl,rfl,Ic⟩⟩
instance:jA Tryz.prog 132 2 5:=⟨⟨_,_,_,underlying132,rfl,rfl,BV⟩⟩
instance:jA Tryz.prog 132 3 6:=⟨⟨_,_,_,underlying132,rfl,rfl,nD⟩⟩
instance:jA Tryz.prog 138 1 1:=⟨⟨_,_,_,underlying138,rfl,rfl,nD⟩⟩
instance:jA Tryz.prog 138 2 2:=⟨⟨_,_,_,underlying138,rfl,rfl,nD⟩⟩
instance:jA Tryz.prog 143 0 0:=⟨⟨_,_,_,underlying143,rfl,rfl,LW⟩⟩
instance:jA Tryz.prog 143 1 1:=⟨⟨_,_,_,underlying143,rfl,rfl,BV⟩⟩
instance:jA Tryz.prog 163 0 0:=⟨⟨_,_,_,underlying163,rfl,rfl,nD⟩⟩
instance:jA Tryz.prog 163 1 1:=⟨⟨_,_,_,underlying163,rfl,rfl,Ds⟩⟩
instance:jA Tryz.prog 163 2 2:=⟨⟨_,_,_,underlying163,rfl,rfl,nD⟩⟩
instance:jA Tryz.prog 189 0 0:=⟨⟨_,_,_,underlying189,rfl,rfl,Ds⟩⟩
instance:jA Tryz.prog 30 0 0:=⟨⟨_,_,_,underlying30,rfl,rfl,NH⟩⟩
instance:jA Tryz.prog 30 1 1:=⟨⟨_,_,_,underlying30,rfl,rfl,NH⟩⟩
instance:jA Tryz.prog 30 2 2:=⟨⟨_,_,_,underlying30,rfl,rfl,NH⟩⟩
instance:jA Tryz.prog 30 3 3:=⟨⟨_,_,_,underlying30,rfl,rfl,NH⟩⟩
instance:jA Tryz.prog 39 0 0:=⟨⟨_,_,_,underlying39,rfl,rfl,nD⟩⟩
instance:jA Tryz.prog 39 1 1:=⟨⟨_,_,_,underlying39,rfl,rfl,Ds⟩⟩
instance:jA Tryz.prog 39 2 2:=⟨⟨_,_,_,underlying39,rfl,rfl,N8⟩⟩
instance:jA Tryz.prog 42 0 0:=⟨⟨_,_,_,underlying42,rfl,rfl,nD⟩⟩
instance:jA Tryz.prog 42 1 1:=⟨⟨_,_,_,underlying42,rfl,rfl,RM⟩⟩
instance:jA Tryz.prog 42 2 2:=⟨⟨_,_,_,underlying42,rfl,rfl,Ds⟩⟩
instance:jA Tryz.prog 42 3 3:=⟨⟨_,_,_,underlying42,rfl,rfl,Ds⟩⟩
instance:jA Tryz.prog 42 4 4:=⟨⟨_,_,_,underlying42,rfl,rfl,N7⟩⟩
instance:jA Tryz.prog 42 5 7:=⟨⟨_,_,_,underlying42,rfl,rfl,My⟩⟩
instance:jA Tryz.prog 48 0 0:=⟨⟨_,_,_,underlying48,rfl,rfl,Qq⟩⟩
instance:jA Tryz.prog 48 1 1:=⟨⟨_,_,_,underlying48,rfl,rfl,My⟩⟩
instance:jA Tryz.prog 52 0 0:=⟨⟨_,_,_,underlying52,rfl,rfl,Ds⟩⟩
instance:jA Tryz.prog 52 1 1:=⟨⟨_,_,_,underlying52,rfl,rfl,Ge⟩⟩
instance:jA Tryz.prog 57 0 0:=⟨⟨_,_,_,underlying57,rfl,rfl,nD⟩⟩
instance:jA Tryz.prog 57 1 1:=⟨⟨_,_,_,underlying57,rfl,rfl,nD⟩⟩
instance:jA Tryz.prog 74 0 0:=⟨⟨_,_,_,underlying74,rfl,rfl,N5⟩⟩
instance:jA Tryz.prog 87 0 0:=⟨⟨_,_,_,underlying87,rfl,rfl,nD⟩⟩
instance:jA Tryz.prog 87 1 1:=⟨⟨_,_,_,underlying87,rfl,rfl,nD⟩⟩
instance:jA Tryz.prog 87 2 2:=⟨⟨_,_,_,underlying87,rfl,rfl,nD⟩⟩
instance:jA Tryz.prog 95 0 0:=⟨⟨_,_,_,underlying95,rfl,rfl,Ql⟩⟩
instance:jA Tryz.prog 95 1 1:=⟨⟨_,_,_,underlying95,rfl,rfl,nD⟩⟩
instance:jA Tryz.prog 95 2 2:=⟨⟨_,_,_,underlying95,rfl,rfl,nD⟩⟩
instance:jA Tryz.prog 95 3 3:=⟨⟨_,_,_,underlying95,rfl,rfl,Mz⟩⟩
instance:jA Tryz.prog 95 4 4:=⟨⟨_,_,_,underlying95,rfl,rfl,nD⟩⟩
instance:bF Tryz.prog 10 f10:=⟨func10⟩
instance:bF Tryz.prog 100 f100:=⟨func100⟩
instance:bF Tryz.prog 101 f101:=⟨func101⟩
instance:bF Tryz.prog 102 f102:=⟨func102⟩
instance:bF Tryz.prog 103 Tryz.f103:=⟨func103⟩
instance:bF Tryz.prog 104 f104:=⟨func104⟩
instance:bF Tryz.prog 105 f105:=⟨func105⟩
instance:bF Tryz.prog 106 Tryz.f106:=⟨func106⟩
instance:bF Tryz.prog 11 f11:=⟨func11⟩
instance:bF Tryz.prog 111 f111:=⟨func111⟩
instance:bF Tryz.prog 112 f112:=⟨func112⟩
instance:bF Tryz.prog 113 f113:=⟨func113⟩
instance:bF Tryz.prog 114 f114:=⟨func114⟩
instance:bF Tryz.prog 115 f115:=⟨func115⟩
instance:bF Tryz.prog 116 f116:=⟨func116⟩
instance:bF Tryz.prog 117 f117:=⟨func117⟩
instance:bF Tryz.prog 118 f118:=⟨func118⟩
instance:bF Tryz.prog 119 f119:=⟨func119⟩
instance:bF Tryz.prog 12 f12:=⟨func12⟩
instance:bF Tryz.prog 120 f120:=⟨func120⟩
instance:bF Tryz.prog 121 Tryz.f121:=⟨func121⟩
instance:bF Tryz.prog 122 f122:=⟨func122⟩
instance:bF Tryz.prog 123 f123:=⟨func123⟩
instance:bF Tryz.prog 124 f124:=⟨func124⟩
instance:bF Tryz.prog 125 Tryz.f125:=⟨func125⟩
instance:bF Tryz.prog 126 f126:=⟨func126⟩
instance:bF Tryz.prog 129 Tryz.f129:=⟨func129⟩
instance:bF Tryz.prog 13 Tryz.f13:=⟨func13⟩
instance:bF Tryz.prog 130 f130:=⟨func130⟩
instance:bF Tryz.prog 131 f131:=⟨func131⟩
instance:bF Tryz.prog 132 f132:=⟨func132⟩
instance:bF Tryz.prog 133 f133:=⟨func133⟩
instance:bF Tryz.prog 134 f134:=⟨func134⟩
instance:bF Tryz.prog 14 f14:=⟨func14⟩
instance:bF Tryz.prog 143 Tryz.f143:=⟨func143⟩
instance:bF Tryz.prog 144 Tryz.f144:=⟨func144⟩
instance:bF Tryz.prog 145 f145:=⟨func145⟩
instance:bF Tryz.prog 146 f146:=⟨func146⟩
instance:bF Tryz.prog 15 f15:=⟨func15⟩
instance:bF Tryz.prog 151 f151:=⟨func151⟩
instance:bF Tryz.prog 152 f152:=⟨func152⟩
instance:bF Tryz.prog 155 f155:=⟨func155⟩
instance:bF Tryz.prog 156 f156:=⟨func156⟩
instance:bF Tryz.prog 157 f157:=⟨func157⟩
instance:bF Tryz.prog 158 f158:=⟨func158⟩
instance:bF Tryz.prog 159 f159:=⟨func159⟩
instance:bF Tryz.prog 16 f16:=⟨func16⟩
instance:bF Tryz.prog 160 f160:=⟨func160⟩
instance:bF Tryz.prog 161 f161:=⟨func161⟩
instance:bF Tryz.prog 167 f167:=⟨func167⟩
instance:bF Tryz.prog 168 f168:=⟨func168⟩
instance:bF Tryz.prog 17 f17:=⟨func17⟩
instance:bF Tryz.prog 171 Tryz.f171:=⟨func171⟩
instance:bF Tryz.prog 175 f175:=⟨func175⟩
instance:bF Tryz.prog 176 f176:=⟨func176⟩
instance:bF Tryz.prog 177 f177:=⟨func177⟩
instance:bF Tryz.prog 178 f178:=⟨func178⟩
instance:bF Tryz.prog 179 f179:=⟨func179⟩
instance:bF Tryz.prog 18 f18:=⟨func18⟩
instance:bF Tryz.prog 184 f184:=⟨func184⟩
instance:bF Tryz.prog 186 f186:=⟨func186⟩
instance:bF Tryz.prog 187 f187:=⟨func187⟩
instance:bF Tryz.prog 188 f188:=⟨func188⟩
instance:bF Tryz.prog 19 f19:=⟨func19⟩
instance:bF Tryz.prog 193 f193:=⟨func193⟩
instance:bF Tryz.prog 194 f194:=⟨func194⟩
instance:bF Tryz.prog 196 f196:=⟨func196⟩
instance:bF Tryz.prog 197 Tryz.f197:=⟨func197⟩
instance:bF Tryz.prog 198 f198:=⟨func198⟩
instance:bF Tryz.prog 199 f199:=⟨func199⟩
instance:bF Tryz.prog 20 f20:=⟨func20⟩
instance:bF Tryz.prog 202 f202:=⟨func202⟩
instance:bF Tryz.prog 204 f204:=⟨func204⟩
instance:bF Tryz.prog 205 Tryz.f205:=⟨func205⟩
instance:bF Tryz.prog 208 f208:=⟨func208⟩
instance:bF Tryz.prog 209 f209:=⟨func209⟩
instance:bF Tryz.prog 21 f21:=⟨func21⟩
instance:bF Tryz.prog 210 Tryz.f210:=⟨func210⟩
instance:bF Tryz.prog 211 f211:=⟨func211⟩
instance:bF Tryz.prog 212 f212:=⟨func212⟩
instance:bF Tryz.prog 214 Tryz.f214:=⟨func214⟩
instance:bF Tryz.prog 216 f216:=⟨func216⟩
instance:bF Tryz.prog 218 f218:=⟨func218⟩
instance:bF Tryz.prog 22 f22:=⟨func22⟩
instance:bF Tryz.prog 23 f23:=⟨func23⟩
instance:bF Tryz.prog 24 f24:=⟨func24⟩
instance:bF Tryz.prog 25 f25:=⟨func25⟩
instance:bF Tryz.prog 26 f26:=⟨func26⟩
instance:bF Tryz.prog 27 f27:=⟨func27⟩
instance:bF Tryz.prog 28 f28:=⟨func28⟩
instance:bF Tryz.prog 29 f29:=⟨func29⟩
instance:bF Tryz.prog 3 Tryz.f3:=⟨func3⟩
instance:bF Tryz.prog 30 f30:=⟨func30⟩
instance:bF Tryz.prog 31 f31:=⟨func31⟩
instance:bF Tryz.prog 32 f32:=⟨func32⟩
instance:bF Tryz.prog 33 f33:=⟨func33⟩
instance:bF Tryz.prog 34 f34:=⟨func34⟩
instance:bF Tryz.prog 35 Tryz.f35:=⟨func35⟩
instance:bF Tryz.prog 36 f36:=⟨func36⟩
instance:bF Tryz.prog 37 f37:=⟨func37⟩
instance:bF Tryz.prog 38 f38:=⟨func38⟩
instance:bF Tryz.prog 39 f39:=⟨func39⟩
instance:bF Tryz.prog 4 Tryz.f4:=⟨func4⟩
instance:bF Tryz.prog 40 f40:=⟨func40⟩
instance:bF Tryz.prog 41 f41:=⟨func41⟩
instance:bF Tryz.prog 42 f42:=⟨func42⟩
instance:bF Tryz.prog 43 f43:=⟨func43⟩
instance:bF Tryz.prog 44 f44:=⟨func44⟩
instance:bF Tryz.prog 45 f45:=⟨func45⟩
instance:bF Tryz.prog 46 Tryz.f46:=⟨func46⟩
instance:bF Tryz.prog 47 f47:=⟨func47⟩
instance:bF Tryz.prog 5 Tryz.f5:=⟨func5⟩
instance:bF Tryz.prog 50 f50:=⟨func50⟩
instance:bF Tryz.prog 51 f51:=⟨func51⟩
instance:bF Tryz.prog 52 f52:=⟨func52⟩
instance:bF Tryz.prog 53 f53:=⟨func53⟩
instance:bF Tryz.prog 54 f54:=⟨func54⟩
instance:bF Tryz.prog 55 f55:=⟨func55⟩
instance:bF Tryz.prog 56 f56:=⟨func56⟩
instance:bF Tryz.prog 57 f57:=⟨func57⟩
instance:bF Tryz.prog 58 f58:=⟨func58⟩
instance:bF Tryz.prog 59 f59:=⟨func59⟩
instance:bF Tryz.prog 6 Tryz.f6:=⟨func6⟩
instance:bF Tryz.prog 60 f60:=⟨func60⟩
instance:bF Tryz.prog 63 f63:=⟨func63⟩
instance:bF Tryz.prog 64 f64:=⟨func64⟩
instance:bF Tryz.prog 65 f65:=⟨func65⟩
instance:bF Tryz.prog 66 f66:=⟨func66⟩
instance:bF Tryz.prog 67 f67:=⟨func67⟩
instance:bF Tryz.prog 68 f68:=⟨func68⟩
instance:bF Tryz.prog 69 f69:=⟨func69⟩
instance:bF Tryz.prog 7 Tryz.f7:=⟨func7⟩
instance:bF Tryz.prog 70 f70:=⟨func70⟩
instance:bF Tryz.prog 71 f71:=⟨func71⟩
instance:bF Tryz.prog 72 f72:=⟨func72⟩
instance:bF Tryz.prog 73 f73:=⟨func73⟩
instance:bF Tryz.prog 74 f74:=⟨func74⟩
instance:bF Tryz.prog 76 f76:=⟨func76⟩
instance:bF Tryz.prog 77 f77:=⟨func77⟩
instance:bF Tryz.prog 78 f78:=⟨func78⟩
instance:bF Tryz.prog 79 f79:=⟨func79⟩
instance:bF Tryz.prog 8 Tryz.f8:=⟨func8⟩
instance:bF Tryz.prog 80 f80:=⟨func80⟩
instance:bF Tryz.prog 81 f81:=⟨func81⟩
instance:bF Tryz.prog 82 f82:=⟨func82⟩
instance:bF Tryz.prog 83 f83:=⟨func83⟩
instance:bF Tryz.prog 84 f84:=⟨func84⟩
instance:bF Tryz.prog 85 f85:=⟨func85⟩
instance:bF Tryz.prog 86 f86:=⟨func86⟩
instance:bF Tryz.prog 87 f87:=⟨func87⟩
instance:bF Tryz.prog 9 f9:=⟨func9⟩
instance:Ny Tryz.prog:=⟨mixed⟩
instance:nq Tryz.prog 107 1:=⟨LY⟩
instance:nq Tryz.prog 118 1:=⟨LX⟩
instance:nq Tryz.prog 121 1:=⟨BV⟩
instance:nq Tryz.prog 122 1:=⟨Og⟩
instance:nq Tryz.prog 123 4:=⟨Ic⟩
instance:nq Tryz.prog 126 6:=⟨nE⟩
instance:nq Tryz.prog 132 7:=⟨Oe⟩
instance:nq Tryz.prog 136 1:=⟨Od⟩
instance:nq Tryz.prog 138 3:=⟨Ib⟩
instance:nq Tryz.prog 141 1:=⟨LW⟩
instance:nq Tryz.prog 147 256:=⟨Oc⟩
instance:nq Tryz.prog 163 3:=⟨Ob⟩
instance:nq Tryz.prog 209 2:=⟨Ia⟩
instance:nq Tryz.prog 210 12:=⟨Oa⟩
instance:nq Tryz.prog 283 256:=⟨N9⟩
instance:nq Tryz.prog 3 1:=⟨nD⟩
instance:nq Tryz.prog 30 4:=⟨Qr⟩
instance:nq Tryz.prog 37 1:=⟨N8⟩
instance:nq Tryz.prog 39 3:=⟨N7⟩
instance:nq Tryz.prog 4 1:=⟨Mz⟩
instance:nq Tryz.prog 40 1:=⟨My⟩
instance:nq Tryz.prog 42 8:=⟨Ge⟩
instance:nq Tryz.prog 5 1:=⟨NH⟩
instance:nq Tryz.prog 52 9:=⟨DO⟩
instance:nq Tryz.prog 53 1:=⟨N6⟩
instance:nq Tryz.prog 54 6:=⟨Qp⟩
instance:nq Tryz.prog 57 2:=⟨Qo⟩
instance:nq Tryz.prog 60 1:=⟨H9⟩
instance:nq Tryz.prog 72 1:=⟨N5⟩
instance:nq Tryz.prog 79 1:=⟨Qn⟩
instance:nq Tryz.prog 87 3:=⟨Qm⟩
instance:nq Tryz.prog 9 1:=⟨Ds⟩
instance:lD Tryz.prog 118 (.slice 132):=⟨underlying118⟩
instance:lD Tryz.prog 121 (.slice 3):=⟨underlying121⟩
instance:lD Tryz.prog 123 (.array 4 122):=⟨underlying123⟩
instance:lD Tryz.prog 124 (.slice 126):=⟨underlying124⟩
instance:lD Tryz.prog 136 (.slice 138):=⟨underlying136⟩
instance:lD Tryz.prog 139 (.array 3 136):=⟨underlying139⟩
instance:lD Tryz.prog 141 (.slice 147):=⟨underlying141⟩
instance:lD Tryz.prog 146 (.slice 121):=⟨underlying146⟩
instance:lD Tryz.prog 147 (.array 256 3):=⟨underlying147⟩
instance:lD Tryz.prog 151 (.slice 4):=⟨underlying151⟩
instance:lD Tryz.prog 209 (.array 2 5):=⟨underlying209⟩
instance:lD Tryz.prog 210 (.array 6 209):=⟨underlying210⟩
instance:lD Tryz.prog 22 (.slice 9):=⟨underlying22⟩
instance:lD Tryz.prog 23 (.slice 30):=⟨underlying23⟩
instance:lD Tryz.prog 240 (.slice 209):=⟨underlying240⟩
instance:lD Tryz.prog 283 (.array 256 4):=⟨underlying283⟩
instance:lD Tryz.prog 3 (.int .i64):=⟨underlying3⟩
instance:lD Tryz.prog 37 (.slice 39):=⟨underlying37⟩
instance:lD Tryz.prog 4 (.bool):=⟨underlying4⟩
instance:lD Tryz.prog 40 (.slice 52):=⟨underlying40⟩
instance:lD Tryz.prog 5 (.int .u8):=⟨underlying5⟩
instance:lD Tryz.prog 53 (.slice 5):=⟨underlying53⟩
instance:lD Tryz.prog 54 (.array 6 9):=⟨underlying54⟩
instance:lD Tryz.prog 55 (.slice 87):=⟨underlying55⟩
instance:lD Tryz.prog 72 (.slice 79):=⟨underlying72⟩
instance:lD Tryz.prog 9 (.string):=⟨underlying9⟩
instance:lD Tryz.prog 90 (.slice 163):=⟨underlying90⟩
instance:Di Tryz.prog 109 (.agg #[.pointer none,.slice none 0 0]):=⟨NT⟩
instance:Di Tryz.prog 126 (.agg #[.int .i64 (0),.int .u64 (0),.int .u64 (0),.int .u64 (0),.int .u64 (0),.slice none 0 0]):=⟨LQ⟩
instance:Di Tryz.prog 138 (.agg #[.string ⟨#[]⟩,.int .i64 (0),.int .i64 (0)]):=⟨LP⟩
instance:Di Tryz.prog 147 (.agg (Array.replicate 256 (.int .i64 (0)))):=⟨NS⟩
instance:Di Tryz.prog 163 (.agg #[.int .i64 (0),.string ⟨#[]⟩,.int .i64 (0)]):=⟨NR⟩
instance:Di Tryz.prog 209 (.agg #[.int .u8 (0),.int .u8 (0)]):=⟨NQ⟩
instance:Di Tryz.prog 22 (.slice none 0 0):=⟨Qa⟩
instance:Di Tryz.prog 283 (.agg (Array.replicate 256 (.bool false))):=⟨NP⟩
instance:Di Tryz.prog 3 (.int .i64 (0)):=⟨P9⟩
instance:Di Tryz.prog 39 (.agg #[.int .i64 (0),.string ⟨#[]⟩,.slice none 0 0]):=⟨P8⟩
instance:Di Tryz.prog 42 (.agg #[.int .i64 (0),.int .i64 (0),.string ⟨#[]⟩,.string ⟨#[]⟩,.int .i64 (0),.string ⟨#[]⟩,.slice none 0 0,.slice none 0 0]):=⟨P7⟩
instance:Di Tryz.prog 52 (.agg #[.string ⟨#[]⟩,.int .i64 (0),.int .i64 (0),.string ⟨#[]⟩,.string ⟨#[]⟩,.int .i64 (0),.string ⟨#[]⟩,.slice none 0 0,.slice none 0 0]):=⟨Mn⟩
instance:Di Tryz.prog 54 (.agg #[.string ⟨#[]⟩,.string ⟨#[]⟩,.string ⟨#[]⟩,.string ⟨#[]⟩,.string ⟨#[]⟩,.string ⟨#[]⟩]):=⟨P6⟩
instance:Di Tryz.prog 57 (.agg #[.int .i64 (0),.int .i64 (0)]):=⟨P5⟩
instance:Di Tryz.prog 60 (.int .i64 (0)):=⟨P4⟩
instance:Di Tryz.prog 87 (.agg #[.int .i64 (0),.int .i64 (0),.int .i64 (0)]):=⟨P3⟩
end Go.Proofs.YtoickfdopobmgaaGreatDoor.H
namespace Go.Proofs.YtoickfdopobmgaaGreatDoor
abbrev By:=List UInt8
inductive Nd where
  |mk (kind:Nat) (set:Nat) (kids:List Nd)
def Nd.kind:Nd->Nat|.mk k _ _=>k
def Nd.set:Nd->Nat|.mk _ s _=>s
def Nd.kids:Nd->List Nd|.mk _ _ l=>l
def Kc:Nat:=2 ^ 256-1
def yQ (s a:Nat):Nat->Nat
  | 0=>s
  |n+1=>yQ (s |||(1 <<< a)) (a+1) n
def pz (s:Nat) (a b:UInt8):Nat:=yQ s a.toNat (b.toNat+1-a.toNat)
def nP (s:Nat):Nat:=Kc ^^^ s
def Bf (b:UInt8):Nd:=.mk 1 (pz 0 b b) []
def Ma:Nd:=.mk 1 (pz (pz 0 0 9) 11 255) []
def oP:Nd:=.mk 0 0 []
def fS:By:=[40,41,91,93,124,42,43,63,46,92,45,94]
def mT (b:UInt8):Option Nat :=
  if 48<=b.toNat/\b.toNat<=57 then some (b.toNat-48) else if 97<=b.toNat/\b.toNat<=102 then some (b.toNat-87) else if 65<=b.toNat/\b.toNat<=70 then some (b.toNat-55) else none
def rz:By->Option (UInt8×By)
  | []=>none
  |b::r =>
    if b=110 then some (10,r) else if b=116 then some (9,r) else if b=114 then some (13,r)
    else if b=120 then
      match r with
      |x::y::r=>match mT x,mT y with
        |some m,some n=>some (UInt8.ofNat (m*16+n),r)
        |_,_=>none
      |_=>none
    else if b∈fS then some (b,r) else none
def qe:By->Option (UInt8×By)
  | []=>none
  |b::r=>if b=92 then rz r else if b∈fS then none else some (b,r)
def eY (s:By):Option ((UInt8×UInt8)×By) :=
  match qe s with
  |none=>none
  |some (a,r)=>match r with
    | 45::r'=>match qe r' with
      |none=>none
      |some (b,r'')=>if b.toNat<a.toNat then none else some ((a,b),r'')
    |_=>some ((a,a),r)
def ng:Nat->Nat->By->Option (Nat×By)
  | 0,_,_=>none
  |n+1,acc,s=>match eY s with
    |none=>none
    |some ((a,b),r)=>match r with
      | 93::r'=>some (pz acc a b,r')
      |_=>ng n (pz acc a b) r
def iQ (s:By):Option (Nd×By) :=
  match s with
  | 94::r=>(ng (r.length+1) 0 r).map fun p=>(.mk 1 (nP p.1) [],p.2)
  |_=>(ng (s.length+1) 0 s).map fun p=>(.mk 1 p.1 [],p.2)
def fC (rows:By->Option (Nd×By)):By->Option (Nd×By)
  | []=>none
  |c::r =>
    if c=40 then
      match rows r with
      |none=>none
      |some (n,r')=>match r' with
        | 41::r''=>some (n,r'')
        |_=>none
    else if c=91 then iQ r
    else if c=46 then some (Ma,r)
    else if c=92 then (rz r).map fun p=>(Bf p.1,p.2)
    else if c∈[(41:UInt8),93,124,42,43,63] then none
    else some (Bf c,r)
def dn (c:UInt8):Nat:=if c=42 then 4 else if c=43 then 5 else if c=63 then 6 else 0
def eS (n:Nd):By->Nd×By
  | []=>(n,[])
  |c::r=>if dn c=0 then (n,c::r) else eS (.mk (dn c) 0 [n]) r
def gu (rows:By->Option (Nd×By)) (s:By):Option (Nd×By) :=
  (fC rows s).map fun p=>eS p.1 p.2
def bT (kind:Nat):List Nd->Nd
  | []=>oP
  | [n]=>n
  |l=>.mk kind 0 l
def lg:By->Bool
  | []=>true
  |c::_=>c ==124 ||c ==41
def nL (rows:By->Option (Nd×By)):Nat->By->Option (List Nd×By)
  | 0,_=>none
  |n+1,s=>if lg s then some ([],s) else
    match gu rows s with
    |none=>none
    |some (x,r)=>(nL rows n r).map fun p=>(x::p.1,p.2)
def jf (rows:By->Option (Nd×By)):Nat->List Nd->List Nd->By->Option (Nd×By)
  | 0,_,_,_=>none
  |n+1,all,row,s=>if lg s then
      if s.head? =some 124 then jf rows n (all++[bT 2 row]) [] s.tail
      else some (bT 3 (all++[bT 2 row]),s)
    else match gu rows s with
      |none=>none
      |some (x,r)=>jf rows n all (row++[x]) r
def dU:Nat->By->Option (Nd×By)
  | 0,_=>none
  |d+1,s=>jf (dU d) (s.length+1) [] [] s
def lp (s:By):Option Nd :=
  match dU (s.length+1) s with
  |some (n,[])=>some n
  |_=>none
theorem wO {s:By}{b:UInt8}{r:By}(h:rz s=some (b,r)):r.length<s.length:=by
  unfold rz at h;split at h
  · cases h
  · rename_i c t;split at h
    · cases h;simp
    · split at h
      · cases h;simp
      · split at h
        · cases h;simp
        · split at h
          · split at h
            · split at h
              · cases h;simp only[List.length_cons];omega
              · cases h
            · cases h
          · split at h
            · cases h;simp
            · cases h
theorem qW {s:By}{b:UInt8}{r:By}(h:qe s=some (b,r)):r.length<s.length:=by
  unfold qe at h;split at h
  · cases h
  · split at h
    · have:=wO h;simp only[List.length_cons];omega
    · split at h
      · cases h
      · cases h;simp
theorem nV {s:By}{p:UInt8×UInt8}{r:By}(h:eY s=some (p,r)):r.length<s.length:=by
  unfold eY at h;split at h
  · cases h
  · rename_i a t ha;have h1:=qW ha;split at h
    · rename_i t';split at h
      · cases h
      · rename_i b t'' hb;have h2:=qW hb;split at h
        · cases h
        · cases h;simp only[List.length_cons] at h1;omega
    · cases h;exact h1
theorem rX:∀(n acc:Nat){s:By}{m:Nat}{r:By},ng n acc s=some (m,r)->r.length<s.length
  | 0,_,s,m,r,h=>by cases h
  |n+1,acc,s,m,r,h=>by
    rw[ng] at h;split at h
    · cases h
    · rename_i a b t ht;have h1:=nV ht;split at h
      · cases h;simp only[List.length_cons] at h1;omega
      · have:=rX n _ h;omega
theorem rI {s:By}{x:Nd}{r:By}(h:iQ s=some (x,r)):r.length<s.length:=by
  unfold iQ at h;split at h
  · rename_i t;simp only[Option.map_eq_some_iff] at h;obtain⟨⟨m,r'⟩,h1,h2⟩:=h;cases h2;have:=rX _ _ h1;simp only[List.length_cons];omega
  · simp only[Option.map_eq_some_iff] at h;obtain⟨⟨m,r'⟩,h1,h2⟩:=h;cases h2;exact rX _ _ h1
theorem zO {rows:By->Option (Nd×By)}(hr:∀{s x r},rows s=some (x,r)->r.length<=s.length){s:By}{x:Nd}{r:By}(h:fC rows s=some (x,r)):r.length<s.length:=by
  unfold fC at h;split at h
  · cases h
  · rename_i c t;simp only[List.length_cons];split at h
    · split at h
      · cases h
      · rename_i n t' ht;have:=hr ht;split at h
        · rename_i t'' _;cases h;simp only[List.length_cons] at this;omega
        · cases h
    · split at h
      · have:=rI h;omega
      · split at h
        · cases h;omega
        · split at h
          · simp only[Option.map_eq_some_iff] at h;obtain⟨⟨b,r'⟩,h1,h2⟩:=h;cases h2;have:=wO h1;dsimp only;omega
          · split at h
            · cases h
            · cases h;omega
theorem uY:∀(s:By) (n:Nd),(eS n s).2.length<=s.length
  | [],n=>by simp[eS]
  |c::r,n=>by
    rw[eS];split
    · simp
    · have:=uY r (.mk (dn c) 0 [n]);simp only[List.length_cons];omega
theorem gr {rows:By->Option (Nd×By)}(hr:∀{s x r},rows s=some (x,r)->r.length<=s.length){s:By}{x:Nd}{r:By}(h:gu rows s=some (x,r)):r.length<s.length:=by
  unfold gu at h;simp only[Option.map_eq_some_iff] at h;obtain⟨⟨n,t⟩,h1,h2⟩:=h;have h3:=zO hr h1;have h4:=uY t n;rw[h2] at h4;simp only at h4;omega
theorem rZ {rows:By->Option (Nd×By)}(hr:∀{s x r},rows s=some (x,r)->r.length<=s.length):∀(n:Nat) (all row:List Nd){s:By}{x:Nd}{r:By},jf rows n all row s=some (x,r)->r.length<=s.length/\(r=[]\/r.head? =some 41)
  | 0,_,_,s,x,r,h=>by cases h
  |n+1,all,row,s,x,r,h=>by
    rw[jf] at h;split at h
    · rename_i he;split at h
      · have:=rZ hr n _ _ h;exact⟨by have h2:=this.1;simp only[List.length_tail] at h2;omega,this.2⟩
      · rename_i hn;cases h;refine⟨Nat.le_refl _,?_⟩;cases s with
        |nil=>exact .inl rfl
        |cons c t =>
          right
          unfold lg at he;have h1:c≠124:=fun e=>hn (by rw[e];rfl)
          simp[h1] at he;simp[he]
    · split at h
      · cases h
      · rename_i y t ht;have h1:=gr hr ht;have h2:=rZ hr n _ _ h;exact⟨by omega,h2.2⟩
theorem lP:∀(d:Nat){s:By}{x:Nd}{r:By},dU d s=some (x,r)->r.length<=s.length
  | 0,s,x,r,h=>by cases h
  |d+1,s,x,r,h=>(rZ (fun h=>lP d h) _ _ _ h).1
theorem Cb {rows:By->Option (Nd×By)}(hr:∀{s x r},rows s=some (x,r)->r.length<=s.length):∀(n:Nat){s:By}{l:List Nd}{r:By},nL rows n s=some (l,r)->r.length<=s.length/\lg r=true/\l.length<=s.length
  | 0,s,l,r,h=>by cases h
  |n+1,s,l,r,h=>by
    rw[nL] at h;split at h
    · rename_i he;cases h;exact⟨Nat.le_refl _,he,Nat.zero_le _⟩
    · split at h
      · cases h
      · rename_i y t ht;have h1:=gr hr ht;simp only[Option.map_eq_some_iff] at h;obtain⟨⟨m,r'⟩,h2,h3⟩:=h;cases h3;have h4:=Cb hr n h2;have h5:=h4.1;have h6:=h4.2.2;exact⟨by first|omega|(dsimp only;omega),h4.2.1,by simp only[List.length_cons];first|omega|(dsimp only at h6;omega)⟩
theorem vk {rows:By->Option (Nd×By)}(hr:∀{s x r},rows s=some (x,r)->r.length<=s.length):∀(k:Nat) (n m:Nat) (all row:List Nd) (s:By),s.length<=k->s.length<n->s.length<m->jf rows n all row s=jf rows m all row s:=by
  intro k
  induction k with
  |zero =>
    intro n m all row s hk hn hm;cases n with
    |zero=>omega
    |succ n =>
      cases m with
      |zero=>omega
      |succ m =>
        have:s=[]:=List.eq_nil_of_length_eq_zero (by omega);subst this;rfl
  |succ k ih =>
    intro n m all row s hk hn hm;cases n with
    |zero=>omega
    |succ n =>
      cases m with
      |zero=>omega
      |succ m =>
        rw[jf,jf];split
        · split
          · rename_i h1;have h2:s.tail.length+1=s.length:=by cases s with|nil=>cases h1|cons a b=>simp
            exact ih _ _ _ _ _ (by omega) (by omega) (by omega)
          · rfl
        · cases hp:gu rows s with
          |none=>rfl
          |some p =>
            obtain⟨y,t⟩:=p;have:=gr hr hp;exact ih _ _ _ _ _ (by omega) (by omega) (by omega)
theorem yU {rows:By->Option (Nd×By)}(hr:∀{s x r},rows s=some (x,r)->r.length<=s.length):∀(n m:Nat) (s:By),s.length<n->s.length<m->nL rows n s=nL rows m s
  | 0,_,_,h,_=>by omega
  |_,0,_,_,h=>by omega
  |n+1,m+1,s,hn,hm=>by
    rw[nL,nL];split
    · rfl
    · cases hp:gu rows s with
      |none=>rfl
      |some p =>
        obtain⟨y,t⟩:=p;have:=gr hr hp;simp only;rw[yU hr n m t (by omega) (by omega)]
def Ay (rows:By->Option (Nd×By)) (s:By):Option (Nd×By):=(nL rows (s.length+1) s).map fun p=>(bT 2 p.1,p.2)
def tR (rows:By->Option (Nd×By)) (all:List Nd) (m:By):Option (Nd×By) :=
  if m.head? =some 124 then jf rows (m.tail.length+1) all [] m.tail else some (bT 3 all,m)
theorem Gv {rows:By->Option (Nd×By)}(hr:∀{s x r},rows s=some (x,r)->r.length<=s.length):∀(n m:Nat) (all row:List Nd) (s:By),s.length<n->s.length<m ->
    jf rows n all row s=match nL rows m s with
      |none=>none
      |some (l,r)=>if r.head? =some 124 then jf rows (r.length+1) (all++[bT 2 (row++l)]) [] r.tail else some (bT 3 (all++[bT 2 (row++l)]),r):=by
  have fuel:=fun k=>@vk rows hr k
  intro n
  induction n with
  |zero=>intro m all row s h;omega
  |succ n ih =>
    intro m all row s hn hm;cases m with
    |zero=>omega
    |succ m =>
      rw[jf,nL]
      by_cases he:lg s=true
      · rw[if_pos he,if_pos he];simp only[List.append_nil];split
        · rename_i h1;have h2:s.tail.length+1=s.length:=by cases s with|nil=>cases h1|cons a b=>simp
          exact fuel _ _ _ _ _ _ (Nat.le_refl _) (by omega) (by omega)
        · rfl
      · rw[if_neg he,if_neg he];cases hp:gu rows s with
        |none=>rfl
        |some p =>
          obtain⟨y,t⟩:=p;have hlt:=gr hr hp;simp only;rw[ih m all (row++[y]) t (by omega) (by omega)];cases hl:nL rows m t with
          |none=>rfl
          |some q =>
            obtain⟨l,r⟩:=q;simp only[Option.map_some,List.append_assoc,List.singleton_append]
theorem vp {rows:By->Option (Nd×By)}(hr:∀{s x r},rows s=some (x,r)->r.length<=s.length) (all:List Nd) (s:By) :
    jf rows (s.length+1) all [] s=match Ay rows s with|none=>none|some (x,r)=>tR rows (all++[x]) r:=by
  rw[Gv hr _ (s.length+1) _ _ _ (Nat.lt_succ_self _) (Nat.lt_succ_self _)];unfold Ay;cases hl:nL rows (s.length+1) s with
  |none=>rfl
  |some q =>
    obtain⟨l,r⟩:=q;simp only[Option.map_some,List.nil_append,tR];split
    · exact vk hr r.length _ _ _ _ _ (by simp) (by simp;omega) (by omega)
    · rfl
theorem Ca {rows:By->Option (Nd×By)}(hr:∀{s x r},rows s=some (x,r)->r.length<=s.length){s:By}{x:Nd}{r:By}(h:Ay rows s=some (x,r)):r.length<=s.length:=by
  unfold Ay at h;simp only[Option.map_eq_some_iff] at h;obtain⟨⟨l,r'⟩,h1,h2⟩:=h;cases h2;exact(Cb hr _ h1).1
def bC (s:By):Nd×Int:=if 200<s.length then (oP,3) else match lp s with|some x=>(x,0)|none=>(oP,10)
end Go.Proofs.YtoickfdopobmgaaGreatDoor
namespace Go.Proofs.YtoickfdopobmgaaGreatDoor
open Go
section
variable {k e:Int}{n:Nat}
inductive Tr where
  |mk (k:Int) (t:By) (l:List Tr)
def Tr.kind:Tr->Int|.mk k _ _=>k
def Tr.text:Tr->By|.mk _ t _=>t
def Tr.kids:Tr->List Tr|.mk _ _ l=>l
abbrev Un:=Int×By×Int
inductive PS where
  |ok (r:List Un)
  |bad (m:Int)
def PS.cm:PS->Bool|.ok _=>false|.bad _=>true
def PS.len:PS->Nat|.ok r=>r.length|.bad _=>0
def OG (e:Int):List Un->Int| []=>e|u::_=>u.2.2
def cI (e:Int):PS->PS|.ok r=>.bad (OG e r)|.bad m=>.bad m
def bW (k:Int) (ts:List By):PS->Option By×PS
  |.ok (u::r)=>if u.1=k/\u.2.1∈ts then (some u.2.1,.ok r) else (none,.ok (u::r))
  |.ok []=>(none,.ok [])
  |.bad m=>(none,.bad m)
def cC (e k:Int) (t:By) (s:PS):PS:=match (bW k [t] s).1 with|some _=>(bW k [t] s).2|none=>cI e (bW k [t] s).2
def cF (e:Int):PS->By×PS
  |.ok (u::r)=>if u.1=3 then (u.2.1,.ok r) else ([],cI e (.ok (u::r)))
  |.ok []=>([],cI e (.ok []))
  |.bad m=>([],.bad m)
abbrev kZ:By:=[108,101,116]
abbrev Kq:By:=[105,110]
abbrev Ai:By:=[105,102]
abbrev lJ:By:=[101,108,115,101]
abbrev uQ:By:=[102,117,110]
abbrev s7:By:=[111,114]
abbrev lK:By:=[97,110,100]
abbrev kY:By:=[110,111,116]
abbrev kI:By:=[116,114,117,101]
abbrev nC:By:=[102,97,108,115,101]
abbrev uR:By:=[124,124]
abbrev uT:By:=[38,38]
abbrev uS:By:=[33]
abbrev jG:By:=[45]
abbrev H6:List By:=[[61,61],[33,61],[60],[60,61],[62],[62,61]]
abbrev HZ:List By:=[[43],[45]]
abbrev BU:List By:=[[42],[47],[37]]
def Cn (k:Nat) (s:PS):Option By×PS :=
  if k=0 then (match bW 4 [s7] s with|(some _,s)=>(some s7,s)|(none,s)=>match bW 6 [uR] s with|(some _,s)=>(some s7,s)|(none,s)=>(none,s))
  else if k=1 then (match bW 4 [lK] s with|(some _,s)=>(some lK,s)|(none,s)=>match bW 6 [uT] s with|(some _,s)=>(some lK,s)|(none,s)=>(none,s))
  else if k=3 then bW 6 H6 s
  else if k=4 then bW 6 HZ s
  else bW 6 BU s
inductive Dp where
  |stmt|expr|lt (alone:Bool)|choice|fn|block
  |blockL (l:List Tr)|part (k:Nat)|opL (k:Nat) (t:Tr)|callL (t:Tr)|argL (t:Tr)|atom
def lZ (u:Un):Option Tr :=
  if u.1=5 then some (.mk 0 u.2.1 []) else if u.1=9 then some (.mk 1 u.2.1 []) else if u.1=3 then some (.mk 3 u.2.1 [])
  else if u.1=4/\(u.2.1=kI\/u.2.1=nC) then some (.mk 2 u.2.1 []) else none
def HA:Tr:=.mk 0 [] []
abbrev sO:=Option (Tr×PS)
def dI (a:sO) (f:Tr->PS->sO):sO:=a.bind fun p=>f p.1 p.2
def pM (e:Int):Nat->Dp->PS->sO
  | 0,_,_=>none
  |n+1,.stmt,s=>match bW 4 [kZ] s with
    |(some _,s)=>pM e n (.lt true) s
    |(none,s)=>pM e n .expr s
  |n+1,.expr,s=>match bW 4 [kZ] s with
    |(some _,s)=>pM e n (.lt false) s
    |(none,s)=>match bW 4 [Ai] s with
      |(some _,s)=>pM e n .choice s
      |(none,s)=>match bW 4 [uQ] s with
        |(some _,s)=>pM e n .fn s
        |(none,s)=>pM e n (.part 0) s
  |n+1,.lt alone,s=>dI (pM e n .expr (cC e 6 [61] (cF e s).2)) fun v s1=>match bW 4 [Kq] s1 with
    |(some _,s2)=>dI (pM e n .expr s2) fun w s3=>some (.mk 7 (cF e s).1 [v,w],s3)
    |(none,s2)=>some (.mk 7 (cF e s).1 [v],if alone then s2 else cI e s2)
  |n+1,.choice,s=>dI (pM e n .expr s) fun a s=>dI (pM e n .block s) fun b s=>match bW 4 [Ai] (cC e 4 lJ s) with
    |(some _,s)=>dI (pM e n .choice s) fun c s=>some (.mk 6 [] [a,b,c],s)
    |(none,s)=>dI (pM e n .block s) fun c s=>some (.mk 6 [] [a,b,c],s)
  |n+1,.fn,s=>match bW 6 [[44]] (cF e s).2 with
    |(some _,s1)=>dI (pM e n .fn s1) fun a s2=>some (.mk 8 (cF e s).1 [a],s2)
    |(none,s1)=>dI (pM e n .expr (cC e 6 [45,62] s1)) fun a s2=>some (.mk 8 (cF e s).1 [a],s2)
  |n+1,.block,s=>pM e n (.blockL []) (cC e 7 [123] s)
  |n+1,.blockL l,s=>dI (pM e n .stmt s) fun t s=>match bW 6 [[59]] s with
    |(more,s)=>match bW 8 [[125]] s with
      |(some _,s)=>some (.mk 10 [] (l++[t]),s)
      |(none,s)=>if more.isSome && !s.cm then pM e n (.blockL (l++[t])) s else some (.mk 10 [] (l++[t]),cI e s)
  |n+1,.part k,s =>
    if k=7 then dI (pM e n .atom s) fun t s=>pM e n (.callL t) s
    else if k=2 then match bW 4 [kY] s with
      |(some _,s)=>dI (pM e n (.part 2) s) fun t s=>some (.mk 4 kY [t],s)
      |(none,s)=>match bW 6 [uS] s with
        |(some _,s)=>dI (pM e n (.part 2) s) fun t s=>some (.mk 4 kY [t],s)
        |(none,s)=>pM e n (.part 3) s
    else if k=6 then match bW 6 [jG] s with
      |(some _,s)=>dI (pM e n (.part 6) s) fun t s=>some (.mk 4 jG [t],s)
      |(none,s)=>pM e n (.part 7) s
    else dI (pM e n (.part (k+1)) s) fun t s=>pM e n (.opL k t) s
  |n+1,.opL k t,s=>match Cn k s with
    |(some op,s)=>dI (pM e n (.part (k+1)) s) fun u s=>if k=3 then some (.mk 5 op [t,u],s) else pM e n (.opL k (.mk 5 op [t,u])) s
    |(none,s)=>some (t,s)
  |n+1,.callL t,s=>match bW 7 [[40]] s with
    |(some _,s)=>pM e n (.argL t) s
    |(none,s)=>some (t,s)
  |n+1,.argL t,s=>dI (pM e n .expr s) fun a s=>match bW 6 [[44]] s with
    |(some _,s)=>pM e n (.argL (.mk 9 [] [t,a])) s
    |(none,s)=>pM e n (.callL (.mk 9 [] [t,a])) (cC e 8 [41] s)
  |n+1,.atom,s=>match s with
    |.bad m=>some (HA,.bad m)
    |.ok []=>some (HA,cI e (.ok []))
    |.ok (u::r)=>match lZ u with
      |some t=>some (t,.ok r)
      |none=>if u.1=7/\u.2.1=[123] then pM e n .block (.ok (u::r))
        else if u.1=7/\u.2.1=[40] then dI (pM e n .expr (.ok r)) fun t s=>some (t,cC e 8 [41] s)
        else some (HA,cI e (.ok (u::r)))
theorem jY (k:Int) (ts:List By) (u:Un) (r:List Un):bW k ts (.ok (u::r))=if u.1=k/\u.2.1∈ts then (some u.2.1,.ok r) else (none,.ok (u::r)):=rfl
theorem jS (e:Int) (u:Un) (r:List Un):cF e (.ok (u::r))=if u.1=3 then (u.2.1,.ok r) else ([],cI e (.ok (u::r))):=rfl
theorem K4 (k:Int) (ts:List By) (m:Int):bW k ts (.bad m)=(none,.bad m):=rfl
theorem aJ {ts:List By}{s s':PS}(h:bW k ts s=(none,s')):s'=s:=by
  cases s with
  |bad m=>cases h;rfl
  |ok r=>cases r with
    |nil=>cases h;rfl
    |cons u r=>rw[jY] at h;split at h<;>cases h;rfl
theorem lW {ts:List By}{s s':PS}{t:By}(h:bW k ts s=(some t,s')):∃u r,s= .ok (u::r)/\s'= .ok r/\u.1=k/\u.2.1=t/\t∈ts:=by
  cases s with
  |bad m=>cases h
  |ok r=>cases r with
    |nil=>cases h
    |cons u r=>rw[jY] at h;split at h<;>cases h;rename_i q;exact⟨u,r,rfl,rfl,q.1,rfl,q.2⟩
theorem cZ {ts:List By}{s s':PS}{t:By}(h:bW k ts s=(some t,s')):s.len=s'.len+1:=by
  obtain⟨u,r,rfl,rfl,_⟩:=lW h;simp[PS.len]
theorem zH (e:Int) (s:PS):∃m,cI e s= .bad m:=by cases s<;>exact⟨_,rfl⟩
theorem lS (e k:Int) (t:By) (s:PS):(cC e k t s).len<=s.len:=by
  unfold cC
  rcases hq:bW k [t] s with ⟨q,s'⟩
  cases q with
  |none=>have:=aJ hq;subst this;obtain⟨m,hm⟩:=zH e s';simp[hm,PS.len]
  |some x=>have:=cZ hq;simp;omega
theorem zh (e:Int) (s:PS):(cF e s).2.len<=s.len/\((cF e s).2.len<s.len\/(cF e s).2.cm=true):=by
  cases s with
  |bad m=>simp[cF,PS.cm]
  |ok r=>cases r with
    |nil=>simp[cF,cI,PS.cm,PS.len]
    |cons u r =>
      rw[jS];split
      · simp[PS.len]
      · simp[cI,PS.len,PS.cm]
theorem sw (e:Int) (s:PS):(cI e s).len=0:=by cases s<;>rfl
theorem Cm {k:Nat}{s s':PS}(h:Cn k s=(none,s')):s'=s:=by
  unfold Cn at h;split at h
  · rcases hq:bW 4 [s7] s with ⟨q,s1⟩
    rw[hq] at h;cases q with
    |some x=>simp at h
    |none =>
      have e1:=aJ hq;subst e1
      rcases hq2:bW 6 [uR] s1 with ⟨q,s2⟩
      simp only[hq2] at h;cases q with
      |some x=>simp at h
      |none=>have:=aJ hq2;subst this;simp at h;exact h.symm
  · split at h
    · rcases hq:bW 4 [lK] s with ⟨q,s1⟩
      rw[hq] at h;cases q with
      |some x=>simp at h
      |none =>
        have e1:=aJ hq;subst e1
        rcases hq2:bW 6 [uT] s1 with ⟨q,s2⟩
        simp only[hq2] at h;cases q with
        |some x=>simp at h
        |none=>have:=aJ hq2;subst this;simp at h;exact h.symm
    · split at h
      · exact aJ h
      · split at h<;>exact aJ h
theorem Ck {k:Nat}{s s':PS}{t:By}(h:Cn k s=(some t,s')):∃u r,s= .ok (u::r)/\s'= .ok r:=by
  have key:∀{k ts}{s s':PS}{t:By},bW k ts s=(some t,s')->∃u r,s= .ok (u::r)/\s'= .ok r:=fun h=>by
    obtain⟨u,r,h1,h2,_⟩:=lW h;exact⟨u,r,h1,h2⟩
  unfold Cn at h;split at h
  · rcases hq:bW 4 [s7] s with ⟨q,s1⟩
    rw[hq] at h;cases q with
    |some x=>simp at h;rw[<-h.2];exact key hq
    |none =>
      have e1:=aJ hq;subst e1
      rcases hq2:bW 6 [uR] s1 with ⟨q,s2⟩
      simp only[hq2] at h;cases q with
      |some x=>simp at h;rw[<-h.2];exact key hq2
      |none=>simp at h
  · split at h
    · rcases hq:bW 4 [lK] s with ⟨q,s1⟩
      rw[hq] at h;cases q with
      |some x=>simp at h;rw[<-h.2];exact key hq
      |none =>
        have e1:=aJ hq;subst e1
        rcases hq2:bW 6 [uT] s1 with ⟨q,s2⟩
        simp only[hq2] at h;cases q with
        |some x=>simp at h;rw[<-h.2];exact key hq2
        |none=>simp at h
    · split at h
      · exact key h
      · split at h<;>exact key h
theorem KI {k:Nat}{s s':PS}{t:By}(h:Cn k s=(some t,s')):s.len=s'.len+1:=by
  obtain⟨u,r,rfl,rfl⟩:=Ck h;simp[PS.len]
theorem az {a:sO}{f:Tr->PS->sO}{y:Tr×PS}(h:dI a f=some y):∃t s,a=some (t,s)/\f t s=some y:=by
  cases a with
  |none=>cases h
  |some p=>exact⟨p.1,p.2,rfl,h⟩
theorem BS {a:sO}{f:Tr->PS->sO}{t:Tr}{s:PS}(h:a=some (t,s)):dI a f=f t s:=by rw[h];rfl
theorem Ea (e:Int) (R:PS->PS->Prop) (rf:∀s,R s s) (tr:∀{a b c},R a b->R b c->R a c) (r1:∀{u r},R (.ok (u::r)) (.ok r)) (hf:∀{s},R s (cI e s)):∀(n:Nat) (j:Dp) (s:PS) (t:Tr) (s':PS),pM e n j s=some (t,s')->R s s'
  | 0,_,_,_,_,h=>by cases h
  |n+1,j,s,t,s',h=>by
    have ih:=Ea e R rf tr r1 hf n
    have hi:∀{k ts}{s s':PS} {o},bW k ts s=(o,s')->R s s':=fun {k ts s s' o} q=>by
      cases o with
      |none=>have:=aJ q;subst this;exact rf _
      |some x=>obtain⟨u,r,rfl,rfl,_⟩:=lW q;exact r1
    have hm:∀{k t}{s:PS},R s (cC e k t s):=fun {k t s}=>by
      unfold cC
      rcases hq:bW k [t] s with ⟨q,s'⟩
      cases q with
      |none=>exact tr (hi hq) hf
      |some x=>exact hi hq
    have ho:∀{k}{s s':PS} {o},Cn k s=(o,s')->R s s':=fun {k s s' o} q=>by
      cases o with
      |none=>have:=Cm q;subst this;exact rf _
      |some x=>obtain⟨u,r,rfl,rfl,_⟩:=Ck q;exact r1
    have hn:∀{s:PS},R s (cF e s).2:=fun {s}=>by
      cases s with
      |bad m=>exact rf _
      |ok r=>cases r with
        |nil=>exact hf
        |cons u r =>
          rw[jS];split
          · exact r1
          · exact hf
    cases j with
    |stmt =>
      simp only[pM] at h
      rcases h1:bW 4 [kZ] s with ⟨o,s1⟩
      rw[h1] at h;cases o<;>exact tr (hi h1) (ih _ _ _ _ h)
    |expr =>
      simp only[pM] at h
      rcases h1:bW 4 [kZ] s with ⟨o,s1⟩
      rw[h1] at h;cases o with
      |some x=>exact tr (hi h1) (ih _ _ _ _ h)
      |none =>
        simp only at h
        rcases h2:bW 4 [Ai] s1 with ⟨o,s2⟩
        rw[h2] at h;cases o with
        |some x=>exact tr (hi h1) (tr (hi h2) (ih _ _ _ _ h))
        |none =>
          simp only at h
          rcases h3:bW 4 [uQ] s2 with ⟨o,s3⟩
          rw[h3] at h;cases o<;>exact tr (hi h1) (tr (hi h2) (tr (hi h3) (ih _ _ _ _ h)))
    |lt alone =>
      simp only[pM] at h;obtain⟨v,s1,h1,h⟩:=az h;have k1:=tr hn (tr hm (ih _ _ _ _ h1))
      rcases h2:bW 4 [Kq] s1 with ⟨o,s2⟩
      rw[h2] at h;cases o with
      |some x =>
        simp only at h;obtain⟨w,s3,h3,h⟩:=az h;cases h;exact tr k1 (tr (hi h2) (ih _ _ _ _ h3))
      |none =>
        simp only at h;cases h;cases alone
        · exact tr k1 (tr (hi h2) hf)
        · exact tr k1 (hi h2)
    |choice =>
      simp only[pM] at h;obtain⟨a,s1,h1,h⟩:=az h;obtain⟨b,s2,h2,h⟩:=az h;have k:=tr (ih _ _ _ _ h1) (tr (ih _ _ _ _ h2) (hm (k:=4) (t:=lJ)))
      rcases h3:bW 4 [Ai] (cC e 4 lJ s2) with ⟨o,s3⟩
      rw[h3] at h;cases o with
      |some x=>simp only at h;obtain⟨c,s4,h4,h⟩:=az h;cases h;exact tr k (tr (hi h3) (ih _ _ _ _ h4))
      |none=>simp only at h;obtain⟨c,s4,h4,h⟩:=az h;cases h;exact tr k (tr (hi h3) (ih _ _ _ _ h4))
    |fn =>
      simp only[pM] at h
      rcases h3:bW 6 [[44]] (cF e s).2 with ⟨o,s3⟩
      rw[h3] at h;cases o with
      |some x=>simp only at h;obtain⟨c,s4,h4,h⟩:=az h;cases h;exact tr hn (tr (hi h3) (ih _ _ _ _ h4))
      |none=>simp only at h;obtain⟨c,s4,h4,h⟩:=az h;cases h;exact tr hn (tr (hi h3) (tr hm (ih _ _ _ _ h4)))
    |block=>simp only[pM] at h;exact tr hm (ih _ _ _ _ h)
    |blockL l =>
      simp only[pM] at h;obtain⟨t1,s1,h1,h⟩:=az h
      rcases h2:bW 6 [[59]] s1 with ⟨o,s2⟩
      rw[h2] at h;simp only at h
      rcases h3:bW 8 [[125]] s2 with ⟨q,s3⟩
      rw[h3] at h;have k:=tr (ih _ _ _ _ h1) (tr (hi h2) (hi h3));cases q with
      |some x=>simp only at h;cases h;exact k
      |none =>
        simp only at h;split at h
        · exact tr k (ih _ _ _ _ h)
        · cases h;exact tr k hf
    |part k =>
      simp only[pM] at h;split at h
      · obtain⟨t1,s1,h1,h⟩:=az h;exact tr (ih _ _ _ _ h1) (ih _ _ _ _ h)
      · split at h
        · rcases h1:bW 4 [kY] s with ⟨o,s1⟩
          rw[h1] at h;cases o with
          |some x=>simp only at h;obtain⟨c,s4,h4,h⟩:=az h;cases h;exact tr (hi h1) (ih _ _ _ _ h4)
          |none =>
            simp only at h
            rcases h2:bW 6 [uS] s1 with ⟨o,s2⟩
            rw[h2] at h;cases o with
            |some x=>simp only at h;obtain⟨c,s4,h4,h⟩:=az h;cases h;exact tr (hi h1) (tr (hi h2) (ih _ _ _ _ h4))
            |none=>exact tr (hi h1) (tr (hi h2) (ih _ _ _ _ h))
        · split at h
          · rcases h1:bW 6 [jG] s with ⟨o,s1⟩
            rw[h1] at h;cases o with
            |some x=>simp only at h;obtain⟨c,s4,h4,h⟩:=az h;cases h;exact tr (hi h1) (ih _ _ _ _ h4)
            |none=>exact tr (hi h1) (ih _ _ _ _ h)
          · obtain⟨t1,s1,h1,h⟩:=az h;exact tr (ih _ _ _ _ h1) (ih _ _ _ _ h)
    |opL k t0 =>
      simp only[pM] at h
      rcases h1:Cn k s with ⟨o,s1⟩
      rw[h1] at h;cases o with
      |some x =>
        simp only at h;obtain⟨c,s4,h4,h⟩:=az h;split at h
        · cases h;exact tr (ho h1) (ih _ _ _ _ h4)
        · exact tr (ho h1) (tr (ih _ _ _ _ h4) (ih _ _ _ _ h))
      |none=>simp only at h;cases h;exact ho h1
    |callL t0 =>
      simp only[pM] at h
      rcases h1:bW 7 [[40]] s with ⟨o,s1⟩
      rw[h1] at h;cases o with
      |some x=>exact tr (hi h1) (ih _ _ _ _ h)
      |none=>simp only at h;cases h;exact hi h1
    |argL t0 =>
      simp only[pM] at h;obtain⟨t1,s1,h1,h⟩:=az h
      rcases h2:bW 6 [[44]] s1 with ⟨o,s2⟩
      rw[h2] at h;cases o with
      |some x=>exact tr (ih _ _ _ _ h1) (tr (hi h2) (ih _ _ _ _ h))
      |none=>exact tr (ih _ _ _ _ h1) (tr (hi h2) (tr hm (ih _ _ _ _ h)))
    |atom =>
      cases s with
      |bad m=>simp only[pM] at h;cases h;exact rf _
      |ok r=>cases r with
        |nil=>simp only[pM] at h;cases h;exact hf
        |cons u r =>
          simp only[pM] at h;have kk:R (PS.ok (u::r)) (PS.ok r):=r1;split at h
          · cases h;exact kk
          · split at h
            · exact ih _ _ _ _ h
            · split at h
              · obtain⟨t1,s1,h1,h⟩:=az h;cases h;exact tr kk (tr (ih _ _ _ _ h1) hm)
              · cases h;exact hf
theorem Fw (e:Int) (n:Nat) (j:Dp) (s:PS) (t:Tr) (s':PS) (h:pM e n j s=some (t,s')):s'.len<=s.len/\(∀m,s= .bad m->s'= .bad m) :=
  Ea e (fun s s'=>s'.len<=s.len/\(∀m,s= .bad m->s'= .bad m)) (fun _=>⟨Nat.le_refl _,fun _ q=>q⟩) (fun p q=>⟨Nat.le_trans q.1 p.1,fun m r=>q.2 m (p.2 m r)⟩) ⟨by simp[PS.len],fun m q=>by cases q⟩ ⟨by rw[sw];omega,fun m q=>by subst q;rfl⟩ n j s t s' h
theorem vB {j:Dp}{s:PS}{t:Tr}{s':PS}(h:pM e n j s=some (t,s')):s'.len<=s.len:=(Fw e n j s t s' h).1
theorem IG {j:Dp}{m:Int}{t:Tr}{s':PS}(h:pM e n j (.bad m)=some (t,s')):s'= .bad m:=(Fw e n j _ t s' h).2 m rfl
theorem AH (e:Int):∀(n:Nat) (j:Dp) (s:PS) (y:Tr×PS),pM e n j s=some y->pM e (n+1) j s=some y
  | 0,_,_,_,h=>by cases h
  |n+1,j,s,y,h=>by
    have ih:=AH e n
    have th:∀{a:Dp}{s:PS}{f g:Tr->PS->sO}{y:Tr×PS},dI (pM e n a s) f=some y->(∀t s y,f t s=some y->g t s=some y)->dI (pM e (n+1) a s) g=some y:=fun {a s f g y} q k=>by
      obtain⟨t,s1,q1,q2⟩:=az q;rw[BS (ih _ _ _ q1)];exact k _ _ _ q2
    cases j with
    |stmt=>rw[pM] at h ⊢;split at h<;>exact ih _ _ _ h
    |expr =>
      rw[pM] at h ⊢;split at h
      · exact ih _ _ _ h
      · split at h
        · exact ih _ _ _ h
        · split at h<;>exact ih _ _ _ h
    |lt alone =>
      rw[pM] at h ⊢;refine th h fun t s y k=>?_
      split at k
      · exact th k fun _ _ _ k=>k
      · exact k
    |choice =>
      rw[pM] at h ⊢;refine th h fun t s y k=>th k fun t s y k=>?_
      split at k
      · exact th k fun _ _ _ k=>k
      · exact th k fun _ _ _ k=>k
    |fn =>
      rw[pM] at h ⊢;split at h
      · exact th h fun _ _ _ k=>k
      · exact th h fun _ _ _ k=>k
    |block=>rw[pM] at h ⊢;exact ih _ _ _ h
    |blockL l =>
      rw[pM] at h ⊢;refine th h fun t s y k=>?_
      rcases h2:bW 6 [[59]] s with ⟨o,s2⟩
      rw[h2] at k;simp only at k ⊢;split at k
      · exact k
      · split at k
        · rename_i q;rw[if_pos q];exact ih _ _ _ k
        · rename_i q;rw[if_neg q];exact k
    |part k =>
      rw[pM] at h ⊢;split at h
      · rename_i q;rw[if_pos q];exact th h fun _ _ _ k=>ih _ _ _ k
      · rename_i q;rw[if_neg q];split at h
        · rename_i q;rw[if_pos q];split at h
          · exact th h fun _ _ _ k=>k
          · split at h
            · exact th h fun _ _ _ k=>k
            · exact ih _ _ _ h
        · rename_i q;rw[if_neg q];split at h
          · rename_i q;rw[if_pos q];split at h
            · exact th h fun _ _ _ k=>k
            · exact ih _ _ _ h
          · rename_i q;rw[if_neg q];exact th h fun _ _ _ k=>ih _ _ _ k
    |opL k t0 =>
      rw[pM] at h ⊢;split at h
      · refine th h fun t s y k=>?_
        split at k
        · rename_i q;rw[if_pos q];exact k
        · rename_i q;rw[if_neg q];exact ih _ _ _ k
      · exact h
    |callL t0 =>
      rw[pM] at h ⊢;split at h
      · exact ih _ _ _ h
      · exact h
    |argL t0 =>
      rw[pM] at h ⊢;refine th h fun t s y k=>?_
      split at k<;>exact ih _ _ _ k
    |atom =>
      cases s with
      |bad m=>exact h
      |ok r=>cases r with
        |nil=>exact h
        |cons u r =>
          rw[pM] at h ⊢;split at h
          · exact h
          · split at h
            · rename_i q;rw[if_pos q];exact ih _ _ _ h
            · rename_i q;rw[if_neg q];split at h
              · rename_i q;rw[if_pos q];exact th h fun _ _ _ k=>k
              · rename_i q;rw[if_neg q];exact h
theorem Fv {m:Nat}{j:Dp}{s:PS}{y:Tr×PS}(h:pM e n j s=some y) (hm:n<=m):pM e m j s=some y:=by
  induction m with
  | zero => have : n = 0 := by omega
            subst this;exact h
  |succ m ih =>
    rcases Nat.lt_or_ge m n with q|q
    · have:n=m+1:=by omega
      subst this;exact h
    · exact AH e m j s y (ih q)
def Tm (F:Nat->sO):Prop:=∃n y,∀m,n<=m->F m=some y
theorem eE (y:Tr×PS):Tm fun _=>some y:=⟨0,y,fun _ _=>rfl⟩
theorem Tm.then {j:Dp}{s:PS}{f:Nat->Tr->PS->sO}(h:Tm fun n=>pM e n j s) (k:∀t s',s'.len<=s.len->Tm fun n=>f n t s'):Tm fun n=>dI (pM e n j s) (f n):=by
  obtain⟨n,⟨t,s'⟩,h⟩:=h;obtain⟨n2,y2,k⟩:=k t s' (vB (h n (Nat.le_refl _)))
  exact⟨max n n2,y2,fun m hm=>by
    show dI (pM e m j s) (f m)=some y2
    rw[BS (h m (by omega))];exact k m (by omega)⟩
theorem Tm.succ {j:Dp}{s:PS}{F:Nat->sO}(h:Tm F) (k:∀n,pM e (n+1) j s=F n):Tm fun n=>pM e n j s:=by
  obtain⟨n,y,h⟩:=h;refine⟨n+1,y,fun m hm=>?_⟩;obtain⟨m',rfl⟩:∃m',m=m'+1:=⟨m-1,by omega⟩
  show pM e (m'+1) j s=some y
  rw[k];exact h m' (by omega)
def Ri:Dp->Prop|.part k=>k<=7|.opL k _=>k<=5|_=>True
theorem IF (e:Int):∀(L:Nat) (s:PS),s.len<=L->∀j,Ri j->Tm fun n=>pM e n j s:=by
  intro L
  induction L using Nat.strongRecOn with
  |_ L lo0 =>
  have lo:∀s:PS,s.len<L->∀j,Ri j->Tm fun n=>pM e n j s:=fun s hs j hj=>lo0 s.len hs s (Nat.le_refl _) j hj
  have atom:∀s:PS,s.len<=L->Tm fun n=>pM e n .atom s:=by
    intro s hs;cases s with
    |bad m=>exact(eE _).succ fun n=>by rw[pM]
    |ok r=>cases r with
      |nil=>exact(eE _).succ fun n=>by rw[pM]
      |cons u r =>
        have hr:r.length<L:=hs;have hl:=lo (.ok r) hr;cases h1:lZ u with
        |some t=>exact(eE (t,.ok r)).succ fun n=>by rw[pM];simp only[h1]
        |none =>
          by_cases h2:u.1=7/\u.2.1=[123]
          · have hb:Tm fun n=>pM e n .block (.ok (u::r)):=(hl (.blockL []) trivial).succ fun n=>by
              rw[pM];have:cC e 7 [123] (.ok (u::r))= .ok r:=by unfold cC;rw[jY,if_pos ⟨h2.1,by simp[h2.2]⟩]
              rw[this]
            exact hb.succ fun n=>by rw[pM];simp only[h1];rw[if_pos h2]
          · by_cases h3:u.1=7/\u.2.1=[40]
            · exact((hl .expr trivial).then fun t s' _=>eE (t,cC e 8 [41] s')).succ fun n=>by rw[pM];simp only[h1];rw[if_neg h2,if_pos h3]
            · exact(eE (HA,cI e (.ok (u::r)))).succ fun n=>by rw[pM];simp only[h1];rw[if_neg h2,if_neg h3]
  have callL:∀t (s:PS),s.len<=L->Tm fun n=>pM e n (.callL t) s:=by
    intro t s hs
    rcases h1:bW 7 [[40]] s with ⟨o,s1⟩
    cases o with
    |some x=>exact(lo s1 (by have:=cZ h1;omega) (.argL t) trivial).succ fun n=>by rw[pM,h1]
    |none=>exact(eE (t,s1)).succ fun n=>by rw[pM,h1]
  have p7:∀s:PS,s.len<=L->Tm fun n=>pM e n (.part 7) s:=fun s hs =>
    ((atom s hs).then (f:=fun n t s=>pM e n (.callL t) s) fun t s' hl=>callL t s' (Nat.le_trans hl hs)).succ fun n=>by rw[pM,if_pos rfl]
  have p6:∀s:PS,s.len<=L->Tm fun n=>pM e n (.part 6) s:=by
    intro s hs
    rcases h1:bW 6 [jG] s with ⟨o,s1⟩
    cases o with
    |some x=>exact((lo s1 (by have:=cZ h1;omega) (.part 6) (by decide:(6:Nat)<=7)).then fun t s' _=>eE (.mk 4 jG [t],s')).succ fun n=>by rw[pM,if_neg (by decide),if_neg (by decide),if_pos rfl,h1]
    |none=>exact(p7 s1 (by have:=aJ h1;subst this;exact hs)).succ fun n=>by rw[pM,if_neg (by decide),if_neg (by decide),if_pos rfl,h1]
  have opL:∀k,k<=5->∀t (s:PS),s.len<=L->Tm fun n=>pM e n (.opL k t) s:=by
    intro k hk t s hs
    rcases h1:Cn k s with ⟨o,s1⟩
    cases o with
    |some x =>
      have hl:=KI h1
      by_cases h3:k=3
      · exact((lo s1 (by omega) (.part (k+1)) (show k+1<=7 by omega)).then (f:=fun _ u s=>some (.mk 5 x [t,u],s)) fun u s' _=>eE _).succ fun n=>by
          rw[pM,h1];simp only[if_pos h3]
      · exact((lo s1 (by omega) (.part (k+1)) (show k+1<=7 by omega)).then (f:=fun n u s=>pM e n (.opL k (.mk 5 x [t,u])) s) fun u s' hl'=>lo s' (by omega) _ hk).succ fun n=>by
          rw[pM,h1];simp only[if_neg h3]
    |none=>exact(eE (t,s1)).succ fun n=>by rw[pM,h1]
  have up:∀k,k<=5->k≠2->(∀s:PS,s.len<=L->Tm fun n=>pM e n (.part (k+1)) s)->∀s:PS,s.len<=L->Tm fun n=>pM e n (.part k) s:=by
    intro k hk h2 h s hs
    exact((h s hs).then (f:=fun n t s=>pM e n (.opL k t) s) fun t s' hl=>opL k hk t s' (Nat.le_trans hl hs)).succ fun n=>by
      rw[pM,if_neg (by omega),if_neg h2,if_neg (by omega)]
  have p3:=up 3 (by decide) (by decide) (up 4 (by decide) (by decide) (up 5 (by decide) (by decide) p6))
  have p2:∀s:PS,s.len<=L->Tm fun n=>pM e n (.part 2) s:=by
    intro s hs
    rcases h1:bW 4 [kY] s with ⟨o,s1⟩
    cases o with
    |some x=>exact((lo s1 (by have:=cZ h1;omega) (.part 2) (by decide:(2:Nat)<=7)).then fun t s' _=>eE (.mk 4 kY [t],s')).succ fun n=>by rw[pM,if_neg (by decide),if_pos rfl,h1]
    |none =>
      have e1:=aJ h1
      rcases h2:bW 6 [uS] s1 with ⟨o,s2⟩
      cases o with
      |some x=>exact((lo s2 (by have:=cZ h2;subst e1;omega) (.part 2) (by decide:(2:Nat)<=7)).then fun t s' _=>eE (.mk 4 kY [t],s')).succ fun n=>by rw[pM,if_neg (by decide),if_pos rfl,h1];simp only[h2]
      |none=>exact(p3 s2 (by have:=aJ h2;subst this e1;exact hs)).succ fun n=>by rw[pM,if_neg (by decide),if_pos rfl,h1];simp only[h2]
  have p1:=up 1 (by decide) (by decide) p2;have p0:=up 0 (by decide) (by decide) p1
  have part:∀k,k<=7->∀s:PS,s.len<=L->Tm fun n=>pM e n (.part k) s:=fun k hk s hs=>by
    match k,hk with
    | 0,_=>exact p0 s hs
    | 1,_=>exact p1 s hs
    | 2,_=>exact p2 s hs
    | 3,_=>exact p3 s hs
    | 4,_=>exact up 4 (by decide) (by decide) (up 5 (by decide) (by decide) p6) s hs
    | 5,_=>exact up 5 (by decide) (by decide) p6 s hs
    | 6,_=>exact p6 s hs
    | 7,_=>exact p7 s hs
  have expr:∀s:PS,s.len<=L->Tm fun n=>pM e n .expr s:=by
    intro s hs
    rcases h1:bW 4 [kZ] s with ⟨o,s1⟩
    cases o with
    |some x=>exact(lo s1 (by have:=cZ h1;omega) (.lt false) trivial).succ fun n=>by rw[pM,h1]
    |none =>
      have e1:=aJ h1
      rcases h2:bW 4 [Ai] s1 with ⟨o,s2⟩
      cases o with
      |some x=>exact(lo s2 (by have:=cZ h2;subst e1;omega) .choice trivial).succ fun n=>by rw[pM,h1];simp only[h2]
      |none =>
        have e2:=aJ h2
        rcases h3:bW 4 [uQ] s2 with ⟨o,s3⟩
        cases o with
        |some x=>exact(lo s3 (by have:=cZ h3;subst e2 e1;omega) .fn trivial).succ fun n=>by rw[pM,h1];simp only[h2,h3]
        |none=>exact(p0 s3 (by have:=aJ h3;subst this e2 e1;exact hs)).succ fun n=>by rw[pM,h1];simp only[h2,h3]
  have stmt:∀s:PS,s.len<=L->Tm fun n=>pM e n .stmt s:=by
    intro s hs
    rcases h1:bW 4 [kZ] s with ⟨o,s1⟩
    cases o with
    |some x=>exact(lo s1 (by have:=cZ h1;omega) (.lt true) trivial).succ fun n=>by rw[pM,h1]
    |none=>exact(expr s1 (by have:=aJ h1;subst this;exact hs)).succ fun n=>by rw[pM,h1]
  have blockL:∀l (s:PS),s.len<=L->Tm fun n=>pM e n (.blockL l) s:=by
    intro l s hs;refine((stmt s hs).then (f:=fun n t s=>match bW 6 [[59]] s with
    |(more,s)=>match bW 8 [[125]] s with
      |(some _,s)=>some (.mk 10 [] (l++[t]),s)
      |(none,s)=>if more.isSome && !s.cm then pM e n (.blockL (l++[t])) s else some (.mk 10 [] (l++[t]),cI e s)) fun t s1 hl=>?_).succ fun n=>by rw[pM]<;>rfl
    rcases h2:bW 6 [[59]] s1 with ⟨o,s2⟩
    rcases h3:bW 8 [[125]] s2 with ⟨q,s3⟩
    simp only[h2,h3];cases q with
    |some x=>exact eE _
    |none =>
      have e3:=aJ h3;cases o with
      |none=>simp only[Option.isSome_none,Bool.false_and,Bool.false_eq_true,if_false];exact eE _
      |some x =>
        have:=cZ h2;cases hb:s3.cm with
        |true=>exact⟨0,_,fun m _=>by show (if _ then _ else _)=_;rw[if_neg (by simp[hb])]⟩
        |false =>
          obtain⟨n,y,h⟩:=lo s3 (by subst e3;omega) (.blockL (l++[t])) trivial;exact⟨n,y,fun m hm=>by show (if _ then _ else _)=_;rw[if_pos (by simp[hb])];exact h m hm⟩
  have block:∀s:PS,s.len<=L->Tm fun n=>pM e n .block s:=fun s hs =>
    (blockL [] _ (Nat.le_trans (lS e 7 [123] s) hs)).succ fun n=>by rw[pM]
  have lt:∀a (s:PS),s.len<=L->Tm fun n=>pM e n (.lt a) s:=by
    intro a s hs;have hl0:(cC e 6 [61] (cF e s).2).len<=L:=Nat.le_trans (lS _ _ _ _) (Nat.le_trans (zh e s).1 hs);refine((expr _ hl0).then (f:=fun n v s1=>match bW 4 [Kq] s1 with
    |(some _,s2)=>dI (pM e n .expr s2) fun w s3=>some (.mk 7 (cF e s).1 [v,w],s3)
    |(none,s2)=>some (.mk 7 (cF e s).1 [v],if a then s2 else cI e s2)) fun t s1 hl=>?_).succ fun n=>by rw[pM]<;>rfl
    rcases h2:bW 4 [Kq] s1 with ⟨o,s2⟩
    cases o with
    |none=>simp only[h2];exact eE _
    |some x=>simp only[h2];exact(expr s2 (by have:=cZ h2;omega)).then fun w s3 _=>eE _
  have fn:∀s:PS,s.len<=L->Tm fun n=>pM e n .fn s:=by
    intro s hs
    rcases h2:bW 6 [[44]] (cF e s).2 with ⟨o,s2⟩
    have hn:=(zh e s).1;cases o with
    |some x=>exact((lo s2 (by have:=cZ h2;omega) .fn trivial).then fun t s' _=>eE (.mk 8 (cF e s).1 [t],s')).succ fun n=>by rw[pM,h2]
    |none=>exact((expr (cC e 6 [45,62] s2) (by have:=lS e 6 [45,62] s2;have:=aJ h2;subst this;omega)).then fun t s' _=>eE (.mk 8 (cF e s).1 [t],s')).succ fun n=>by rw[pM,h2]
  have choice:∀s:PS,s.len<=L->Tm fun n=>pM e n .choice s:=by
    intro s hs;refine((expr s hs).then (f:=fun n a s=>dI (pM e n .block s) fun b s=>match bW 4 [Ai] (cC e 4 lJ s) with
    |(some _,s)=>dI (pM e n .choice s) fun c s=>some (.mk 6 [] [a,b,c],s)
    |(none,s)=>dI (pM e n .block s) fun c s=>some (.mk 6 [] [a,b,c],s)) fun a s1 h1=>?_).succ fun n=>by rw[pM]<;>rfl
    refine(block s1 (by omega)).then (f:=fun n b s=>match bW 4 [Ai] (cC e 4 lJ s) with
    |(some _,s)=>dI (pM e n .choice s) fun c s=>some (.mk 6 [] [a,b,c],s)
    |(none,s)=>dI (pM e n .block s) fun c s=>some (.mk 6 [] [a,b,c],s)) fun b s2 h2=>?_
    have hm:=lS e 4 lJ s2
    rcases h3:bW 4 [Ai] (cC e 4 lJ s2) with ⟨o,s3⟩
    cases o with
    |some x=>simp only[h3];exact(lo s3 (by have:=cZ h3;omega) .choice trivial).then fun w s3 _=>eE _
    |none=>simp only[h3];exact(block s3 (by have:=aJ h3;subst this;omega)).then fun w s3 _=>eE _
  have argL:∀t (s:PS),s.len<=L->Tm fun n=>pM e n (.argL t) s:=by
    intro t s hs;refine((expr s hs).then (f:=fun n a s=>match bW 6 [[44]] s with
    |(some _,s)=>pM e n (.argL (.mk 9 [] [t,a])) s
    |(none,s)=>pM e n (.callL (.mk 9 [] [t,a])) (cC e 8 [41] s)) fun a s1 h1=>?_).succ fun n=>by rw[pM]<;>rfl
    rcases h2:bW 6 [[44]] s1 with ⟨o,s2⟩
    cases o with
    |some x=>simp only[h2];exact lo s2 (by have:=cZ h2;omega) _ trivial
    |none=>simp only[h2];exact callL _ _ (by have:=lS e 8 [41] s2;have:=aJ h2;subst this;omega)
  intro s hs j hj;cases j with
  |stmt=>exact stmt s hs
  |expr=>exact expr s hs
  |lt a=>exact lt a s hs
  |choice=>exact choice s hs
  |fn=>exact fn s hs
  |block=>exact block s hs
  |blockL l=>exact blockL l s hs
  |part k=>exact part k hj s hs
  |opL k t=>exact opL k hj t s hs
  |callL t=>exact callL t s hs
  |argL t=>exact argL t s hs
  |atom=>exact atom s hs
abbrev Tok:=Int×Int×Int
def cB (s:By) (t:Tok):By:=(s.drop t.2.1.toNat).take (t.2.2.toNat-t.2.1.toNat)
def yp (s:By) (t:Tok):Bool:=decide (0<=t.2.1) && decide (t.2.2<=s.length) && decide (t.2.1<=t.2.2)
def iX:List (UInt8×UInt8):=[(110,10),(114,13),(116,9),(34,34),(92,92),(48,0)]
def K7 (c:UInt8):UInt8:=match iX.find? (fun p=>p.1 ==c) with|some p=>p.2|none=>c
def rA (t:By):UInt8:=match t[1]? with|some c=>K7 c|none=>32
def iB (x:By):List Un->List Un
  | []=>[]
  | [u]=>[(u.1,u.2.1++x,u.2.2)]
  |u::v::l=>u::iB x (v::l)
theorem zR (x:By):∀(l:List Un) (u:Un),iB x (l++[u])=l++[(u.1,u.2.1++x,u.2.2)]
  | [],_=>rfl
  | [a],u=>rfl
  |a::b::l,u=>by
    show a::iB x ((b::l)++[u])=_
    rw[zR x (b::l) u];rfl
theorem kq (x:By):∀l:List Un,(iB x l).length=l.length
  | []=>rfl
  | [_]=>rfl
  |_::b::l=>by show (iB x (b::l)).length+1=_;rw[kq x (b::l)];rfl
inductive UR where
  |er (at_ e:Int)
  |go (out:List Un) (op:Bool)
def fR (s:By) (out:List Un) (op:Bool) (t:Tok):UR :=
  if t.1=0 then .er t.2.1 10
  else if op then
    if t.1=9/\cB s t=[34] then .go out false
    else if t.1=10 then .go (iB [rA (cB s t)] out) true
    else .go (iB (cB s t) out) true
  else if t.1=1\/t.1=2\/t.1=11 then .go out false
  else if out.length=500 then .er t.2.1 3
  else .go (out++[(t.1,if t.1=9 then [] else cB s t,t.2.1)]) (decide (t.1=9))
def dX (s:By):List Tok->List Un->Bool->UR
  | [],out,op=>.go out op
  |t::l,out,op=>match fR s out op t with
    |.er a e=>.er a e
    |.go out op=>dX s l out op
def eR (s:By) (l:List Tok) (m:Int):(Int×Int) ⊕ List Un :=
  if l.all (yp s) then match dX s l [] false with
    |.er a e=>.inl (a,e)
    |.go out op=>if op\/m≠0 then .inl (s.length,10) else .inr out
  else .inl (0,2)
def cg (e:Int):Nat->List Tr->PS->Option (List Tr×PS)
  | 0,_,_=>none
  |n+1,l,s=>if s.len=0 then some (l,s) else (pM e n .stmt s).bind fun p=>match bW 6 [[59]] p.2 with
    |(some _,s2)=>cg e n (l++[p.1]) s2
    |(none,s2)=>cg e n (l++[p.1]) (if s2.len=0 then s2 else cI e s2)
theorem AG (e:Int):∀(L:Nat) (s:PS),s.len<=L->∀l,∃n y,∀m,n<=m->cg e m l s=some y:=by
  intro L
  induction L with
  |zero =>
    intro s hs l
    exact⟨1,(l,s),fun m hm=>by
      obtain⟨m,rfl⟩:∃k,m=k+1:=⟨m-1,by omega⟩
      rw[cg,if_pos (by omega)]⟩
  |succ L ih =>
    intro s hs l
    by_cases h0:s.len=0
    · exact ih s (by omega) l
    obtain⟨n,⟨t,s1⟩,h1⟩:=IF e _ s (Nat.le_refl _) .stmt trivial;have h1:∀m,n<=m->pM e m .stmt s=some (t,s1):=h1;have hl:=vB (h1 n (Nat.le_refl _))
    rcases h2:bW 6 [[59]] s1 with ⟨o,s2⟩
    cases o with
    |some x =>
      obtain⟨n2,y,h3⟩:=ih s2 (by have:=cZ h2;omega) (l++[t]);refine⟨max n n2+1,y,fun m hm=>?_⟩;obtain⟨m,rfl⟩:∃k,m=k+1:=⟨m-1,by omega⟩
      rw[cg,if_neg h0,h1 m (by omega)];simp only[Option.bind_some,h2];exact h3 m (by omega)
    |none =>
      have e2:=aJ h2
      have hle:(if s2.len=0 then s2 else cI e s2).len<=L:=by
        split
        · omega
        · rw[sw];omega
      obtain⟨n2,y,h3⟩:=ih _ hle (l++[t]);refine⟨max n n2+1,y,fun m hm=>?_⟩;obtain⟨m,rfl⟩:∃k,m=k+1:=⟨m-1,by omega⟩
      rw[cg,if_neg h0,h1 m (by omega)];simp only[Option.bind_some,h2];exact h3 m (by omega)
inductive cy (s:By) (l:List Tok) (m:Int):List Tr->Int->Int->Prop where
  |units {a e:Int}:eR s l m= .inl (a,e)->cy s l m [] a e
  |bad {u:List Un}{n:Nat}{k:List Tr}{a:Int}:eR s l m= .inr u->cg s.length n [] (.ok u)=some (k,.bad a)->cy s l m [] a 10
  |ok {u:List Un}{n:Nat}{k:List Tr}{r:List Un}:eR s l m= .inr u->cg s.length n [] (.ok u)=some (k,.ok r)->cy s l m k 0 0
theorem tw (e:Int):∀(n:Nat) (l:List Tr) (s:PS) (y),cg e n l s=some y->cg e (n+1) l s=some y
  | 0,_,_,_,h=>by cases h
  |n+1,l,s,y,h=>by
    rw[cg] at h ⊢;split at h
    · rename_i q;rw[if_pos q];exact h
    · rename_i q;rw[if_neg q];cases h1:pM e n .stmt s with
      |none=>rw[h1] at h;cases h
      |some p =>
        rw[h1] at h;rw[AH e n _ _ _ h1];simp only[Option.bind_some] at h ⊢
        rcases h2:bW 6 [[59]] p.2 with ⟨o,s2⟩
        rw[h2] at h;cases o<;>exact tw e n _ _ _ h
theorem Ci {m:Nat}{l:List Tr}{s:PS} {y} (h:cg e n l s=some y) (hm:n<=m):cg e m l s=some y:=by
  induction m with
  | zero => have : n = 0 := by omega
            subst this;exact h
  |succ m ih =>
    rcases Nat.lt_or_ge m n with q|q
    · have:n=m+1:=by omega
      subst this;exact h
    · exact tw e m l s y (ih q)
theorem yC (s:By) (l:List Tok) (m:Int):∃k a e,cy s l m k a e:=by
  rcases h:eR s l m with ⟨a,e⟩|u
  · exact⟨_,_,_,.units h⟩
  · obtain⟨n,⟨k,r⟩,h2⟩:=AG s.length _ (.ok u) (Nat.le_refl _) [];have h2:=h2 n (Nat.le_refl _);cases r with
    |ok r=>exact⟨_,_,_,.ok h h2⟩
    |bad a=>exact⟨_,_,_,.bad h h2⟩
def Tr.dep:Tr->Nat
  |.mk _ _ l=>depL l+1
where depL:List Tr->Nat
  | []=>0
  |t::l=>max t.dep (depL l)
theorem FN {t:By}{l:List Tr}{x:Tr}(h:x∈l):x.dep<(Tr.mk k t l).dep:=by
  show x.dep<Tr.dep.depL l+1
  have:x.dep<=Tr.dep.depL l:=by
    induction l with
    |nil=>simp at h
    |cons a l ih =>
      show x.dep<=max a.dep (Tr.dep.depL l)
      rcases List.mem_cons.1 h with rfl|h
      · omega
      · have:=ih h;omega
  omega
end
mutual
def On:Tr->Tr->Bool
  |.mk k t l,.mk k' t' l'=>decide (k=k') && (decide (t=t') && L0 l l')
def L0:List Tr->List Tr->Bool
  | [],[]=>true
  |a::l,b::l'=>On a b && L0 l l'
  | [],_::_=>false
  |_::_,[]=>false
end
section
variable {k e:Int}{n:Nat}
def fN (c:UInt8):By:=match iX.find? (fun p=>p.2 ==c) with|some p=>[92,p.1] |none=>[c]
def AB (s:By):By:=34::(s.flatMap fN++[34])
def gP:List By->By
  | []=>[]
  | [x]=>x
  |x::y::l=>x++([59,32]++gP (y::l))
def tW (k:List By):By:=[105,102,32]++k.getD 0 []++[32]++k.getD 1 []++[32,101,108,115,101,32]++k.getD 2 []
def u6 (k:Int) (t:By) (l:List By):By :=
  if k=1 then AB t
  else if k=4 then [40]++t++[32]++l.getD 0 []++[41]
  else if k=5 then [40]++l.getD 0 []++[32]++t++[32]++l.getD 1 []++[41]
  else if k=6 then [40]++tW l++[41]
  else if k=7 then (if l.length=1 then [108,101,116,32]++t++[32,61,32]++l.getD 0 [] else [40,108,101,116,32]++t++[32,61,32]++l.getD 0 []++[32,105,110,32]++l.getD 1 []++[41])
  else if k=8 then [40,102,117,110,32]++t++[32,45,62,32]++l.getD 0 []++[41]
  else if k=9 then l.getD 0 []++[40]++l.getD 1 []++[41]
  else if k=10 then [123,32]++gP l++[32,125]
  else t
end
mutual
def bq:Bool->Tr->By
  |bare,.mk k t l=>if k=6/\bare=true then tW (gM (decide (k=6)) 0 l) else u6 k t (gM (decide (k=6)) 0 l)
def gM:Bool->Nat->List Tr->List By
  |_,_,[]=>[]
  |six,i,x::l=>bq (six && decide (i=2)) x::gM six (i+1) l
end
section
variable {k e:Int}{n:Nat}
def dz (c:UInt8):Bool:=decide (48<=c) && decide (c<=57)
def isLet (c:UInt8):Bool:=(decide (97<=c) && decide (c<=122)) ||((decide (65<=c) && decide (c<=90)) ||decide (c=95))
def cK (s:By):By:=s.dropWhile dz
def dN (s:By):Bool:=decide ((cK s).length<s.length)
def n7 (s:By) (ok:Bool):Bool:=match s with
  |c::r=>if ok=true/\(c=101\/c=69) then
      (match r with
       |d::r'=>if d=43\/d=45 then dN r' && decide (cK r'=[]) else dN r && decide (cK r=[])
       | []=>false)
    else false
  | []=>ok
def ym (s:By):Bool:=match cK s with
  |c::r=>if dN s=true/\c=46 then n7 (cK r) (dN r) else n7 (c::r) (dN s)
  | []=>dN s
def jR (word:By->Bool) (s:By):Bool :=
  (match s with| []=>false|c::r=>isLet c && r.all fun c=>isLet c ||dz c) && !word s
def HM:List By:=[[45],kY]
def JZ:List By:=[s7,lK,[61,61],[33,61],[60],[60,61],[62],[62,61],[43],[45],[42],[47],[37]]
def jE (word:By->Bool) (k:Int) (t:By):Bool :=
  if k=0 then ym t
  else if k=1 then decide (t.length<=16384)
  else if k=2 then decide (t=kI) ||decide (t=nC)
  else if k=3\/k=7\/k=8 then jR word t
  else if k=4 then decide (t∈HM)
  else if k=5 then decide (t∈JZ)
  else decide (t=[])
def dF (k:Int):Nat×Nat :=
  if k=4\/k=8 then (1,1) else if k=5\/k=9 then (2,2) else if k=6 then (3,3) else if k=7 then (1,2) else if k=10 then (1,500) else (0,0)
def jJ (word:By->Bool) (k:Int) (t:By) (n:Nat):Bool :=
  decide ((dF k).1<=n) && (decide (n<=(dF k).2) && (decide (0<=k) && (decide (k<=10) && jE word k t)))
def FC (k:Int) (i:Nat):Tr->Bool
  |.mk k' _ l=>(decide (k=10) ||(decide (k'≠7) ||decide (l.length=2))) && (decide (k≠6) ||(decide (i=0) ||(decide (k'=10) ||(decide (i≠1) && decide (k'=6)))))
end
mutual
def cA (word:By->Bool):Tr->Bool
  |.mk k t l=>jJ word k t l.length && ie word k 0 l
def ie (word:By->Bool) (k:Int):Nat->List Tr->Bool
  |_,[]=>true
  |i,x::l=>(cA word x && FC k i x) && ie word k (i+1) l
end
mutual
def Tr.wt:Tr->Nat
  |.mk _ t l=>2*t.length+20+nr l
def nr:List Tr->Nat
  | []=>0
  |x::l=>x.wt+nr l
end
section
variable {k e:Int}{n:Nat}
theorem oG {l:List Tr}{x:Tr}(h:x∈l):x.wt<=nr l:=by
  induction l with
  |nil=>cases h
  |cons a l ih =>
    rw[nr]
    rcases List.mem_cons.1 h with rfl|h
    · omega
    · have:=ih h;omega
theorem rS {t:By}{l:List Tr}{x:Tr}(h:x∈l):x.wt+20<=(Tr.mk k t l).wt:=by
  rw[Tr.wt];have:=oG h;omega
theorem E5 (k:Int) (t:By) (l:List Tr):2*t.length+20<=(Tr.mk k t l).wt:=by rw[Tr.wt];omega
def uf (l:List By):Nat:=(l.map List.length).sum
theorem wq:∀l:List By,(gP l).length<=uf l+2*l.length
  | []=>by simp[gP]
  | [x]=>by simp[gP,uf]
  |x::y::l=>by
    have:=wq (y::l);rw[gP];simp only[List.length_append,List.length_cons,List.length_nil,uf,List.map_cons,List.sum_cons] at *;omega
theorem CT (l:List By):(l.getD 0 []).length+(l.getD 1 []).length+(l.getD 2 []).length<=uf l:=by
  match l with
  | []=>simp
  | [a]=>simp[uf]
  | [a,b]=>simp[uf]
  |a::b::c::l=>simp[uf];omega
theorem GB (c:UInt8):(fN c).length<=2:=by unfold fN;split<;>simp
theorem GA (s:By):(AB s).length<=2*s.length+2:=by
  unfold AB;simp only[List.length_cons,List.length_append,List.length_nil]
  have:(s.flatMap fN).length<=2*s.length:=by
    induction s with
    |nil=>simp
    |cons c s ih=>rw[List.flatMap_cons,List.length_append,List.length_cons];have:=GB c;omega
  omega
theorem Ip (k:Int) (t:By) (l:List By):(u6 k t l).length<=2*t.length+18+2*l.length+uf l:=by
  have h1:=GA t;have h2:=CT l;have h3:=wq l;unfold u6 tW
  repeat' split
  all_goals ((try simp only[List.length_append,List.length_cons,List.length_nil]);omega)
theorem J9 (l:List By):(tW l).length<=18+uf l:=by
  have h2:=CT l;unfold tW;simp only[List.length_append,List.length_cons,List.length_nil];omega
theorem mG:∀(l:List Tr) (s:Bool) (i:Nat),(gM s i l).length=l.length
  | [],_,_=>by rw[gM];rfl
  |_::l,s,i=>by rw[gM,List.length_cons,mG l];rfl
end
mutual
theorem iN:∀(x:Tr) (b:Bool),(bq b x).length+2<=x.wt
  |.mk k t l,b=>by
    have h1:=qK l (decide (k=6)) 0;have h2:=Ip k t (gM (decide (k=6)) 0 l);have h3:=J9 (gM (decide (k=6)) 0 l);have h4:=mG l (decide (k=6)) 0;rw[bq,Tr.wt];split<;>omega
theorem qK:∀(l:List Tr) (s:Bool) (i:Nat),uf (gM s i l)+2*l.length<=nr l
  | [],_,_=>by rw[gM];simp[uf,nr]
  |x::l,s,i=>by
    have h1:=iN x (s && decide (i=2));have h2:=qK l s (i+1);rw[gM,nr];simp only[uf,List.map_cons,List.sum_cons,List.length_cons] at *;omega
end
section
variable {k e:Int}{n:Nat}
def Fy (j:Nat) (c:UInt8):Bool:=isLet c ||(decide (j≠0) && dz c)
def qS (s:By):Bool:=match s with| []=>false|c::r=>isLet c && r.all fun c=>isLet c ||dz c
theorem si (word:By->Bool) (s:By):jR word s=(qS s && !word s):=by cases s<;>rfl
theorem zf (s:By):qS s=true↔s≠[]/\∀j c,s[j]? =some c->Fy j c=true:=by
  cases s with
  |nil=>simp[qS]
  |cons c r =>
    simp only[qS,Bool.and_eq_true,List.all_eq_true];constructor
    · intro ⟨h1,h2⟩;refine⟨by simp,fun j d hd=>?_⟩;cases j with
      |zero=>simp at hd;subst hd;unfold Fy;rw[h1];rfl
      |succ j =>
        have:=h2 d (List.mem_of_getElem? (by simpa using hd));unfold Fy;simpa using this
    · intro ⟨_,h⟩;refine⟨by simpa [Fy] using h 0 c rfl,fun d hd=>?_⟩;obtain⟨j,hj⟩:=List.getElem?_of_mem hd;simpa [Fy] using h (j+1) d (by simpa using hj)
theorem IY (word:By->Bool){s:By}{j:Nat}{c:UInt8}(h:s[j]? =some c) (hc:Fy j c=false):jR word s=false:=by
  rw[si]
  have:¬qS s=true:=fun q=>by
    have:=((zf s).1 q).2 j c h;rw[hc] at this;cases this
  rw[Bool.eq_false_iff.2 this];rfl
theorem GN (word:By->Bool){s:By}(h0:s≠[]) (h:∀j c,s[j]? =some c->Fy j c=true):jR word s= !word s:=by
  rw[si,(zf s).2 ⟨h0,h⟩,Bool.true_and]
theorem GM (word:By->Bool):jR word []=false:=rfl
theorem G1 (c:UInt8):isLet c=decide ((97<=c.toNat/\c.toNat<=122)\/(65<=c.toNat/\c.toNat<=90)\/c.toNat=95):=by
  have k:∀n:Fin 256,isLet (UInt8.ofFin n)=decide ((97<=(UInt8.ofFin n).toNat/\(UInt8.ofFin n).toNat<=122)\/(65<=(UInt8.ofFin n).toNat/\(UInt8.ofFin n).toNat<=90)\/(UInt8.ofFin n).toNat=95):=by unfold isLet;decide +kernel
  exact k c.toFin
theorem G2 (c:UInt8):dz c=decide (48<=c.toNat/\c.toNat<=57):=by
  have k:∀n:Fin 256,dz (UInt8.ofFin n)=decide (48<=(UInt8.ofFin n).toNat/\(UInt8.ofFin n).toNat<=57):=by unfold dz;decide +kernel
  exact k c.toFin
end
end Go.Proofs.YtoickfdopobmgaaGreatDoor
namespace Go.Proofs.YtoickfdopobmgaaGreatDoor
open Go Go.Lw
section
variable {h:ai}{O:Nat->Prop}{cs:List Value}
def DG (s q:Nat):Nat:=(s >>> (64*q))%2 ^ 64
def eM (s q:Nat):Value:=.int .u64 (DG s q:Nat)
def wT (s:Nat):List Value:=[eM s 0,eM s 1,eM s 2,eM s 3]
theorem DF (s q:Nat):DG s q<18446744073709551616:=Nat.mod_lt _ (by decide)
theorem mq (s q i:Nat):(DG s q).testBit i=(decide (i<64) && s.testBit (64*q+i)):=by
  unfold DG;rw[Nat.testBit_mod_two_pow,Nat.testBit_shiftRight]
theorem HF (s b:Nat) (q:Nat) (h:q≠b / 64):DG (s |||(1 <<< b)) q=DG s q:=by
  apply Nat.eq_of_testBit_eq
  intro i;rw[mq,mq,Nat.testBit_or,Nat.one_shiftLeft,Nat.testBit_two_pow]
  by_cases hi:i<64
  · have:b≠64*q+i:=by omega
    simp[this]
  · simp[hi]
theorem HE (s b:Nat):DG (s |||(1 <<< b)) (b / 64)=DG s (b / 64) ||| 2 ^ (b%64):=by
  apply Nat.eq_of_testBit_eq
  intro i;rw[mq,Nat.testBit_or,Nat.testBit_or,mq,Nat.one_shiftLeft,Nat.testBit_two_pow,Nat.testBit_two_pow]
  by_cases hi:i<64
  · have:(b=64*(b / 64)+i)↔(b%64=i):=by omega
    simp[hi,this]
  · have:¬b%64=i:=by omega
    simp[hi,this]
theorem oH {i:Int}(h:0<=i/\i<=18446744073709551615):IntKind.u64.wrap i=i:=by
  have h64:(2:Int) ^ 64=18446744073709551616:=rfl;simp only[IntKind.wrap,IntKind.bits,IntKind.signed,h64,Bool.false_and,Bool.false_eq_true,if_false];omega
theorem Qy {x y:Nat}(hx:x<18446744073709551616) (hy:y<18446744073709551616):IntKind.u64.wrap ((BitVec.ofInt IntKind.u64.bits (x:Int) |||BitVec.ofInt IntKind.u64.bits (y:Int)).toNat:Int)=((x |||y:Nat):Int):=by
  have e:(BitVec.ofInt IntKind.u64.bits (x:Int) |||BitVec.ofInt IntKind.u64.bits (y:Int)).toNat=x |||y:=by
    rw[BitVec.toNat_or]
    have h1:(BitVec.ofInt IntKind.u64.bits (x:Int)).toNat=x:=by
      show (BitVec.ofInt 64 (x:Int)).toNat=x
      simp only[BitVec.toNat_ofInt];omega
    have h2:(BitVec.ofInt IntKind.u64.bits (y:Int)).toNat=y:=by
      show (BitVec.ofInt 64 (y:Int)).toNat=y
      simp only[BitVec.toNat_ofInt];omega
    rw[h1,h2]
  rw[e];have:x |||y<2 ^ 64:=Nat.or_lt_two_pow hx hy;exact oH ⟨by omega,by omega⟩
theorem Om (b:Nat):IntKind.u64.wrap (1*2 ^ min ((b%64:Nat):Int).toNat IntKind.u64.bits)=((2 ^ (b%64):Nat):Int):=by
  have hb:b%64<64:=Nat.mod_lt _ (by decide);have h1:min ((b%64:Nat):Int).toNat IntKind.u64.bits=b%64:=by show min _ 64=_;simp;omega
  rw[h1,Int.one_mul];have h2:2 ^ (b%64)<2 ^ 64:=Nat.pow_lt_pow_right (by decide) hb;have h3:((2:Int) ^ (b%64))=((2 ^ (b%64):Nat):Int):=by push_cast;rfl
  rw[h3];generalize 2 ^ (b%64)=p at *;exact oH ⟨by omega,by omega⟩
theorem QM {x:Nat}(hx:x<18446744073709551616):IntKind.u64.wrap ((BitVec.ofInt IntKind.u64.bits (x:Int) &&& BitVec.ofInt IntKind.u64.bits 1).toNat:Int)=((x%2:Nat):Int):=by
  have e:(BitVec.ofInt IntKind.u64.bits (x:Int) &&& BitVec.ofInt IntKind.u64.bits 1).toNat=x%2:=by
    rw[BitVec.toNat_and]
    have h1:(BitVec.ofInt IntKind.u64.bits (x:Int)).toNat=x:=by
      show (BitVec.ofInt 64 (x:Int)).toNat=x
      simp only[BitVec.toNat_ofInt];omega
    rw[h1]
    show x &&& 1=_
    exact Nat.and_one_is_mod x
  rw[e];exact oH ⟨by omega,by omega⟩
theorem Ol (x:Nat) (b:Nat) (hb:b<64):((x:Int)).fdiv (2 ^ min ((b:Nat):Int).toNat IntKind.u64.bits)=((x >>> b:Nat):Int):=by
  have h1:min ((b:Nat):Int).toNat IntKind.u64.bits=b:=by show min _ 64=_;simp;omega
  rw[h1,Nat.shiftRight_eq_div_pow];have h3:((2:Int) ^ b)=((2 ^ b:Nat):Int):=by push_cast;rfl
  rw[h3,Int.fdiv_eq_ediv_of_nonneg _ (Int.natCast_nonneg _)]
  push_cast;rfl
theorem Kx (s b:Nat):(DG s (b / 64) >>> (b%64))%2=(s.testBit b).toNat:=by
  have h:=mq s (b / 64) (b%64);rw[show 64*(b / 64)+b%64=b from Nat.div_add_mod b 64] at h;have hb:b%64<64:=Nat.mod_lt _ (by decide);simp only[hb,decide_true,Bool.true_and] at h;rw[Nat.shiftRight_eq_div_pow,<-Nat.toNat_testBit,h]
def dK (k s:Nat) (v:Value):List Value:=[.int .i64 k,eM s 0,eM s 1,eM s 2,eM s 3,v]
inductive bE (h:ai) (O:Nat->Prop):List Value->Nd->Prop
  |mk (k s:Nat) (kids:List Nd) (oa:Option Addr) (n c:Nat) (css:Nat->List Value) (hl:kids.length=n) (hc:n<=c) (hm:c<=maxLen)
      (hr:∀i x,kids[i]? =some x->∃b o,oa=some ⟨b,o,none⟩/\¬O b/\Lw.rowAt h b (o+i*6) (css i)) (hk:∀i x,kids[i]? =some x->bE h O (css i) x):bE h O (dK k s (.slice oa n c)) (.mk k s kids)
theorem bE.len {x:Nd}(k:bE h O cs x):cs.length=6:=by cases k;rfl
theorem bE.one {x:Nd}(k:bE h O cs x):∀v∈cs,v.oneCell'=true:=by
  cases k;intro v hv;simp[dK,eM] at hv
  rcases hv with rfl|rfl|rfl|rfl|rfl|rfl<;>rfl
theorem bE.mv {h':ai}{O':Nat->Prop}{x:Nd}(k:bE h O cs x) (m:Mv O O' h h'):bE h' O' cs x:=by
  induction k with
  |mk k s kids oa n c css hl hc hm hr hk ih =>
    refine .mk k s kids oa n c css hl hc hm (fun i x hx=>?_) ih;obtain⟨b,o,ha,ho,hrow⟩:=hr i x hx;have hne:css i≠[]:=by intro e;have:=(hk i x hx).len;rw[e] at this;cases this
    exact⟨b,o,ha,(m.block b (dL hrow hne) ho).2,m.rowAt ho hrow⟩
def tK:fQ Nd:=⟨6,by decide,bE,bE.len,bE.one,bE.mv⟩
theorem bE.ah {h h':ai}{O:Nat->Prop}{cs:List Value}{x:Nd}(k:bE h O cs x) (e:aj h h'):bE h' O cs x:=k.mv (Mv.ah e)
theorem bE.of {v:Value}{kids:List Nd}(k s:Nat) (hv:aT tK h O v kids):bE h O (dK k s v) (.mk k s kids):=by
  obtain⟨oa,n,c,rfl,hl,hc,hm,hg⟩:=hv
  have hx:∀i,i<n->∃cs:List Value,∃x,kids[i]? =some x/\(∃b o,oa=some ⟨b,o,none⟩/\¬O b/\Lw.rowAt h b (o+i*6) cs)/\bE h O cs x:=by
    intro i hi;obtain⟨b,o,cs,h1,h2,h3,h4⟩:=hg i kids[i] (List.getElem?_eq_getElem (by omega));exact⟨cs,kids[i],List.getElem?_eq_getElem (by omega),⟨b,o,h1,h2,h3⟩,h4⟩
  refine .mk k s kids oa n c (fun i=>if hi:i<n then Classical.choose (hx i hi) else []) hl hc hm (fun i x hxi=>?_) (fun i x hxi=>?_)
  · have hi:i<n:=by rw[<-hl];exact(List.getElem?_eq_some_iff.1 hxi).1
    simp only[dif_pos hi];obtain⟨y,_,h2,_⟩:=Classical.choose_spec (hx i hi);exact h2
  · have hi:i<n:=by rw[<-hl];exact(List.getElem?_eq_some_iff.1 hxi).1
    simp only[dif_pos hi];obtain⟨y,h1,_,h3⟩:=Classical.choose_spec (hx i hi);rw[h1] at hxi;cases hxi;exact h3
theorem bE.open {x:Nd}(k:bE h O cs x):∃v,cs=dK x.kind x.set v/\aT tK h O v x.kids:=by
  cases k with
  |mk k s kids oa n c css hl hc hm hr hk =>
    exact⟨_,rfl,oa,n,c,rfl,hl,hc,hm,fun i x hx=>by
      obtain⟨b,o,h1,h2,h3⟩:=hr i x hx;exact⟨b,o,css i,h1,h2,h3,hk i x hx⟩⟩
def bs (l:List UInt8):ByteArray:=⟨l.toArray⟩
theorem eD (l:List UInt8):(bs l).data.toList=l:=by simp[bs]
theorem aG (l:List UInt8):(bs l).size=l.length:=by simp[bs,ByteArray.size]
theorem br (l m:List UInt8):bs l++bs m=bs (l++m):=by
  apply ByteArray.ext
  simp[bs]
theorem bl {l m:List UInt8}(h:bs l=bs m):l=m:=by have:=congrArg (fun x=>x.data.toList) h;simpa [bs] using this
theorem Mc (l m:List UInt8):decide (bs l=bs m)=decide (l=m):=by
  rw[decide_eq_decide];exact⟨bl,fun h=>by rw[h]⟩
theorem Bh (l:List UInt8):decide (bs l=(⟨#[]⟩:ByteArray))=decide (l=[]):=Mc l []
theorem ia {l:List UInt8}{i:Nat}{c:UInt8}(h:l[i]? =some c):(bs l).data[i]? =some c:=by simpa [bs] using h
theorem oU (l:List UInt8) (i:Nat):(bs l).extract i (bs l).size=bs (l.drop i):=by
  apply ByteArray.ext
  apply Array.ext'
  rw[ByteArray.data_extract,Array.toList_extract,List.extract_eq_take_drop];rw[aG];simp only[bs];exact List.take_of_length_le (by simp)
theorem Bg (l:List UInt8) (i j:Nat) (_h:i<=j):(bs l).extract i j=bs ((l.take j).drop i):=by
  apply ByteArray.ext
  apply Array.ext'
  rw[ByteArray.data_extract,Array.toList_extract,List.extract_eq_take_drop];simp only[bs];rw[List.drop_take]
theorem N2 (c d:UInt8):decide (((c.toNat:Nat):Int)≠((d.toNat:Nat):Int))=decide (c≠d):=by
  rw[decide_eq_decide];exact⟨fun h e=>h (by rw[e]),fun h e=>h (UInt8.toNat_inj.1 (by omega))⟩
theorem LU (c d:UInt8):decide (((c.toNat:Nat):Int)=((d.toNat:Nat):Int))=decide (c=d):=by
  rw[decide_eq_decide];exact⟨fun e=>UInt8.toNat_inj.1 (by omega),fun e=>by rw[e]⟩
theorem cT {c:UInt8}{k:Nat}{d:UInt8}(hd:d.toNat=k):(((c.toNat:Nat):Int)=(k:Int))↔c=d:=by
  subst hd;exact⟨fun e=>UInt8.toNat_inj.1 (by omega),fun e=>by rw[e]⟩
end
end Go.Proofs.YtoickfdopobmgaaGreatDoor
