/- What the proof of the statement leans on (part 12). -/
import Derived.Test.YtfegacfjgjaghaaGreatDoorRows
import Derived.Test.YtfegacfjgjaghaaGreatDoorQk

namespace Go.Proofs.YtfegacfjgjaghaaGreatDoor.H
open Go Go.Lw
theorem ag102:isRowT Tryz.prog 102=some true:=by kernel_rfl
theorem ag132:isRowT Tryz.prog 132=some false:=by kernel_rfl
theorem ag206:isRowT Tryz.prog 206=some false:=by kernel_rfl
theorem ag22:isRowT Tryz.prog 22=some false:=by kernel_rfl
theorem ag27:isRowT Tryz.prog 27=some true:=by kernel_rfl
theorem ag3:isRowT Tryz.prog 3=some false:=by kernel_rfl
theorem ag33:isRowT Tryz.prog 33=some false:=by kernel_rfl
theorem ag35:isRowT Tryz.prog 35=some true:=by kernel_rfl
theorem ag4:isRowT Tryz.prog 4=some false:=by kernel_rfl
theorem ag50:isRowT Tryz.prog 50=some false:=by kernel_rfl
theorem ag53:isRowT Tryz.prog 53=some false:=by kernel_rfl
theorem ag54:isRowT Tryz.prog 54=some false:=by kernel_rfl
theorem ag58:isRowT Tryz.prog 58=some false:=by kernel_rfl
theorem ag73:isRowT Tryz.prog 73=some false:=by kernel_rfl
theorem ag76:isRowT Tryz.prog 76=some false:=by kernel_rfl
theorem ag77:isRowT Tryz.prog 77=some false:=by kernel_rfl
theorem ag78:isRowT Tryz.prog 78=some true:=by kernel_rfl
theorem ag79:isRowT Tryz.prog 79=some false:=by kernel_rfl
theorem ag81:isRowT Tryz.prog 81=some true:=by kernel_rfl
theorem ag87:isRowT Tryz.prog 87=some true:=by kernel_rfl
theorem ag9:isRowT Tryz.prog 9=some false:=by kernel_rfl
theorem ag91:isRowT Tryz.prog 91=some false:=by kernel_rfl
theorem ag93:isRowT Tryz.prog 93=some true:=by kernel_rfl
theorem ag96:isRowT Tryz.prog 96=some false:=by kernel_rfl
theorem bd122_  : Tryz.prog.built 122 []=some #[]:=by kernel_rfl
theorem bd125_0 (a0:ByteArray):Tryz.prog.built 125 [(0,.string a0)]=some #[.string a0]:=by kernel_rfl
theorem bd27_  : Tryz.prog.built 27 []=some #[.int .i64 (0),.int .i64 (0)]:=by kernel_rfl
theorem bd27_0_1 (a0:Int) (a1:Int):Tryz.prog.built 27 [(0,.int .i64 a0),(1,.int .i64 a1)]=some #[.int .i64 a0,.int .i64 a1]:=by kernel_rfl
theorem bd27_0 (a0:Int):Tryz.prog.built 27 [(0,.int .i64 a0)]=some #[.int .i64 a0,.int .i64 (0)]:=by kernel_rfl
theorem bd35_  : Tryz.prog.built 35 []=some #[.int .i64 (0),.int .i64 (0),.int .i64 (0)]:=by kernel_rfl
theorem bd35_0_1_2 (a0:Int) (a1:Int) (a2:Int):Tryz.prog.built 35 [(0,.int .i64 a0),(1,.int .i64 a1),(2,.int .i64 a2)]=some #[.int .i64 a0,.int .i64 a1,.int .i64 a2]:=by kernel_rfl
theorem bd52_  : Tryz.prog.built 52 []=some #[.slice none 0 0]:=by kernel_rfl
theorem bd75_  : Tryz.prog.built 75 []=some #[.slice none 0 0,.int .i64 (0)]:=by kernel_rfl
theorem bd81_  : Tryz.prog.built 81 []=some #[.int .i64 (0),.int .u64 (0),.int .u64 (0),.int .u64 (0),.int .u64 (0),.slice none 0 0]:=by kernel_rfl
theorem bd81_0_2 (a0:Int) (a2:Option Addr) (n2 c2:Nat):Tryz.prog.built 81 [(0,.int .i64 a0),(2,.slice a2 n2 c2)]=some #[.int .i64 a0,.int .u64 (0),.int .u64 (0),.int .u64 (0),.int .u64 (0),.slice a2 n2 c2]:=by kernel_rfl
theorem bd81_0 (a0:Int):Tryz.prog.built 81 [(0,.int .i64 a0)]=some #[.int .i64 a0,.int .u64 (0),.int .u64 (0),.int .u64 (0),.int .u64 (0),.slice none 0 0]:=by kernel_rfl
theorem bd87_  : Tryz.prog.built 87 []=some #[.int .i64 (0),.int .u64 (0),.int .u64 (0),.int .u64 (0),.int .u64 (0),.slice none 0 0,.int .i64 (0)]:=by kernel_rfl
theorem bd87_0_1_2 (a0:Int) (a1_0 a1_1 a1_2 a1_3:Value) (a2:Option Addr) (n2 c2:Nat):Tryz.prog.built 87 [(0,.int .i64 a0),(1,.agg #[a1_0,a1_1,a1_2,a1_3]),(2,.slice a2 n2 c2)]=some #[.int .i64 a0,a1_0,a1_1,a1_2,a1_3,.slice a2 n2 c2,.int .i64 (0)]:=by kernel_rfl
theorem bd87_0_3 (a0:Int) (a3:Int):Tryz.prog.built 87 [(0,.int .i64 a0),(3,.int .i64 a3)]=some #[.int .i64 a0,.int .u64 (0),.int .u64 (0),.int .u64 (0),.int .u64 (0),.slice none 0 0,.int .i64 a3]:=by kernel_rfl
theorem bd87_2 (a2:Option Addr) (n2 c2:Nat):Tryz.prog.built 87 [(2,.slice a2 n2 c2)]=some #[.int .i64 (0),.int .u64 (0),.int .u64 (0),.int .u64 (0),.int .u64 (0),.slice a2 n2 c2,.int .i64 (0)]:=by kernel_rfl
theorem bd93_  : Tryz.prog.built 93 []=some #[.string ⟨#[]⟩,.int .i64 (0),.int .i64 (0)]:=by kernel_rfl
theorem bd98_  : Tryz.prog.built 98 []=some #[.slice none 0 0,.slice none 0 0]:=by kernel_rfl
theorem cn122:Tryz.prog.concrete 122=true:=by kernel_rfl
set_option maxRecDepth 100000 in
theorem el102:ElemT Tryz.prog 102 256 2048:=⟨⟨_,_,rfl,rfl,rfl,rfl,rfl⟩,by decide⟩
set_option maxRecDepth 100000 in
theorem el3:ElemT Tryz.prog 3 1 8:=⟨⟨_,_,rfl,rfl,rfl,rfl,rfl⟩,by decide⟩
set_option maxRecDepth 100000 in
theorem el35:ElemT Tryz.prog 35 3 24:=⟨⟨_,_,rfl,rfl,rfl,rfl,rfl⟩,by decide⟩
set_option maxRecDepth 100000 in
theorem el4:ElemT Tryz.prog 4 1 1:=⟨⟨_,_,rfl,rfl,rfl,rfl,rfl⟩,by decide⟩
set_option maxRecDepth 100000 in
theorem el5:ElemT Tryz.prog 5 1 1:=⟨⟨_,_,rfl,rfl,rfl,rfl,rfl⟩,by decide⟩
set_option maxRecDepth 100000 in
theorem el58:ElemT Tryz.prog 58 1 8:=⟨⟨_,_,rfl,rfl,rfl,rfl,rfl⟩,by decide⟩
set_option maxRecDepth 100000 in
theorem el76:ElemT Tryz.prog 76 1 24:=⟨⟨_,_,rfl,rfl,rfl,rfl,rfl⟩,by decide⟩
set_option maxRecDepth 100000 in
theorem el81:ElemT Tryz.prog 81 6 64:=⟨⟨_,_,rfl,rfl,rfl,rfl,rfl⟩,by decide⟩
set_option maxRecDepth 100000 in
theorem el87:ElemT Tryz.prog 87 7 72:=⟨⟨_,_,rfl,rfl,rfl,rfl,rfl⟩,by decide⟩
set_option maxRecDepth 100000 in
theorem el9:ElemT Tryz.prog 9 1 16:=⟨⟨_,_,rfl,rfl,rfl,rfl,rfl⟩,by decide⟩
theorem mixed:Tryz.prog.follows .mixedOrders=true:=by kernel_rfl
theorem nm10:(Tryz.f10.name == "runtime.NumGoroutine")=false:=by decide +kernel
theorem nm109:(Tryz.f109.name == "runtime.NumGoroutine")=false:=by decide +kernel
theorem nm12:(Tryz.f12.name == "runtime.NumGoroutine")=false:=by decide +kernel
theorem nm124:(Tryz.f124.name == "runtime.NumGoroutine")=false:=by decide +kernel
theorem nm125:(Tryz.f125.name == "runtime.NumGoroutine")=false:=by decide +kernel
theorem nm126:(Tryz.f126.name == "runtime.NumGoroutine")=false:=by decide +kernel
theorem nm13:(Tryz.f13.name == "runtime.NumGoroutine")=false:=by decide +kernel
theorem nm139:(Tryz.f139.name == "runtime.NumGoroutine")=false:=by decide +kernel
theorem nm14:(Tryz.f14.name == "runtime.NumGoroutine")=false:=by decide +kernel
theorem nm140:(Tryz.f140.name == "runtime.NumGoroutine")=false:=by decide +kernel
theorem nm141:(Tryz.f141.name == "runtime.NumGoroutine")=false:=by decide +kernel
theorem nm142:(Tryz.f142.name == "runtime.NumGoroutine")=false:=by decide +kernel
theorem nm15:(Tryz.f15.name == "runtime.NumGoroutine")=false:=by decide +kernel
theorem nm151:(Tryz.f151.name == "runtime.NumGoroutine")=false:=by decide +kernel
theorem nm152:(Tryz.f152.name == "runtime.NumGoroutine")=false:=by decide +kernel
theorem nm153:(Tryz.f153.name == "runtime.NumGoroutine")=false:=by decide +kernel
theorem nm21:(Tryz.f21.name == "runtime.NumGoroutine")=false:=by decide +kernel
theorem nm22:(Tryz.f22.name == "runtime.NumGoroutine")=false:=by decide +kernel
theorem nm23:(Tryz.f23.name == "runtime.NumGoroutine")=false:=by decide +kernel
theorem nm24:(Tryz.f24.name == "runtime.NumGoroutine")=false:=by decide +kernel
theorem nm25:(Tryz.f25.name == "runtime.NumGoroutine")=false:=by decide +kernel
theorem nm26:(Tryz.f26.name == "runtime.NumGoroutine")=false:=by decide +kernel
theorem nm27:(Tryz.f27.name == "runtime.NumGoroutine")=false:=by decide +kernel
theorem nm28:(Tryz.f28.name == "runtime.NumGoroutine")=false:=by decide +kernel
theorem nm33:(Tryz.f33.name == "runtime.NumGoroutine")=false:=by decide +kernel
theorem nm34:(Tryz.f34.name == "runtime.NumGoroutine")=false:=by decide +kernel
theorem nm35:(Tryz.f35.name == "runtime.NumGoroutine")=false:=by decide +kernel
theorem nm36:(Tryz.f36.name == "runtime.NumGoroutine")=false:=by decide +kernel
theorem nm37:(Tryz.f37.name == "runtime.NumGoroutine")=false:=by decide +kernel
theorem nm38:(Tryz.f38.name == "runtime.NumGoroutine")=false:=by decide +kernel
theorem nm39:(Tryz.f39.name == "runtime.NumGoroutine")=false:=by decide +kernel
theorem nm40:(Tryz.f40.name == "runtime.NumGoroutine")=false:=by decide +kernel
theorem nm41:(Tryz.f41.name == "runtime.NumGoroutine")=false:=by decide +kernel
theorem nm42:(Tryz.f42.name == "runtime.NumGoroutine")=false:=by decide +kernel
theorem nm43:(Tryz.f43.name == "runtime.NumGoroutine")=false:=by decide +kernel
theorem nm44:(Tryz.f44.name == "runtime.NumGoroutine")=false:=by decide +kernel
theorem nm45:(Tryz.f45.name == "runtime.NumGoroutine")=false:=by decide +kernel
theorem nm46:(Tryz.f46.name == "runtime.NumGoroutine")=false:=by decide +kernel
theorem nm47:(Tryz.f47.name == "runtime.NumGoroutine")=false:=by decide +kernel
theorem nm48:(Tryz.f48.name == "runtime.NumGoroutine")=false:=by decide +kernel
theorem nm49:(Tryz.f49.name == "runtime.NumGoroutine")=false:=by decide +kernel
theorem nm50:(Tryz.f50.name == "runtime.NumGoroutine")=false:=by decide +kernel
theorem nm51:(Tryz.f51.name == "runtime.NumGoroutine")=false:=by decide +kernel
theorem nm52:(Tryz.f52.name == "runtime.NumGoroutine")=false:=by decide +kernel
theorem nm53:(Tryz.f53.name == "runtime.NumGoroutine")=false:=by decide +kernel
theorem nm6:(Tryz.f6.name == "runtime.NumGoroutine")=false:=by decide +kernel
theorem nm61:(Tryz.f61.name == "runtime.NumGoroutine")=false:=by decide +kernel
theorem nm62:(Tryz.f62.name == "runtime.NumGoroutine")=false:=by decide +kernel
theorem nm64:(Tryz.f64.name == "runtime.NumGoroutine")=false:=by decide +kernel
theorem nm65:(Tryz.f65.name == "runtime.NumGoroutine")=false:=by decide +kernel
theorem nm66:(Tryz.f66.name == "runtime.NumGoroutine")=false:=by decide +kernel
theorem nm67:(Tryz.f67.name == "runtime.NumGoroutine")=false:=by decide +kernel
theorem nm68:(Tryz.f68.name == "runtime.NumGoroutine")=false:=by decide +kernel
theorem nm69:(Tryz.f69.name == "runtime.NumGoroutine")=false:=by decide +kernel
theorem nm7:(Tryz.f7.name == "runtime.NumGoroutine")=false:=by decide +kernel
theorem nm70:(Tryz.f70.name == "runtime.NumGoroutine")=false:=by decide +kernel
theorem nm71:(Tryz.f71.name == "runtime.NumGoroutine")=false:=by decide +kernel
theorem nm72:(Tryz.f72.name == "runtime.NumGoroutine")=false:=by decide +kernel
theorem nm73:(Tryz.f73.name == "runtime.NumGoroutine")=false:=by decide +kernel
theorem nm74:(Tryz.f74.name == "runtime.NumGoroutine")=false:=by decide +kernel
theorem nm85:(Tryz.f85.name == "runtime.NumGoroutine")=false:=by decide +kernel
theorem nm86:(Tryz.f86.name == "runtime.NumGoroutine")=false:=by decide +kernel
theorem nm87:(Tryz.f87.name == "runtime.NumGoroutine")=false:=by decide +kernel
theorem nm89:(Tryz.f89.name == "runtime.NumGoroutine")=false:=by decide +kernel
theorem sz102:szOf Tryz.prog 102=some 256:=by kernel_rfl
theorem sz132:szOf Tryz.prog 132=some 1:=by kernel_rfl
theorem sz22:szOf Tryz.prog 22=some 1:=by kernel_rfl
theorem sz27:szOf Tryz.prog 27=some 2:=by kernel_rfl
theorem sz3:szOf Tryz.prog 3=some 1:=by kernel_rfl
theorem sz33:szOf Tryz.prog 33=some 1:=by kernel_rfl
theorem sz35:szOf Tryz.prog 35=some 3:=by kernel_rfl
theorem sz4:szOf Tryz.prog 4=some 1:=by kernel_rfl
theorem sz50:szOf Tryz.prog 50=some 1:=by kernel_rfl
theorem sz54:szOf Tryz.prog 54=some 1:=by kernel_rfl
theorem sz58:szOf Tryz.prog 58=some 1:=by kernel_rfl
theorem sz73:szOf Tryz.prog 73=some 1:=by kernel_rfl
theorem sz76:szOf Tryz.prog 76=some 1:=by kernel_rfl
theorem sz77:szOf Tryz.prog 77=some 1:=by kernel_rfl
theorem sz78:szOf Tryz.prog 78=some 4:=by kernel_rfl
theorem sz79:szOf Tryz.prog 79=some 1:=by kernel_rfl
theorem sz81:szOf Tryz.prog 81=some 6:=by kernel_rfl
theorem sz87:szOf Tryz.prog 87=some 7:=by kernel_rfl
theorem sz9:szOf Tryz.prog 9=some 1:=by kernel_rfl
theorem sz91:szOf Tryz.prog 91=some 1:=by kernel_rfl
theorem sz93:szOf Tryz.prog 93=some 3:=by kernel_rfl
theorem sz96:szOf Tryz.prog 96=some 1:=by kernel_rfl
theorem zr102:(Tryz.prog.info? 102).bind (·.zero)=some (.agg #[.int .i64 (0),.int .i64 (0),.int .i64 (0),.int .i64 (0),.int .i64 (0),.int .i64 (0),.int .i64 (0),.int .i64 (0),.int .i64 (0),.int .i64 (0),.int .i64 (0),.int .i64 (0),.int .i64 (0),.int .i64 (0),.int .i64 (0),.int .i64 (0),.int .i64 (0),.int .i64 (0),.int .i64 (0),.int .i64 (0),.int .i64 (0),.int .i64 (0),.int .i64 (0),.int .i64 (0),.int .i64 (0),.int .i64 (0),.int .i64 (0),.int .i64 (0),.int .i64 (0),.int .i64 (0),.int .i64 (0),.int .i64 (0),.int .i64 (0),.int .i64 (0),.int .i64 (0),.int .i64 (0),.int .i64 (0),.int .i64 (0),.int .i64 (0),.int .i64 (0),.int .i64 (0),.int .i64 (0),.int .i64 (0),.int .i64 (0),.int .i64 (0),.int .i64 (0),.int .i64 (0),.int .i64 (0),.int .i64 (0),.int .i64 (0),.int .i64 (0),.int .i64 (0),.int .i64 (0),.int .i64 (0),.int .i64 (0),.int .i64 (0),.int .i64 (0),.int .i64 (0),.int .i64 (0),.int .i64 (0),.int .i64 (0),.int .i64 (0),.int .i64 (0),.int .i64 (0),.int .i64 (0),.int .i64 (0),.int .i64 (0),.int .i64 (0),.int .i64 (0),.int .i64 (0),.int .i64 (0),.int .i64 (0),.int .i64 (0),.int .i64 (0),.int .i64 (0),.int .i64 (0),.int .i64 (0),.int .i64 (0),.int .i64 (0),.int .i64 (0),.int .i64 (0),.int .i64 (0),.int .i64 (0),.int .i64 (0),.int .i64 (0),.int .i64 (0),.int .i64 (0),.int .i64 (0),.int .i64 (0),.int .i64 (0),.int .i64 (0),.int .i64 (0),.int .i64 (0),.int .i64 (0),.int .i64 (0),.int .i64 (0),.int .i64 (0),.int .i64 (0),.int .i64 (0),.int .i64 (0),.int .i64 (0),.int .i64 (0),.int .i64 (0),.int .i64 (0),.int .i64 (0),.int .i64 (0),.int .i64 (0),.int .i64 (0),.int .i64 (0),.int .i64 (0),.int .i64 (0),.int .i64 (0),.int .i64 (0),.int .i64 (0),.int .i64 (0),.int .i64 (0),.int .i64 (0),.int .i64 (0),.int .i64 (0),.int .i64 (0),.int .i64 (0),.int .i64 (0),.int .i64 (0),.int .i64 (0),.int .i64 (0),.int .i64 (0),.int .i64 (0),.int .i64 (0),.int .i64 (0),.int .i64 (0),.int .i64 (0),.int .i64 (0),.int .i64 (0),.int .i64 (0),.int .i64 (0),.int .i64 (0),.int .i64 (0),.int .i64 (0),.int .i64 (0),.int .i64 (0),.int .i64 (0),.int .i64 (0),.int .i64 (0),.int .i64 (0),.int .i64 (0),.int .i64 (0),.int .i64 (0),.int .i64 (0),.int .i64 (0),.int .i64 (0),.int .i64 (0),.int .i64 (0),.int .i64 (0),.int .i64 (0),.int .i64 (0),.int .i64 (0),.int .i64 (0),.int .i64 (0),.int .i64 (0),.int .i64 (0),.int .i64 (0),.int .i64 (0),.int .i64 (0),.int .i64 (0),.int .i64 (0),.int .i64 (0),.int .i64 (0),.int .i64 (0),.int .i64 (0),.int .i64 (0),.int .i64 (0),.int .i64 (0),.int .i64 (0),.int .i64 (0),.int .i64 (0),.int .i64 (0),.int .i64 (0),.int .i64 (0),.int .i64 (0),.int .i64 (0),.int .i64 (0),.int .i64 (0),.int .i64 (0),.int .i64 (0),.int .i64 (0),.int .i64 (0),.int .i64 (0),.int .i64 (0),.int .i64 (0),.int .i64 (0),.int .i64 (0),.int .i64 (0),.int .i64 (0),.int .i64 (0),.int .i64 (0),.int .i64 (0),.int .i64 (0),.int .i64 (0),.int .i64 (0),.int .i64 (0),.int .i64 (0),.int .i64 (0),.int .i64 (0),.int .i64 (0),.int .i64 (0),.int .i64 (0),.int .i64 (0),.int .i64 (0),.int .i64 (0),.int .i64 (0),.int .i64 (0),.int .i64 (0),.int .i64 (0),.int .i64 (0),.int .i64 (0),.int .i64 (0),.int .i64 (0),.int .i64 (0),.int .i64 (0),.int .i64 (0),.int .i64 (0),.int .i64 (0),.int .i64 (0),.int .i64 (0),.int .i64 (0),.int .i64 (0),.int .i64 (0),.int .i64 (0),.int .i64 (0),.int .i64 (0),.int .i64 (0),.int .i64 (0),.int .i64 (0),.int .i64 (0),.int .i64 (0),.int .i64 (0),.int .i64 (0),.int .i64 (0),.int .i64 (0),.int .i64 (0),.int .i64 (0),.int .i64 (0),.int .i64 (0),.int .i64 (0),.int .i64 (0),.int .i64 (0),.int .i64 (0),.int .i64 (0),.int .i64 (0),.int .i64 (0),.int .i64 (0),.int .i64 (0),.int .i64 (0),.int .i64 (0),.int .i64 (0),.int .i64 (0)]):=by kernel_rfl
theorem zr134:(Tryz.prog.info? 134).bind (·.zero)=some (.agg #[.pointer none,.slice none 0 0]):=by kernel_rfl
theorem zr22:(Tryz.prog.info? 22).bind (·.zero)=some (.slice none 0 0):=by kernel_rfl
theorem zr27:(Tryz.prog.info? 27).bind (·.zero)=some (.agg #[.int .i64 (0),.int .i64 (0)]):=by kernel_rfl
theorem zr3:(Tryz.prog.info? 3).bind (·.zero)=some (.int .i64 (0)):=by kernel_rfl
theorem zr35:(Tryz.prog.info? 35).bind (·.zero)=some (.agg #[.int .i64 (0),.int .i64 (0),.int .i64 (0)]):=by kernel_rfl
theorem zr4:(Tryz.prog.info? 4).bind (·.zero)=some (.bool false):=by kernel_rfl
theorem zr54:(Tryz.prog.info? 54).bind (·.zero)=some (.int .i64 (0)):=by kernel_rfl
theorem zr81:(Tryz.prog.info? 81).bind (·.zero)=some (.agg #[.int .i64 (0),.int .u64 (0),.int .u64 (0),.int .u64 (0),.int .u64 (0),.slice none 0 0]):=by kernel_rfl
theorem zr93:(Tryz.prog.info? 93).bind (·.zero)=some (.agg #[.string ⟨#[]⟩,.int .i64 (0),.int .i64 (0)]):=by kernel_rfl
end Go.Proofs.YtfegacfjgjaghaaGreatDoor.H
namespace Go.Proofs.YtfegacfjgjaghaaGreatDoor
open Go Go.Lw
set_option maxRecDepth 20000
section
variable {rb n m d lim:Nat}{h h':Heap}{c a:UInt8}{l r:By}{x:Nd}{M:Nat→Prop}
def noneV:Value:=.iface 122 (.agg #[])
def NoneCh (c:List PanicEntry):Prop:=c=[{ v:=noneV,recovered:=false }]
def St (h:Heap) (rb:Nat) (l:By):Prop:=Blk h rb 125 [.string (bs l)]
abbrev rdr (rb:Nat):Value:=.pointer (some ⟨rb,0,none⟩)
abbrev only (rb:Nat):Nat→Prop:=fun b=>b=rb
def PR {α:Type}(rb:Nat) (h:Heap) (p:Option (α×By)) (Φ:α→Value→Heap→Prop):Ending→Heap→Prop :=
 RetP (fun v h'=>∃x r,p=some (x,r)∧Φ x v h'∧St h' rb r∧Ext (only rb) h h') (fun ch h'=>NoneCh ch∧p=none∧Ext (only rb) h h')
theorem PR.no {α:Type}{p:Option (α×By)}{Φ:α→Value→Heap→Prop}{c:List PanicEntry}(hc:NoneCh c) (hp:p=none) (hx:Ext (only rb) h h'):PR rb h p Φ (.panicked c) h':=⟨hc,hp,hx⟩
theorem RetP.no {Φ:Value→Heap→Prop}{X:List PanicEntry→Heap→Prop}{c:List PanicEntry}(k:X c h):RetP Φ X (.panicked c) h:=k
theorem St.cell {h:Heap}{rb:Nat}{l:By}(k:St h rb l):cellAt h ⟨rb,0,none⟩=some (.string (bs l)):=Blk.cell k (i:=0) rfl
theorem St.lt {h:Heap}{rb:Nat}{l:By}(k:St h rb l):rb<h.size:=Blk.lt k
def takeP:By→Option (UInt8×By)| []=>none|c::r=>some (c,r)
theorem takeP_none (h:takeP l=none):l=[]:=by cases l with|nil=>rfl|cons c r=>cases h
theorem takeP_some (h:takeP l=some (c,r)):l=c::r:=by cases l with|nil=>cases h|cons d t=>cases h;rfl
theorem next_calls (hs:St h rb l):CallsH Tryz.prog 125 #[rdr rb] h (Ret fun r h'=>r= .int .u8 ((l.head?.getD 0).toNat:Nat)∧h'=h):=by
 refine CallsH.of Tryz.func125 rfl rfl ?_;refine xrd Tryz.func125 1 [0,2] rfl ?_;refine G.seq rfl ?_;refine xra Tryz.func125 2 rfl ?_;refine xp rfl (OpP.fieldAddr (off:=0) Tryz.underlying125 rfl rfl H.sz9 rfl) ?_;refine xp rfl (OpP.load H.ag9 rfl hs.cell) ?_;refine xp rfl (OpP.eqlStr rfl rfl) ?_;refine xd [0,2,7] rfl ?_;refine G.ite rfl rfl (fun he=>?_) (fun he=>?_)
 · have hl:l=[]:=bs_inj he;subst hl;refine xrd Tryz.func125 1 [0,2,7] rfl ?_;refine G.ret Tryz.func125 rfl rfl ?_;exact⟨_,rfl,rfl,rfl⟩
 · obtain⟨c,r,rfl⟩:=List.exists_cons_of_ne_nil (fun(e:l=[])=>he (by rw[e];rfl));refine G.skip rfl ?_;refine xra Tryz.func125 2 rfl ?_;refine xp rfl (OpP.fieldAddr (off:=0) Tryz.underlying125 rfl rfl H.sz9 rfl) ?_;refine xp rfl (OpP.load H.ag9 rfl hs.cell) ?_;refine xp rfl (OpP.indexStr Tryz.underlying9 rfl rfl 0 rfl (bs_at rfl)) ?_;refine xqd 1 [0,2,7] rfl ?_;refine G.ret Tryz.func125 rfl rfl ?_;exact⟨_,rfl,rfl,rfl⟩
theorem take_calls (hs:St h rb l) (hl:l.length≤1000000):CallsH Tryz.prog 126 #[rdr rb] h (PR rb h (takeP l) fun c v _=>v= .int .u8 (c.toNat:Nat)):=by
 refine CallsH.of Tryz.func126 rfl rfl ?_;refine xrd Tryz.func126 1 [0,2] rfl ?_;refine G.seq rfl ?_;refine xra Tryz.func126 2 rfl ?_;refine xp rfl (OpP.fieldAddr (off:=0) Tryz.underlying125 rfl rfl H.sz9 rfl) ?_;refine xp rfl (OpP.load H.ag9 rfl hs.cell) ?_;refine xp rfl (OpP.eqlStr rfl rfl) ?_;refine xd [0,2,8] rfl ?_;refine G.ite rfl rfl (fun he=>?_) (fun he=>?_)
 · have hl:l=[]:=bs_inj he;subst hl;refine G.reg Tryz.func126 rfl ?_;refine xp rfl (OpP.build (H.bd122_ ) rfl) ?_;refine xp rfl (OpP.makeInterface H.cn122 rfl) ?_;refine RW.op0 rfl rfl rfl (OpX.panic (Φ:=fun _ _=>False) rfl (PR.no rfl rfl (Ext.refl _ _))) ?_;rintro _ _ hpn;exact hpn.elim
 · obtain⟨c,r,rfl⟩:=List.exists_cons_of_ne_nil (fun(e:l=[])=>he (by rw[e];rfl));have hz:(bs (c::r)).size=r.length+1:=by rw[bs_size];rfl
   have hd:=bs_drop (c::r) 1;simp only[List.length_cons] at hl;refine G.skip rfl ?_;refine xra Tryz.func126 2 rfl ?_;refine xp rfl (OpP.fieldAddr (off:=0) Tryz.underlying125 rfl rfl H.sz9 rfl) ?_;refine xp rfl (OpP.load H.ag9 rfl hs.cell) ?_;refine xp rfl (OpP.indexStr Tryz.underlying9 rfl rfl 0 rfl (bs_at rfl)) ?_;refine xqd 1 [0,2,3,8] rfl ?_;refine xra Tryz.func126 3 rfl ?_;refine xp rfl (OpP.fieldAddr (off:=0) Tryz.underlying125 rfl rfl H.sz9 rfl) ?_;refine xp rfl (OpP.load H.ag9 rfl hs.cell) ?_;refine xp rfl (OpP.sliceStrLo Tryz.underlying9 rfl rfl 1 rfl (by omega)) ?_;refine xqp 1 rfl rfl (OpP.fieldAddr (off:=0) Tryz.underlying125 rfl rfl H.sz9 rfl) ?_;refine RW.op0 rfl rfl rfl (OpX.storeOne H.sz9 rfl rfl hs (by first|decide|exact of_decide_eq_true rfl|(simp;done)|(simp;omega)) rfl) ?_;rintro _ h1 ⟨rfl,hk,hx,hz1⟩;refine xd [0,2,3,8] rfl ?_;refine xrd Tryz.func126 2 [0,2,3,8] rfl ?_;refine G.ret Tryz.func126 rfl rfl ?_;exact⟨c,r,rfl,rfl,by rw[hd] at hk;exact hk,hx⟩
theorem skip_calls (c:UInt8) (hs:St h rb l) (hl:l.length≤1000000):CallsH Tryz.prog 86 #[rdr rb,.int .u8 (c.toNat:Nat)] h (Ret fun v h' =>
 ((l.head? =some c∧v= .bool true∧St h' rb l.tail)∨(l.head? ≠some c∧v= .bool false∧St h' rb l))∧Ext (only rb) h h'):=by
 refine CallsH.of Tryz.func86 rfl rfl ?_;refine xrd Tryz.func86 1 [0,1,4] rfl ?_;refine G.seq rfl ?_;refine G.seq rfl ?_;refine G.regTo1 [(18,.bool (decide (l.head? ≠some c)))] [(0,_),(1,_),(4,_)] ⟨rfl,rfl,rfl,trivial⟩ Tryz.func86 rfl ?_ ?_
 · refine xqp 2 rfl rfl (OpP.fieldAddr (off:=0) Tryz.underlying125 rfl rfl H.sz9 rfl) ?_;refine xp rfl (OpP.load H.ag9 rfl hs.cell) ?_;refine xp rfl (OpP.eqlStr rfl rfl) ?_;refine xqm 1 rfl ?_;refine RW.split (d:=10) rfl (fun he=>?_) (fun he=>?_)
   · have hl:l=[]:=bs_inj (of_decide_eq_true he);refine xqm 8 rfl ?_;refine RW.done rfl ?_;exact⟨rfl,at_bool rfl (by subst hl;simp),rfl,rfl,rfl,trivial⟩
   · obtain⟨d,r,rfl⟩:=List.exists_cons_of_ne_nil (fun(e:l=[])=>(of_decide_eq_false he) (by rw[e];rfl));refine xqp 2 rfl rfl (OpP.fieldAddr (off:=0) Tryz.underlying125 rfl rfl H.sz9 rfl) ?_;refine xp rfl (OpP.load H.ag9 rfl hs.cell) ?_;refine xp rfl (OpP.indexStr Tryz.underlying9 rfl rfl 0 rfl (bs_at rfl)) ?_;refine xqm 3 rfl ?_;refine RW.done rfl ?_;exact⟨rfl,at_bool rfl (by simp only[List.head?_cons,Option.some.injEq,ne_eq];exact u8_ne d c),rfl,rfl,rfl,trivial⟩
 · refine G.ite rfl rfl (fun hn=>?_) (fun hn=>?_)
   · refine xrd Tryz.func86 1 [0,1,4,18] rfl ?_;refine G.ret Tryz.func86 rfl rfl ?_;exact⟨_,rfl,.inr ⟨hn,rfl,hs⟩,Ext.refl _ _⟩
   · have hn:=Classical.not_not.1 hn;obtain⟨d,r,rfl⟩:=List.exists_cons_of_ne_nil (fun(e:l=[])=>by rw[e] at hn;cases hn);have hz:(bs (d::r)).size=r.length+1:=by rw[bs_size];rfl
     have hd:=bs_drop (d::r) 1;simp only[List.length_cons] at hl;refine G.skip rfl ?_;refine xra Tryz.func86 3 rfl ?_;refine xp rfl (OpP.fieldAddr (off:=0) Tryz.underlying125 rfl rfl H.sz9 rfl) ?_;refine xp rfl (OpP.load H.ag9 rfl hs.cell) ?_;refine xp rfl (OpP.sliceStrLo Tryz.underlying9 rfl rfl 1 rfl (by omega)) ?_;refine xqp 1 rfl rfl (OpP.fieldAddr (off:=0) Tryz.underlying125 rfl rfl H.sz9 rfl) ?_;refine RW.op0 rfl rfl rfl (OpX.storeOne H.sz9 rfl rfl hs (by first|decide|exact of_decide_eq_true rfl|(simp;done)|(simp;omega)) rfl) ?_;rintro _ h1 ⟨rfl,hk,hx,hz1⟩;refine xd [0,1,4,18] rfl ?_;refine xrd Tryz.func86 1 [0,1,4,18] rfl ?_;refine G.ret Tryz.func86 rfl rfl ?_;exact⟨_,rfl,.inl ⟨hn,rfl,by rw[hd] at hk;exact hk⟩,hx⟩
theorem need_calls (c:UInt8) (hs:St h rb l) (hl:l.length≤1000000):CallsH Tryz.prog 139 #[rdr rb,.int .u8 (c.toNat:Nat)] h (PR rb h (if l.head? =some c then some ((),l.tail) else none) fun _ _ _=>True):=by
 refine CallsH.of Tryz.func139 rfl rfl ?_;refine xra Tryz.func139 2 rfl ?_;refine xo rfl (OpX.call (vs:=[_,_]) Tryz.func86 rfl H.nm86 rfl (CallsH.toX (skip_calls c hs hl))) ?_;rintro _ h1 ⟨hor,hx⟩
 rcases hor with ⟨h1,rfl,h2⟩|⟨h1,rfl,h2⟩
 · refine xqd 1 [0,1,7] rfl ?_;refine G.cond rfl rfl (fun hc=>absurd hc (by decide)) (fun _=>?_);refine G.skip rfl ?_;refine G.fall Tryz.func139 rfl ?_;exact⟨(),_,if_pos h1,trivial,h2,hx⟩
 · refine xqd 1 [0,1,7] rfl ?_;refine G.cond rfl rfl (fun _=>?_) (fun hc=>absurd hc (by decide));refine G.reg Tryz.func139 rfl ?_;refine xp rfl (OpP.build (H.bd122_ ) rfl) ?_;refine xp rfl (OpP.makeInterface H.cn122 rfl) ?_;refine RW.op0 rfl rfl rfl (OpX.panic (Φ:=fun _ _=>False) rfl (PR.no rfl (if_neg h1) hx)) ?_;rintro _ _ hpn;exact hpn.elim
theorem specialC_calls (x:UInt8):CallsH Tryz.prog 153 #[.string ⟨#[40,41,91,93,124,42,43,63,46,92,45,94]⟩,.int .u8 (x.toNat:Nat)] h (Ret fun r h'=>r= .int .i64 (Lib.indexByte specialB x)∧h'=h) :=
 (indexByte_calls _ _).ret fun _ _ ⟨ho,he⟩=>⟨by rw[ho];simp[specialB],he⟩
theorem special_iff:∀x:UInt8,(0≤Lib.indexByte specialB x)↔x∈specialB:=by
 have h:∀n:Fin 256,(0≤Lib.indexByte specialB (UInt8.ofNat n.val))↔(UInt8.ofNat n.val)∈specialB:=by decide +kernel
 intro x;have:=h ⟨x.toNat,x.toNat_lt⟩;simpa using this
def digH:By:=[48,49,50,51,52,53,54,55,56,57,97,98,99,100,101,102]
theorem digitC_calls (x:UInt8):CallsH Tryz.prog 153 #[.string ⟨#[48,49,50,51,52,53,54,55,56,57,97,98,99,100,101,102]⟩,.int .u8 (x.toNat:Nat)] h (Ret fun r h'=>r= .int .i64 (Lib.indexByte digH x)∧h'=h) :=
 (indexByte_calls _ _).ret fun _ _ ⟨ho,he⟩=>⟨by rw[ho];simp[digH],he⟩
theorem low_fin:∀n:Fin 256,IntKind.u8.wrap ((BitVec.ofInt IntKind.u8.bits (n.val:Int) |||BitVec.ofInt IntKind.u8.bits 32).toNat)=(((UInt8.ofNat n.val) ||| 32).toNat:Nat):=by decide +kernel
theorem low (x:UInt8):IntKind.u8.wrap ((BitVec.ofInt IntKind.u8.bits (x.toNat:Int) |||BitVec.ofInt IntKind.u8.bits 32).toNat)=((x ||| 32).toNat:Nat):=by
 have:=low_fin ⟨x.toNat,x.toNat_lt⟩;simpa using this
theorem dig_fin:∀n:Fin 256,hexVal (UInt8.ofNat n.val)=if Lib.indexByte digH ((UInt8.ofNat n.val) ||| 32)<0∨n.val<48 then none else some (Lib.indexByte digH ((UInt8.ofNat n.val) ||| 32)).toNat:=by decide +kernel
theorem dig (x:UInt8):hexVal x=if Lib.indexByte digH (x ||| 32)<0∨x.toNat<48 then none else some (Lib.indexByte digH (x ||| 32)).toNat:=by
 have:=dig_fin ⟨x.toNat,x.toNat_lt⟩;simpa using this
theorem hexVal_lt {x:UInt8}(h:hexVal x=some n):n<16:=by
 unfold hexVal at h;split at h
 · cases h;omega
 · split at h
   · cases h;omega
   · split at h
     · cases h;omega
     · cases h
theorem digit_calls (x:UInt8):CallsH Tryz.prog 152 #[.int .u8 (x.toNat:Nat)] h (RetP (fun v h'=>∃n:Nat,hexVal x=some n∧n<16∧v= .int .u8 n∧h'=h) (fun ch h'=>NoneCh ch∧hexVal x=none∧h'=h)):=by
 have hd:=dig x;refine CallsH.of Tryz.func152 rfl rfl ?_;refine xrd Tryz.func152 1 [0,2] rfl ?_;refine xra Tryz.func152 1 rfl ?_;refine xp rfl (OpP.bits_or rfl rfl) ?_;refine xo rfl (OpX.call (vs:=[_,_]) Tryz.func153 rfl H.nm153 rfl (CallsH.toX ((low x▸digitC_calls (x ||| 32))))) ?_;rintro _ _ ⟨rfl,rfl⟩;refine xqd 1 [0,2,3] rfl ?_;refine G.seq rfl ?_;refine G.seq rfl ?_;refine G.regTo1 [(12,.bool (decide (Lib.indexByte digH (x ||| 32)<0∨x.toNat<48)))] [(0,_),(2,_),(3,_)] ⟨rfl,rfl,rfl,trivial⟩ Tryz.func152 rfl ?_ ?_
 · refine xqm 3 rfl ?_;refine RW.split (d:=9) rfl (fun hg=>?_) (fun hg=>?_)
   · refine xqm 3 rfl ?_;refine RW.done rfl ?_;exact⟨rfl,at_bool rfl (by have:=of_decide_eq_true hg;simp[this]),rfl,rfl,rfl,trivial⟩
   · refine xqm 3 rfl ?_;refine RW.done rfl ?_;exact⟨rfl,at_bool rfl (by have:=of_decide_eq_false hg;simp only[decide_eq_decide];omega),rfl,rfl,rfl,trivial⟩
 · refine G.ite rfl rfl (fun hn=>?_) (fun hn=>?_)
   · rw[if_pos hn] at hd;refine G.reg Tryz.func152 rfl ?_;refine xp rfl (OpP.build (H.bd122_ ) rfl) ?_;refine xp rfl (OpP.makeInterface H.cn122 rfl) ?_;refine RW.op0 rfl rfl rfl (OpX.panic (Φ:=fun _ _=>False) rfl (RetP.no ⟨rfl,hd,rfl⟩)) ?_;rintro _ _ hpn;exact hpn.elim
   · rw[if_neg hn] at hd;have h16:=hexVal_lt hd;refine G.skip rfl ?_;refine xra Tryz.func152 1 rfl ?_;refine xp rfl (OpP.convInt Tryz.underlying3 Tryz.underlying5 rfl) ?_;refine xqd 1 [0,2,3,12] rfl ?_;refine G.ret Tryz.func152 rfl rfl ?_;refine⟨_,hd,h16,?_,rfl⟩
     show Value.int .u8 _=_
     congr 1
     have:IntKind.u8.wrap (Lib.indexByte digH (x ||| 32))=Lib.indexByte digH (x ||| 32):=wrap_u8 (by omega);rw[this];omega
theorem hex2_fin:∀m n:Fin 16,IntKind.u8.wrap ((BitVec.ofInt IntKind.u8.bits (IntKind.u8.wrap ((m.val:Int)*2 ^ min (4:Int).toNat IntKind.u8.bits)) |||BitVec.ofInt IntKind.u8.bits (n.val:Int)).toNat)=((UInt8.ofNat (m.val*16+n.val)).toNat:Nat):=by decide +kernel
theorem hex2 (hm:m<16) (hn:n<16):IntKind.u8.wrap ((BitVec.ofInt IntKind.u8.bits (IntKind.u8.wrap ((m:Int)*2 ^ min (4:Int).toNat IntKind.u8.bits)) |||BitVec.ofInt IntKind.u8.bits (n:Int)).toNat)=((UInt8.ofNat (m*16+n)).toNat:Nat):=hex2_fin ⟨m,hm⟩ ⟨n,hn⟩
theorem esc_x1 {x:UInt8}(t:By) (h:hexVal x=none):escP (120::x::t)=none:=by
 unfold escP;cases t with
 |nil=>rfl
 |cons y t=>simp[h]
theorem escaped_calls (hs:St h rb l) (hl:l.length≤1000000):CallsH Tryz.prog 142 #[rdr rb] h (PR rb h (escP l) fun c v _=>v= .int .u8 (c.toNat:Nat)):=by
 refine CallsH.of Tryz.func142 rfl rfl ?_;refine xrd Tryz.func142 1 [0,2] rfl ?_;refine G.seq rfl ?_;refine xra Tryz.func142 1 rfl ?_;refine xo rfl (OpX.call (vs:=[_]) Tryz.func126 rfl H.nm126 rfl (CallsH.toXP (take_calls hs hl) ((fun _ _ ⟨hc,hp,hx⟩=>PR.no hc (by rw[takeP_none hp];rfl) hx)))) ?_;rintro _ h1 ⟨c,r,hp,rfl,hs1,hx1⟩;refine xqd 1 [0,2,3] rfl ?_;refine G.block rfl rfl ?_;refine xrd Tryz.func142 3 [0,2,3,7] rfl ?_;obtain rfl:=takeP_some hp;simp only[List.length_cons] at hl;refine G.ite rfl rfl (fun e1=>?_) (fun e1=>?_)
 · have e1:c=110:=(u8_is rfl).1 e1;refine xrd Tryz.func142 1 [0,2,3,7] rfl ?_;refine G.ret Tryz.func142 rfl rfl ?_;exact⟨10,r,by unfold escP;simp[e1],rfl,hs1,hx1⟩
 · have e1:¬c=110:=fun e=>e1 ((u8_is rfl).2 e)
   refine xrd Tryz.func142 3 [0,2,3,7,10] rfl ?_;refine G.ite rfl rfl (fun e2=>?_) (fun e2=>?_)
   · have e2:c=116:=(u8_is rfl).1 e2;refine xrd Tryz.func142 1 [0,2,3,7,10] rfl ?_;refine G.ret Tryz.func142 rfl rfl ?_;exact⟨9,r,by unfold escP;simp[e2],rfl,hs1,hx1⟩
   · have e2:¬c=116:=fun e=>e2 ((u8_is rfl).2 e)
     refine xrd Tryz.func142 3 [0,2,3,7,10,13] rfl ?_;refine G.ite rfl rfl (fun e3=>?_) (fun e3=>?_)
     · have e3:c=114:=(u8_is rfl).1 e3;refine xrd Tryz.func142 1 [0,2,3,7,10,13] rfl ?_;refine G.ret Tryz.func142 rfl rfl ?_;exact⟨13,r,by unfold escP;simp[e3],rfl,hs1,hx1⟩
     · have e3:¬c=114:=fun e=>e3 ((u8_is rfl).2 e)
       refine xrd Tryz.func142 3 [0,2,3,7,10,13,16] rfl ?_;refine G.ite rfl rfl (fun e4=>?_) (fun e4=>?_)
       · have e4:c=120:=(u8_is rfl).1 e4;subst e4;refine xra Tryz.func142 1 rfl ?_;refine xo rfl (OpX.call (vs:=[_]) Tryz.func126 rfl H.nm126 rfl (CallsH.toXP (take_calls hs1 (by omega)) ((fun _ _ ⟨hc,hp,hx⟩=>PR.no hc (by rw[takeP_none hp];rfl) (hx1.trans hx))))) ?_;rintro _ h2 ⟨x,r2,hp2,rfl,hs2,hx2⟩;refine xo rfl (OpX.call (vs:=[_]) Tryz.func152 rfl H.nm152 rfl (CallsH.toXP (digit_calls x) ((fun _ h' ⟨hc,hq,hh⟩=>PR.no hc (by obtain rfl:=takeP_some hp2;exact esc_x1 _ hq) (by subst hh;exact hx1.trans hx2))))) ?_;rintro _ _ ⟨m,hm,hm16,rfl,rfl⟩;refine xqd 1 [0,2,3,4,7,10,13,16] rfl ?_;refine xra Tryz.func142 1 rfl ?_;refine xp rfl (OpP.shl rfl rfl (by omega)) ?_;refine xqm 1 rfl ?_;obtain rfl:=takeP_some hp2;simp only[List.length_cons] at hl;refine xo rfl (OpX.call (vs:=[_]) Tryz.func126 rfl H.nm126 rfl (CallsH.toXP (take_calls hs2 (by omega)) ((fun _ _ ⟨hc,hp,hx⟩=>PR.no hc (by rw[takeP_none hp];rfl) ((hx1.trans hx2).trans hx))))) ?_;rintro _ h3 ⟨y,r3,hp3,rfl,hs3,hx3⟩;refine xo rfl (OpX.call (vs:=[_]) Tryz.func152 rfl H.nm152 rfl (CallsH.toXP (digit_calls y) ((fun _ h' ⟨hc,hq,hh⟩=>PR.no hc (by obtain rfl:=takeP_some hp3;unfold escP;simp[hm,hq]) (by subst hh;exact(hx1.trans hx2).trans hx3))))) ?_;rintro _ _ ⟨n,hn,hn16,rfl,rfl⟩;refine xp rfl (OpP.bits_or rfl rfl) ?_;refine xqd 1 [0,2,3,4,7,10,13,16] rfl ?_;obtain rfl:=takeP_some hp3;refine G.ret Tryz.func142 rfl rfl ?_;exact⟨UInt8.ofNat (m*16+n),r3,by unfold escP;simp[hm,hn],by show Value.int _ _=_;rw[hex2 hm16 hn16],hs3,(hx1.trans hx2).trans hx3⟩
       · have e4:¬c=120:=fun e=>e4 ((u8_is rfl).2 e)
         refine xra Tryz.func142 1 rfl ?_;refine xo rfl (OpX.call (vs:=[_,_]) Tryz.func153 rfl H.nm153 rfl (CallsH.toX (specialC_calls c))) ?_;rintro _ _ ⟨rfl,rfl⟩;refine xqd 2 [0,2,3,7,10,13,16,28] rfl ?_;refine G.ite rfl rfl (fun e5=>?_) (fun e5=>?_)
         · have e5:=(special_iff c).1 e5;refine xrd Tryz.func142 2 [0,2,3,7,10,13,16,28] rfl ?_;refine G.ret Tryz.func142 rfl rfl ?_;exact⟨c,r,by unfold escP;simp[e1,e2,e3,e4,e5],rfl,hs1,hx1⟩
         · have e5:¬c∈specialB:=fun e=>e5 ((special_iff c).2 e)
           refine G.skip rfl ?_;refine G.blkEnd ?_;refine G.reg Tryz.func142 rfl ?_;refine xp rfl (OpP.build (H.bd122_ ) rfl) ?_;refine xp rfl (OpP.makeInterface H.cn122 rfl) ?_;refine RW.op0 rfl rfl rfl (OpX.panic (Φ:=fun _ _=>False) rfl (PR.no rfl (by unfold escP;simp[e1,e2,e3,e4,e5]) hx1)) ?_;rintro _ _ hpn;exact hpn.elim
theorem letter_calls (hs:St h rb l) (hl:l.length≤1000000):CallsH Tryz.prog 151 #[rdr rb] h (PR rb h (letP l) fun c v _=>v= .int .u8 (c.toNat:Nat)):=by
 refine CallsH.of Tryz.func151 rfl rfl ?_;refine xrd Tryz.func151 1 [0,2] rfl ?_;refine xra Tryz.func151 1 rfl ?_;refine xo rfl (OpX.call (vs:=[_]) Tryz.func126 rfl H.nm126 rfl (CallsH.toXP (take_calls hs hl) ((fun _ _ ⟨hc,hp,hx⟩=>PR.no hc (by rw[takeP_none hp];rfl) hx)))) ?_;rintro _ h1 ⟨c,r,hp,rfl,hs1,hx1⟩;refine xqd 1 [0,2,3] rfl ?_;refine G.seq rfl ?_;refine G.block rfl rfl ?_;refine xrd Tryz.func151 3 [0,2,3,6] rfl ?_;obtain rfl:=takeP_some hp;simp only[List.length_cons] at hl;refine G.ite rfl rfl (fun e1=>?_) (fun e1=>?_)
 · have e1:c=92:=(u8_is rfl).1 e1;refine xra Tryz.func151 1 rfl ?_;refine xo rfl (OpX.call (vs:=[_]) Tryz.func142 rfl H.nm142 rfl (CallsH.toXP (escaped_calls hs1 (by omega)) ((fun _ _ ⟨hc,hp,hx⟩=>PR.no hc (by unfold letP;simp[e1,hp]) (hx1.trans hx))))) ?_;rintro _ h2 ⟨d,r2,hp2,rfl,hs2,hx2⟩;refine xqd 1 [0,2,3,6] rfl ?_;refine G.ret Tryz.func151 rfl rfl ?_;exact⟨d,r2,by unfold letP;simp[e1,hp2],rfl,hs2,hx1.trans hx2⟩
 · have e1:¬c=92:=fun e=>e1 ((u8_is rfl).2 e)
   refine xra Tryz.func151 1 rfl ?_;refine xo rfl (OpX.call (vs:=[_,_]) Tryz.func153 rfl H.nm153 rfl (CallsH.toX (specialC_calls c))) ?_;rintro _ _ ⟨rfl,rfl⟩;refine xqd 2 [0,2,3,6,11] rfl ?_;refine G.ite rfl rfl (fun e5=>?_) (fun e5=>?_)
   · have e5:=(special_iff c).1 e5;refine G.reg Tryz.func151 rfl ?_;refine xp rfl (OpP.build (H.bd122_ ) rfl) ?_;refine xp rfl (OpP.makeInterface H.cn122 rfl) ?_;refine RW.op0 rfl rfl rfl (OpX.panic (Φ:=fun _ _=>False) rfl (PR.no rfl (by unfold letP;simp[e1,e5]) hx1)) ?_;rintro _ _ hpn;exact hpn.elim
   · have e5:¬c∈specialB:=fun e=>e5 ((special_iff c).2 e)
     refine G.skip rfl ?_;refine G.blkEnd ?_;refine xrd Tryz.func151 2 [0,2,3,6,11] rfl ?_;refine G.ret Tryz.func151 rfl rfl ?_;exact⟨c,r,by unfold letP;simp[e1,e5],rfl,hs1,hx1⟩
theorem ndC_with (k s:Nat) (v:Value) (i:Nat) (hi:i<256):(ndC k s v).set (1+i / 64*1) (.int .u64 ((wrd s (i / 64) ||| 2 ^ (i%64):Nat):Int))=ndC k (s |||(1 <<< i)) v:=by
 have h4:i / 64<4:=by omega
 have hw:=wrd_with s i;have hs:∀q,q≠i / 64→encW (s |||(1 <<< i)) q=encW s q:=fun q hq=>by unfold encW;rw[wrd_same s i q hq]
 have he:encW (s |||(1 <<< i)) (i / 64)= .int .u64 ((wrd s (i / 64) ||| 2 ^ (i%64):Nat):Int):=by unfold encW;rw[hw]
 rw[←he];generalize i / 64=q at *;unfold ndC
 match q,h4 with
 | 0,_=>rw[hs 1 (by decide),hs 2 (by decide),hs 3 (by decide)];rfl
 | 1,_=>rw[hs 0 (by decide),hs 2 (by decide),hs 3 (by decide)];rfl
 | 2,_=>rw[hs 0 (by decide),hs 1 (by decide),hs 3 (by decide)];rfl
 | 3,_=>rw[hs 0 (by decide),hs 1 (by decide),hs 2 (by decide)];rfl
theorem ndC_word (k s:Nat) (v:Value) (q:Nat) (hq:q<4):(ndC k s v)[1+q*1]? =some (encW s q):=by
 match q,hq with
 | 0,_=>rfl
 | 1,_=>rfl
 | 2,_=>rfl
 | 3,_=>rfl
theorem or_shl {w i:Nat}(hw:w<18446744073709551616):IntKind.u64.wrap ((BitVec.ofInt IntKind.u64.bits (w:Int) |||BitVec.ofInt IntKind.u64.bits (IntKind.u64.wrap (1*2 ^ min (((i:Int)).tmod 64).toNat IntKind.u64.bits))).toNat:Int)=((w ||| 2 ^ (i%64):Nat):Int):=by
 have h1:((i:Int)).tmod 64=((i%64:Nat):Int):=by rw[Int.tmod_eq_emod_of_nonneg (by omega)];omega
 have hb:i%64<64:=Nat.mod_lt _ (by decide);have h2:2 ^ (i%64)<2 ^ 64:=Nat.pow_lt_pow_right (by decide) hb;rw[h1,shl64,or64 hw h2]
theorem spanN_step (s i n:Nat) (h:0<n):spanN s i n=spanN (s |||(1 <<< i)) (i+1) (n-1):=by
 cases n with
 |zero=>omega
 |succ n=>rfl
theorem span_calls {nb k s:Nat}{v:Value}(hk:Blk h nb 81 (ndC k s v)) (a b:UInt8):CallsH Tryz.prog 141 #[.pointer (some ⟨nb,1,none⟩),.int .u8 (a.toNat:Nat),.int .u8 (b.toNat:Nat)] h (Ret fun _ h' =>
 Blk h' nb 81 (ndC k (spanB s a b) v)∧Ext (only nb) h h'):=by
 have ha:=a.toNat_lt;have hb:=b.toNat_lt;refine CallsH.of Tryz.func141 rfl rfl ?_;refine xra Tryz.func141 1 rfl ?_;refine xp rfl (OpP.convIn Tryz.underlying5 Tryz.underlying3 rfl (wrap_i64 ⟨by omega,by omega⟩)) ?_;refine xqd 1 [0,1,2,6] rfl ?_;refine G.block rfl rfl ?_;refine G.loop (σ:=Nat×Nat) (fun q=>[(0,.pointer (some ⟨nb,1,none⟩)),(2,.int .u8 (b.toNat:Nat)),(6,.int .i64 (q.1:Nat))]) (fun q h'=>Blk h' nb 81 (ndC k q.2 v)∧Ext (only nb) h h'∧q.1≤256∧spanN q.2 q.1 (b.toNat+1-q.1)=spanB s a b) (fun q=>b.toNat+1-q.1) ((a.toNat,s)) rfl ⟨rfl,rfl,rfl,trivial⟩ ⟨hk,Ext.refl _ _,by show a.toNat≤256;omega,rfl⟩ ?_;rintro⟨i,s'⟩ h1 ⟨hk1,hx1,hi,hsp⟩ ih
 try dsimp only
 dsimp only at hk1 hi hsp;refine G.seq rfl ?_;refine xra Tryz.func141 2 rfl ?_;refine xp rfl (OpP.convIn Tryz.underlying5 Tryz.underlying3 rfl (wrap_i64 ⟨by omega,by omega⟩)) ?_;refine xqd 1 [0,2,6,12] rfl ?_;refine G.ite rfl rfl (fun hle=>?_) (fun hle=>?_)
 · have hi255:i≤b.toNat:=by omega
   rw[spanN_step _ _ _ (by omega)] at hsp;have hq:i / 64<4:=by omega
   have hdiv:IntKind.i64.wrap (((i:Int)).tdiv 64)=((i / 64:Nat):Int):=by
    rw[Int.tdiv_eq_ediv_of_nonneg (by omega),wrap_i64 ⟨by omega,by omega⟩];omega
   have hw:=wrd_lt s' (i / 64);have hset:=ndC_with k s' v i (by omega);have hk1':Blk h1 nb 81 [.int .i64 k,encW s' 0,encW s' 1,encW s' 2,encW s' 3,v]:=hk1;refine G.skip rfl ?_;refine G.seq rfl ?_;refine G.block rfl rfl ?_;refine G.draw (fun b=>Array.size h1≤b) (fun i=>Nat.blt i 12) (sz:=13) (listed:= #[false,false,false,false,false,false,false,false,false,false,false,false,false]) Tryz.func141 H.mixed rfl rfl rfl ?_;refine xtq 0 1 (by kernel_rfl) rfl ?_;refine xtq 1 3 (by kernel_rfl) rfl ?_;refine xtp 2 7 (by kernel_rfl) rfl (fun h' e=>OpP.quo rfl rfl (by decide)) ?_;refine xtq 3 15 (by kernel_rfl) rfl ?_;refine xtp 4 31 (by kernel_rfl) rfl (fun h' e=>OpP.indexArr Tryz.underlying78 H.sz77 rfl rfl (i / 64) hdiv hq) ?_;refine xtp 5 63 (by kernel_rfl) rfl (fun h' e=>OpP.load H.ag77 rfl (e.old (hk1.cell (ndC_word k s' v _ hq)))) ?_;refine xtq 6 127 (by kernel_rfl) rfl ?_;refine xtp 7 255 (by kernel_rfl) rfl (fun h' e=>OpP.rem rfl rfl (by decide)) ?_;refine xtp 8 511 (by kernel_rfl) rfl (fun h' e=>OpP.shl rfl rfl (by rw[Int.tmod_eq_emod_of_nonneg (by omega)];omega)) ?_;refine xtp 9 1023 (by kernel_rfl) rfl (fun h' e=>OpP.bits_or rfl rfl) ?_;refine xto 10 2047 (by kernel_rfl) rfl (OpP.toX (OpP.nilCheck rfl)) ?_;rintro _ hq_ ⟨rfl,hqe_⟩;replace hqe_:=hqe_.symm;subst hqe_;refine⟨fun _=>Ext.refl _ _,?_⟩;refine xtp 11 4095 (by kernel_rfl) rfl (fun h' e=>OpP.indexArr Tryz.underlying78 H.sz77 rfl rfl (i / 64) hdiv hq) ?_;refine xt0 12 8191 (by kernel_rfl) rfl (OpX.storeOne H.sz77 rfl rfl hk1' (by first|decide|exact of_decide_eq_true rfl|(simp;done)|(simp;omega)) rfl) ?_;rintro _ h2 ⟨rfl,hk2,hx2,hz2⟩;refine⟨fun hk=>(nomatch hk),?_⟩;refine RD.done (by kernel_rfl) ?_;refine xu [0,2,6,12] rfl ?_;refine G.blkEnd ?_;refine G.reg Tryz.func141 rfl ?_;refine xqp 1 rfl rfl (OpP.add64 rfl rfl ⟨by omega,by omega⟩) ?_;refine xqd 1 [0,2,6,12] rfl ?_;rw[or_shl hw,show [.int .i64 (k:Int),encW s' 0,encW s' 1,encW s' 2,encW s' 3,v]=ndC k s' v from rfl,hset] at hk2;exact ih (i+1,s' |||(1 <<< i)) _ _ ⟨rfl,rfl,rfl,trivial⟩ ⟨hk2,hx1.trans hx2,by show i+1≤256;omega,by show spanN _ (i+1) (b.toNat+1-(i+1))=_;rw[←hsp];rfl⟩ (by show b.toNat+1-(i+1)<b.toNat+1-i;omega)
 · have h0:b.toNat+1-i=0:=by omega
   rw[h0] at hsp;refine G.exit rfl rfl ?_;refine G.fall Tryz.func141 rfl ?_;exact⟨_,rfl,by rw[←hsp];exact hk1,hx1⟩
theorem has_calls (s:Nat) (b:UInt8):CallsH Tryz.prog 70 #[.agg (encSet s).toArray,.int .u8 (b.toNat:Nat)] h (Ret fun r h'=>r= .bool (s.testBit b.toNat)∧Ext0 h h'):=by
 have hb:=b.toNat_lt;have hq:b.toNat / 64<4:=by omega
 have hdiv:IntKind.u8.wrap (((b.toNat:Int)).tdiv 64)=((b.toNat / 64:Nat):Int):=by
  rw[Int.tdiv_eq_ediv_of_nonneg (by omega),wrap_u8 (by omega)];omega
 have hmod:((b.toNat:Int)).tmod 64=((b.toNat%64:Nat):Int):=by rw[Int.tmod_eq_emod_of_nonneg (by omega)];omega
 have hm64:b.toNat%64<64:=Nat.mod_lt _ (by decide)
 have hword:∀q,q<4→(encSet s)[0+q*1]? =some (encW s q):=fun q hq=>by
  match q,hq with
  | 0,_=>rfl
  | 1,_=>rfl
  | 2,_=>rfl
  | 3,_=>rfl
 refine CallsH.of Tryz.func70 rfl rfl ?_;refine xr Tryz.func70 rfl ?_;refine xo rfl (OpX.boxN rfl) ?_;rintro _ h1 ⟨rfl,hk,he,hz⟩;refine xqd 1 [0,1,2,4] rfl ?_;refine xra Tryz.func70 1 rfl ?_;refine xp rfl (OpP.quo rfl rfl (by decide)) ?_;have hk:Blk h1 h.size 78 (encSet s):=hk;refine xp rfl (OpP.indexArr Tryz.underlying78 H.sz77 rfl rfl (b.toNat / 64) hdiv hq) ?_;refine xp rfl (OpP.load H.ag77 rfl (hk.cell (hword _ hq))) ?_;refine xqp 1 rfl rfl (OpP.rem rfl rfl (by decide)) ?_;refine xp rfl (OpP.shr rfl rfl (by rw[hmod];omega)) ?_;refine xp rfl (OpP.bits_and rfl rfl) ?_;refine xqd 2 [0,1,2,4] rfl ?_;refine G.ret Tryz.func70 rfl rfl ?_;refine⟨_,rfl,?_,he⟩;rw[hmod,shr64 _ _ hm64,and1 (Nat.lt_of_le_of_lt (Nat.shiftRight_le _ _) (wrd_lt s _)),wrd_has];cases s.testBit b.toNat<;>rfl
theorem ExtM.only {h0:Heap}{g:Nat}(e:Ext M h0 h) (x:Ext (fun b=>b=g) h h') (hg:h0.size≤g):Ext M h0 h' :=
 ⟨Nat.le_trans e.size x.size,fun b hb hm=>by rw[x.block b (Nat.lt_of_lt_of_le hb e.size) (by omega)];exact e.block b hb hm⟩
theorem ExtM.ext0 {h0:Heap}(e:Ext M h0 h) (x:Ext0 h h'):Ext M h0 h':=e.trans (Ext0.of x)
theorem setsP_fuel:∀(n m acc:Nat) (s:By),s.length<n→s.length<m→setsP n acc s=setsP m acc s
 | 0,_,_,_,h,_=>by omega
 |_,0,_,_,_,h=>by omega
 |n+1,m+1,acc,s,hn,hm=>by
  rw[setsP,setsP];cases hf:fromToP s with
  |none=>rfl
  |some p =>
   obtain⟨⟨a,b⟩,r⟩:=p;have hlen:=fromToP_len hf;simp only;split
   · rfl
   · exact setsP_fuel n m _ _ (by omega) (by omega)
def contP (first:Bool) (acc:Nat) (l:By):Option (Nat×By):=if first=false∧l.head? =some 93 then some (acc,l.tail) else setsP (l.length+1) acc l
theorem contP_none {first:Bool}{acc:Nat}(h:¬(first=false∧l.head? =some 93)) (hf:fromToP l=none):contP first acc l=none:=by
 unfold contP;rw[if_neg h,setsP,hf]
theorem contP_some {first:Bool}{acc:Nat}{b:UInt8}(h:¬(first=false∧l.head? =some 93)) (hf:fromToP l=some ((a,b),r)):contP first acc l=contP false (spanB acc a b) r:=by
 have hlen:=fromToP_len hf;unfold contP;rw[if_neg h,setsP,hf];simp only[true_and];split
 · simp
 · rename_i hne
   rw[if_neg (fun e=>by
    cases r with
    |nil=>cases e
    |cons c t=>simp at e;subst e;exact hne t rfl)]
   exact setsP_fuel _ _ _ _ (by omega) (by omega)
theorem from1 (h:letP l=none):fromToP l=none:=by unfold fromToP;rw[h]
theorem from2 (h:letP l=some (a,r)) (hr:r.head? ≠some 45):fromToP l=some ((a,a),r):=by
 unfold fromToP;rw[h];simp only;split
 · exact absurd rfl hr
 · rfl
theorem from3 (h:letP l=some (a,r)) (hr:r.head? =some 45) (hb:letP r.tail=none):fromToP l=none:=by
 unfold fromToP;rw[h];cases r with
 |nil=>cases hr
 |cons c t=>simp at hr;subst hr;simp at hb;simp[hb]
theorem from4 {r':By}{b:UInt8}(h:letP l=some (a,r)) (hr:r.head? =some 45) (hb:letP r.tail=some (b,r')):fromToP l=if b.toNat<a.toNat then none else some ((a,b),r'):=by
 unfold fromToP;rw[h];cases r with
 |nil=>cases hr
 |cons c t=>simp at hr;subst hr;simp at hb;simp[hb]
theorem bracketP_cont (l:By):bracketP l=(contP true 0 (if l.head? =some 94 then l.tail else l)).map fun p=>(.mk 1 (if l.head? =some 94 then notSet p.1 else p.1) [],p.2):=by
 unfold bracketP contP;split
 · simp
 · rename_i hne
   have h1:l.head? ≠some 94:=fun e=>by
    cases l with
    |nil=>cases e
    |cons c t=>simp at e;subst e;exact hne t rfl
   simp[h1]
theorem wrd_not (s q:Nat) (hq:q<4):wrd (notSet s) q=18446744073709551615 ^^^ wrd s q:=by
 apply Nat.eq_of_testBit_eq
 intro i;rw[wrd_bit,Nat.testBit_xor,wrd_bit];unfold notSet;rw[Nat.testBit_xor,show allSet=2 ^ 256-1 from rfl,Nat.testBit_two_pow_sub_one,show (18446744073709551615:Nat)=2 ^ 64-1 from rfl,Nat.testBit_two_pow_sub_one]
 by_cases hi:i<64
 · have:64*q+i<256:=by omega
   simp[hi,this]
 · simp[hi]
theorem xor64 {x:Nat}(hx:x<18446744073709551616):IntKind.u64.wrap ((BitVec.ofInt IntKind.u64.bits (if IntKind.u64.signed then -1 else IntKind.u64.max) ^^^ BitVec.ofInt IntKind.u64.bits (x:Int)).toNat:Int)=((18446744073709551615 ^^^ x:Nat):Int):=by
 have e:(BitVec.ofInt IntKind.u64.bits (if IntKind.u64.signed then -1 else IntKind.u64.max) ^^^ BitVec.ofInt IntKind.u64.bits (x:Int)).toNat=18446744073709551615 ^^^ x:=by
  rw[BitVec.toNat_xor]
  have h1:(BitVec.ofInt IntKind.u64.bits (x:Int)).toNat=x:=by
   show (BitVec.ofInt 64 (x:Int)).toNat=x
   simp only[BitVec.toNat_ofInt];omega
  rw[h1];rfl
 rw[e];have:18446744073709551615 ^^^ x<2 ^ 64:=Nat.xor_lt_two_pow (by decide) hx;exact wrap_u64' ⟨by omega,by omega⟩
def mixW (s q i:Nat):Value:=if i<q then encW (notSet s) i else encW s i
def ndM (s q:Nat):List Value:=[.int .i64 1,mixW s q 0,mixW s q 1,mixW s q 2,mixW s q 3,.slice none 0 0]
theorem ndM_word (s q:Nat) (hq:q<4):(ndM s q)[1+q*1]? =some (encW s q):=by
 match q,hq with
 | 0,_=>rfl
 | 1,_=>rfl
 | 2,_=>rfl
 | 3,_=>rfl
theorem ndM_set (s q:Nat) (hq:q<4):(ndM s q).set (1+q*1) (.int .u64 ((18446744073709551615 ^^^ wrd s q:Nat):Int))=ndM s (q+1):=by
 rw[←wrd_not s q hq]
 match q,hq with
 | 0,_=>rfl
 | 1,_=>rfl
 | 2,_=>rfl
 | 3,_=>rfl
abbrev blw (n:Nat):Nat→Prop:=fun b=>b<n
def PhiN (n:Nat) (x:Nd) (v:Value) (h':Heap):Prop:=∃w,v= .agg (ndC x.kind x.set w).toArray∧NdAt h' (blw n) (ndC x.kind x.set w) x
theorem NdAt.leaf (h:Heap) (O:Nat→Prop) (k s:Nat):NdAt h O (ndC k s (.slice none 0 0)) (.mk k s []):=.of k s (SlR.nil _ _ _)
theorem bracket_calls (hs:St h rb l) (hl:l.length≤1000000):CallsH Tryz.prog 140 #[rdr rb] h (PR rb h (bracketP l) (PhiN h.size)):=by
 have hlt:=hs.lt;have hbr:=bracketP_cont l;refine CallsH.of Tryz.func140 rfl rfl ?_;refine xr Tryz.func140 rfl ?_;refine xo rfl (OpX.allocN H.zr81) ?_;rintro _ h1 ⟨rfl,hkr,he1,hz1⟩;refine xd [0,2] rfl ?_;refine xr Tryz.func140 rfl ?_;refine xp rfl (OpP.build (H.bd81_0 _) rfl) ?_;refine xo rfl (OpX.allocN H.zr81) ?_;rintro _ h2 ⟨rfl,hk2,he2,hz2⟩;refine RW.op0 rfl rfl rfl (OpX.storeBlk H.sz81 rfl rfl hk2 (by first|rfl|(simp;done)|(simp;omega)) (by first|decide|exact of_decide_eq_true rfl|(simp;done)|(simp;omega)) (by first|decide|simp[Value.oneCell'])) ?_;rintro _ h3 ⟨rfl,hk3,hx3,hz3⟩;have hk3:Blk h3 h1.size 81 (ndC 1 0 (.slice none 0 0)):=hk3;have hkr:Blk h1 h.size 81 (ndC 0 0 (.slice none 0 0)):=hkr;have e3:Ext0 h h3:=Ext0.only (he1.trans he2) hx3 (by omega);have hkr3:Blk h3 h.size 81 (ndC 0 0 (.slice none 0 0)):=(hkr.ext0 he2).ext hx3 (by show ¬_=_;omega);have hs3:St h3 rb l:=Blk.ext0 hs e3;refine xd [0,2,3] rfl ?_;refine xra Tryz.func140 1 rfl ?_;refine xo rfl (OpX.call (vs:=[_,_]) Tryz.func86 rfl H.nm86 rfl (CallsH.toX (skip_calls 94 hs3 hl))) ?_;rintro _ h4 ⟨hor,hx4⟩
 obtain⟨nt,l1,rfl,hnt,hl1,hs4⟩:∃(nt:Bool) (l1:By),_=Value.bool nt∧nt=decide (l.head? =some 94)∧l1=(if l.head? =some 94 then l.tail else l)∧St h4 rb l1:=by
  rcases hor with ⟨a1,a2,a3⟩|⟨a1,a2,a3⟩
  · exact⟨true,_,a2,by simp[a1],by rw[if_pos a1],a3⟩
  · exact⟨false,_,a2,by simp[a1],by rw[if_neg a1],a3⟩
 rw[←hl1] at hbr;have hl1l:l1.length≤1000000:=by rw[hl1];split;(have:l.tail.length≤l.length:=by simp);omega;exact hl
 have hkr4:=hkr3.ext hx4 (by show ¬_=_;omega);have hk4:=hk3.ext hx4 (by show ¬_=_;omega);have e4:Ext (only rb) h h4:=(Ext0.of e3).trans hx4;have hz4:=hx4.size;generalize htg:contP true 0 l1=tgt at hbr;refine xqd 1 [0,2,3,4] rfl ?_;refine G.seq rfl ?_;refine xrd Tryz.func140 1 [0,2,3,4,5] rfl ?_;refine G.block rfl rfl ?_;refine G.loop (σ:=Bool×Nat×By) (fun q=>[(0,rdr rb),(2,.pointer (some ⟨h.size,0,none⟩)),(3,.pointer (some ⟨h1.size,0,none⟩)),(4,.bool nt),(5,.bool q.1)]) (fun q h'=>St h' rb q.2.2∧Blk h' h1.size 81 (ndC 1 q.2.1 (.slice none 0 0))∧Blk h' h.size 81 (ndC 0 0 (.slice none 0 0))∧Ext (only rb) h h'∧q.2.2.length≤1000000∧contP q.1 q.2.1 q.2.2=tgt) (fun q=>q.2.2.length) ((true,0,l1)) rfl ⟨rfl,rfl,rfl,rfl,rfl,trivial⟩ ⟨hs4,hk4,hkr4,e4,hl1l,htg⟩ ?_;rintro⟨first,acc,m⟩ h5 ⟨hs5,hk5,hkr5,e5,hm,hcon⟩ ih
 try dsimp only
 dsimp only at hs5 hk5 hm hcon;refine G.seq rfl ?_;refine G.seq rfl ?_;refine G.regTo1 [(17,.bool (decide (¬(first=false∧m.head? =some 93))))] [(0,_),(2,_),(3,_),(4,_),(5,_)] ⟨rfl,rfl,rfl,rfl,rfl,trivial⟩ Tryz.func140 rfl ?_ ?_
 · refine xqm 2 rfl ?_;refine RW.split (d:=13) rfl (fun hf=>?_) (fun hf=>?_)
   · refine xqm 4 rfl ?_;refine RW.done rfl ?_;exact⟨rfl,at_bool rfl (by simp[hf]),rfl,rfl,rfl,rfl,rfl,trivial⟩
   · refine xqm 1 rfl ?_;refine xo rfl (OpX.call (vs:=[_]) Tryz.func125 rfl H.nm125 rfl (CallsH.toX (next_calls hs5))) ?_;rintro _ _ ⟨rfl,rfl⟩;refine xqm 2 rfl ?_;refine RW.done rfl ?_;exact⟨rfl,at_bool rfl (by cases m with|nil=>simp|cons c t=>simp only[hf,List.head?_cons,Option.getD_some,Option.some.injEq,true_and];exact decide_eq_decide.2 (not_congr (u8_is rfl))),rfl,rfl,rfl,rfl,rfl,trivial⟩
 · refine G.ite rfl rfl (fun hgo=>?_) (fun hgo=>?_)
   · refine G.skip rfl ?_;refine G.seq rfl ?_;refine G.block rfl rfl ?_;refine xra Tryz.func140 1 rfl ?_;refine xo rfl (OpX.call (vs:=[_]) Tryz.func151 rfl H.nm151 rfl (CallsH.toXP (letter_calls hs5 hm) ((fun _ _ ⟨hc,hp,hx⟩=>PR.no hc (by rw[hbr,←hcon,contP_none hgo (from1 hp)];rfl) (e5.trans hx))))) ?_;rintro _ h6 ⟨a,r,ha,rfl,hs6,hx6⟩;have hrl:=letP_len ha;have hk6:=hk5.ext hx6 (by show ¬_=_;omega);have hkr6:=hkr5.ext hx6 (by show ¬_=_;omega);have e6:=e5.trans hx6;refine xqd 1 [0,2,3,4,5,6,17] rfl ?_;refine xrd Tryz.func140 2 [0,2,3,4,5,6,7,17] rfl ?_;refine G.seq rfl ?_;refine xra Tryz.func140 1 rfl ?_;refine xo rfl (OpX.call (vs:=[_,_]) Tryz.func86 rfl H.nm86 rfl (CallsH.toX (skip_calls 45 hs6 (by omega)))) ?_;rintro _ h7 ⟨hor7,hx7⟩;have hk7:=hk6.ext hx7 (by show ¬_=_;omega);have hkr7:=hkr6.ext hx7 (by show ¬_=_;omega);have e7:=e6.trans hx7
     rcases hor7 with ⟨a1,rfl,hs7⟩|⟨a1,rfl,hs7⟩
     · have htl:r.tail.length≤r.length:=by simp
       refine xd [0,2,3,4,5,6,7,17,22] rfl ?_;refine G.cond rfl rfl (fun _=>?_) (fun hc=>absurd hc (by decide));refine G.reg Tryz.func140 rfl ?_;refine xqm 1 rfl ?_;refine xo rfl (OpX.call (vs:=[_]) Tryz.func151 rfl H.nm151 rfl (CallsH.toXP (letter_calls hs7 (by omega)) ((fun _ _ ⟨hc,hp,hx⟩=>PR.no hc (by rw[hbr,←hcon,contP_none hgo (from3 ha a1 hp)];rfl) (e7.trans hx))))) ?_;rintro _ h8 ⟨b,r8,hb,rfl,hs8,hx8⟩;have hbl:=letP_len hb;have hk8:=hk7.ext hx8 (by show ¬_=_;omega);have hkr8:=hkr7.ext hx8 (by show ¬_=_;omega);have e8:=e7.trans hx8;have hf4:=from4 ha a1 hb;refine xqd 1 [0,2,3,4,5,6,7,17,22] rfl ?_;refine G.seq rfl ?_;refine xrd Tryz.func140 3 [0,2,3,4,5,6,7,17,22,27] rfl ?_;refine G.ite rfl rfl (fun hlow=>?_) (fun hlow=>?_)
       · rw[if_pos (by omega)] at hf4;refine G.reg Tryz.func140 rfl ?_;refine xp rfl (OpP.build (H.bd122_ ) rfl) ?_;refine xp rfl (OpP.makeInterface H.cn122 rfl) ?_;refine RW.op0 rfl rfl rfl (OpX.panic (Φ:=fun _ _=>False) rfl (PR.no rfl (by rw[hbr,←hcon,contP_none hgo hf4];rfl) e8)) ?_;rintro _ _ hpn;exact hpn.elim
       · rw[if_neg (by omega)] at hf4;refine G.skip rfl ?_;refine G.reg Tryz.func140 rfl ?_;refine xp rfl (OpP.fieldAddr (off:=1) Tryz.underlying81 rfl rfl H.sz78 rfl) ?_;refine xqm 2 rfl ?_;refine xo rfl (OpX.call (vs:=[_,_,_]) Tryz.func141 rfl H.nm141 rfl (CallsH.toX (span_calls hk8 a b))) ?_;rintro _ h9 ⟨hk9,hx9⟩;refine xd [0,2,3,4,5,6,7,17,22,27] rfl ?_;refine G.blkEnd ?_;refine G.reg Tryz.func140 rfl ?_;refine xqd 1 [0,2,3,4,5,6,7,17,22,27] rfl ?_;have hsp:=contP_some (acc:=acc) hgo hf4;exact ih (false,spanB acc a b,r8) _ _ ⟨rfl,rfl,rfl,rfl,rfl,trivial⟩ ⟨Blk.ext hs8 hx9 (by show ¬_=_;omega),hk9,hkr8.ext hx9 (by show ¬_=_;omega),ExtM.only e8 hx9 (by omega),by show r8.length≤_;omega,by rw[←hcon,hsp]⟩ (by show r8.length<m.length;omega)
     · have hf2:=from2 ha a1;refine xd [0,2,3,4,5,6,7,17,22] rfl ?_;refine G.cond rfl rfl (fun hc=>absurd hc (by decide)) (fun _=>?_);refine G.skip rfl ?_;refine G.seq rfl ?_;refine xrd Tryz.func140 3 [0,2,3,4,5,6,7,17,22,27] rfl ?_;refine G.cond rfl rfl (fun hc=>absurd hc (by simp)) (fun _=>?_);refine G.skip rfl ?_;refine G.reg Tryz.func140 rfl ?_;refine xp rfl (OpP.fieldAddr (off:=1) Tryz.underlying81 rfl rfl H.sz78 rfl) ?_;refine xqm 2 rfl ?_;refine xo rfl (OpX.call (vs:=[_,_,_]) Tryz.func141 rfl H.nm141 rfl (CallsH.toX (span_calls hk7 a a))) ?_;rintro _ h9 ⟨hk9,hx9⟩;refine xd [0,2,3,4,5,6,7,17,22,27] rfl ?_;refine G.blkEnd ?_;refine G.reg Tryz.func140 rfl ?_;refine xqd 1 [0,2,3,4,5,6,7,17,22,27] rfl ?_;have hsp:=contP_some (acc:=acc) hgo hf2;exact ih (false,spanB acc a a,r) _ _ ⟨rfl,rfl,rfl,rfl,rfl,trivial⟩ ⟨Blk.ext hs7 hx9 (by show ¬_=_;omega),hk9,hkr7.ext hx9 (by show ¬_=_;omega),ExtM.only e7 hx9 (by omega),by show r.length≤_;omega,by rw[←hcon,hsp]⟩ (by show r.length<m.length;omega)
   · have hgo:=Classical.not_not.1 hgo;have htgt:tgt=some (acc,m.tail):=by rw[←hcon];unfold contP;rw[if_pos hgo]
     refine G.exit rfl rfl ?_;refine xra Tryz.func140 1 rfl ?_;refine xo rfl (OpX.call (vs:=[_,_]) Tryz.func139 rfl H.nm139 rfl (CallsH.toXP (need_calls 93 hs5 hm) ((fun _ _ ⟨hc,hp,hx⟩=>absurd hp (by rw[if_pos hgo.2];simp))))) ?_;rintro _ h6 ⟨_,r,hp,_,hs6,hx6⟩;refine xd [0,2,3,4,5,17] rfl ?_;refine G.seq rfl ?_;refine xrd Tryz.func140 1 [0,2,3,4,5,17,36] rfl ?_;refine G.block rfl rfl ?_;rw[if_pos hgo.2] at hp;cases hp;have hk6:=hk5.ext hx6 (by show ¬_=_;omega);have hkr6:=hkr5.ext hx6 (by show ¬_=_;omega);have e6:=e5.trans hx6;have hk6:Blk h6 h1.size 81 (ndM acc 0):=hk6;refine G.loop (σ:=Nat) (fun q=>[(2,.pointer (some ⟨h.size,0,none⟩)),(3,.pointer (some ⟨h1.size,0,none⟩)),(4,.bool nt),(36,.int .i64 (q:Nat))]) (fun q h'=>q≤4∧St h' rb m.tail∧Blk h' h1.size 81 (ndM acc (if nt then q else 0))∧Blk h' h.size 81 (ndC 0 0 (.slice none 0 0))∧Ext (only rb) h h') (fun q=>4-q) (0) rfl ⟨rfl,rfl,rfl,rfl,trivial⟩ ⟨by omega,hs6,by cases nt<;>exact hk6,hkr6,e6⟩ ?_;rintro q h7 ⟨hq,hs7,hk7,hkr7,e7⟩ ih;refine xrd Tryz.func140 1 [2,3,4,36,37] rfl ?_;refine G.seq rfl ?_;refine G.ite rfl rfl (fun hq4=>?_) (fun hq4=>?_)
     · have hq4':q<4:=by omega
       refine G.skip rfl ?_;refine G.seq rfl ?_;refine G.block rfl rfl ?_;refine xrd Tryz.func140 2 [2,3,4,8,36,37] rfl ?_;refine xrd Tryz.func140 1 [2,3,4,8,36,37,39] rfl ?_;refine G.cond rfl rfl (fun hb=>?_) (fun hb=>?_)
       · rw[if_pos hb] at hk7;have hk7':Blk h7 h1.size 81 [.int .i64 1,mixW acc q 0,mixW acc q 1,mixW acc q 2,mixW acc q 3,.slice none 0 0]:=hk7;refine G.reg Tryz.func140 rfl ?_;refine xqp 2 rfl rfl (OpP.fieldAddr (off:=1) Tryz.underlying81 rfl rfl H.sz78 rfl) ?_;refine xp rfl (OpP.indexArr Tryz.underlying78 H.sz77 rfl rfl q rfl hq4') ?_;refine xp rfl (OpP.load H.ag77 rfl (hk7.cell (ndM_word acc q hq4'))) ?_;refine xp rfl (OpP.compl rfl) ?_;refine xp rfl (OpP.fieldAddr (off:=1) Tryz.underlying81 rfl rfl H.sz78 rfl) ?_;refine xp rfl (OpP.indexArr Tryz.underlying78 H.sz77 rfl rfl q rfl hq4') ?_;refine RW.op0 rfl rfl rfl (OpX.storeOne H.sz77 rfl rfl hk7' (by first|decide|exact of_decide_eq_true rfl|(simp;done)|(simp;omega)) rfl) ?_;rintro _ h8 ⟨rfl,hk8,hx8,hz8⟩;refine xd [2,3,4,8,36,37,39] rfl ?_;refine G.blkEnd ?_;refine G.reg Tryz.func140 rfl ?_;refine xp rfl (OpP.add64 rfl rfl ⟨by omega,by omega⟩) ?_;refine xqd 1 [2,3,4,8,36,37,39] rfl ?_;have hk8:Blk h8 h1.size 81 (ndM acc (q+1)):=by rw[←ndM_set acc q hq4',←xor64 (wrd_lt acc q)];exact hk8
         exact ih (q+1) _ _ ⟨rfl,rfl,rfl,rfl,trivial⟩ ⟨by omega,Blk.ext hs7 hx8 (by show ¬_=_;omega),by rw[if_pos hb];exact hk8,hkr7.ext hx8 (by show ¬_=_;omega),ExtM.only e7 hx8 (by omega)⟩ (by omega)
       · rw[if_neg (by rw[hb];decide)] at hk7;refine G.skip rfl ?_;refine G.blkEnd ?_;refine G.reg Tryz.func140 rfl ?_;refine xp rfl (OpP.add64 rfl rfl ⟨by omega,by omega⟩) ?_;refine xqd 1 [2,3,4,8,36,37,39] rfl ?_;exact ih (q+1) _ _ ⟨rfl,rfl,rfl,rfl,trivial⟩ ⟨by omega,hs7,by rw[if_neg (by rw[hb];decide)];exact hk7,hkr7,e7⟩ (by omega)
     · obtain rfl:q=4:=by omega
       have hfin:ndM acc (if nt then 4 else 0)=ndC 1 (if l.head? =some 94 then notSet acc else acc) (.slice none 0 0):=by
        subst hnt
        by_cases hd:l.head? =some 94<;>simp[hd]<;>rfl
       rw[hfin] at hk7;have hbr2:bracketP l=some (.mk 1 (if l.head? =some 94 then notSet acc else acc) [],m.tail):=by rw[hbr,htgt];rfl
       generalize (if l.head? =some 94 then notSet acc else acc)=fs at hk7 hbr2;refine G.exit rfl rfl ?_;refine xr Tryz.func140 rfl ?_;refine xp rfl (OpP.loadRowN H.ag81 H.sz81 rfl hk7.row (by first|rfl|(simp;done)|(simp;omega))) ?_;refine RW.op0 rfl rfl rfl (OpX.storeBlk H.sz81 rfl rfl hkr7 (by first|rfl|(simp;done)|(simp;omega)) (by first|decide|exact of_decide_eq_true rfl|(simp;done)|(simp;omega)) (NdAt.one (NdAt.leaf h7 (only rb) 1 fs))) ?_;rintro _ h8 ⟨rfl,hk8,hx8,hz8⟩;refine xd [2,3,4,36,37] rfl ?_;have hk8:Blk h8 h.size 81 (ndC 1 fs (.slice none 0 0)):=hk8;refine G.retC Tryz.func140 rfl (.cons (ResOk.rowN H.ag81 H.sz81 rfl (hk8.row) (by first|rfl|(simp;done)|(simp;omega))) (.nil)) ?_;exact⟨_,m.tail,hbr2,⟨_,rfl,NdAt.leaf _ _ _ _⟩,Blk.ext hs7 hx8 (by show ¬_=_;omega),ExtM.only e7 hx8 (Nat.le_refl _)⟩
theorem NdAt.low {cs:List Value}(k:NdAt h (blw m) cs x) (hn:n≤m) (e:Ext M h h') (hM:∀b,b<h.size→M b→b<m):NdAt h' (blw n) cs x :=
 k.mv (Mv.ofExt e fun b hb ho=>⟨fun hm=>ho (hM b hb hm),fun k=>ho (Nat.lt_of_lt_of_le k hn)⟩)
theorem over_all {cs ds:List Value}(h:cs.length=ds.length):over cs 0 ds=ds:=by
 unfold over;rw[List.drop_of_length_le (by omega)];simp
theorem joined_calls {O:Nat→Prop}{v:Value}{xs:List Nd}(kind:Nat) (hv:SlR eNd h O v xs):CallsH Tryz.prog 87 #[.int .i64 (kind:Nat),v] h (Ret fun r h'=>(∃w,r= .agg (ndC (joinNd kind xs).kind (joinNd kind xs).set w).toArray∧NdAt h' O (ndC (joinNd kind xs).kind (joinNd kind xs).set w) (joinNd kind xs))∧Ext0 h h'):=by
 obtain⟨oa,n,c,rfl,hsl⟩:=hv.open;have hn:=hsl.len;refine CallsH.of Tryz.func87 rfl rfl ?_;refine xr Tryz.func87 rfl ?_;refine xo rfl (OpX.allocN H.zr81) ?_;rintro _ h1 ⟨rfl,hk,he,hz⟩;refine xd [0,1,4] rfl ?_;refine G.seq rfl ?_;refine xra Tryz.func87 1 rfl ?_;refine xp rfl (OpP.lenSlice Tryz.underlying79 rfl) ?_;refine xd [0,1,4,6] rfl ?_;refine G.block rfl rfl ?_;refine xrd Tryz.func87 2 [0,1,4,6,7] rfl ?_;have hk:Blk h1 h.size 81 (ndC 0 0 (.slice none 0 0)):=hk;have hsl1:=hsl.mv (Mv.ext0 he);have hv1:=hv.ext0 he;refine G.ite rfl rfl (fun e0=>?_) (fun e0=>?_)
 · obtain rfl:n=0:=by omega
   have hx:xs=[]:=List.eq_nil_of_length_eq_zero hn;subst hx;refine xr Tryz.func87 rfl ?_;refine xp rfl (OpP.build (H.bd81_ ) rfl) ?_;refine RW.op0 rfl rfl rfl (OpX.storeBlk H.sz81 rfl rfl hk (by first|rfl|(simp;done)|(simp;omega)) (by first|decide|exact of_decide_eq_true rfl|(simp;done)|(simp;omega)) (by first|decide|simp[Value.oneCell'])) ?_;rintro _ h2 ⟨rfl,hk2,hx2,hz2⟩;refine xd [0,1,4,6,7] rfl ?_;have hk2:Blk h2 h.size 81 (ndC 0 0 (.slice none 0 0)):=hk2;refine G.retC Tryz.func87 rfl (.cons (ResOk.rowN H.ag81 H.sz81 rfl (hk2.row) (by first|rfl|(simp;done)|(simp;omega))) (.nil)) ?_;exact⟨_,rfl,⟨_,rfl,NdAt.leaf _ _ 0 0⟩,Ext0.only he hx2 (Nat.le_refl _)⟩
 · refine xrd Tryz.func87 2 [0,1,4,6,7,10] rfl ?_;refine G.ite rfl rfl (fun e1=>?_) (fun e1=>?_)
   · obtain rfl:n=1:=by omega
     obtain⟨x,rfl⟩:=List.length_eq_one_iff.1 hn;obtain⟨b,o,cs,ha,ho,hr,hR⟩:=hsl.get 0 x rfl;have hr:=he.rowAt (fun k=>k) hr;obtain⟨w,rfl,hw⟩:=NdAt.open hR;refine xra Tryz.func87 1 rfl ?_;refine xp rfl (OpP.indexSlice Tryz.underlying79 H.sz81 rfl rfl 0 rfl ha (by decide)) ?_;refine xp rfl (OpP.loadRowN H.ag81 H.sz81 rfl hr (by first|rfl|(simp;done)|(simp;omega))) ?_;refine RW.op0 rfl rfl rfl (OpX.storeBlk H.sz81 rfl rfl hk (by first|rfl|(simp;done)|(simp;omega)) (by first|decide|exact of_decide_eq_true rfl|(simp;done)|(simp;omega)) (eNd.one hR)) ?_;rintro _ h2 ⟨rfl,hk2,hx2,hz2⟩;refine xd [0,1,4,6,7,10] rfl ?_;have hk2:Blk h2 h.size 81 (ndC x.kind x.set w):=hk2;refine G.retC Tryz.func87 rfl (.cons (ResOk.rowN H.ag81 H.sz81 rfl (hk2.row) (by first|rfl|(simp;done)|(simp;omega))) (.nil)) ?_;exact⟨_,rfl,⟨w,rfl,NdAt.ext0 hR (Ext0.only he hx2 (Nat.le_refl _))⟩,Ext0.only he hx2 (Nat.le_refl _)⟩
   · refine G.skip rfl ?_;refine G.blkEnd ?_;refine xra Tryz.func87 2 rfl ?_;refine xp rfl (OpP.build (H.bd81_0_2 _ _ _ _) rfl) ?_;refine RW.op0 rfl rfl rfl (OpX.storeBlk H.sz81 rfl rfl hk (by first|rfl|(simp;done)|(simp;omega)) (by first|decide|exact of_decide_eq_true rfl|(simp;done)|(simp;omega)) (by first|decide|simp[Value.oneCell'])) ?_;rintro _ h2 ⟨rfl,hk2,hx2,hz2⟩;refine xd [0,1,4,6,7,10] rfl ?_;have hk2:Blk h2 h.size 81 (ndC kind 0 (.slice oa n c)):=hk2;refine G.retC Tryz.func87 rfl (.cons (ResOk.rowN H.ag81 H.sz81 rfl (hk2.row) (by first|rfl|(simp;done)|(simp;omega))) (.nil)) ?_
     have hj:joinNd kind xs= .mk kind 0 xs:=by
      unfold joinNd;split
      · simp at hn;omega
      · simp at hn;omega
      · rfl
     rw[hj];exact⟨_,rfl,⟨.slice oa n c,rfl,NdAt.of kind 0 (hv.ext0 (Ext0.only he hx2 (Nat.le_refl _)))⟩,Ext0.only he hx2 (Nat.le_refl _)⟩
def Sg (h:Heap) (lim:Nat):Prop:=∃m,4<lim∧m<lim∧cellAt h ⟨4,0,none⟩=some (.map (some m)) ∧
 ∃l:List (Int×Int),MapH (Value.int .u8) (Value.int .i64) h m l∧∀c:UInt8,((asc (c.toNat:Int) l).map (Value.int .i64)).getD (Value.int .i64 0)=Value.int .i64 (signOf c:Nat)
theorem Sg.ext {h h':Heap}{lim:Nat}(k:Sg h lim){M:Nat→Prop}(e:Ext M h h') (hM:∀b,M b→lim≤b):Sg h' lim:=by
 obtain⟨m,h1,h2,h3,l,h4,h5⟩:=k;exact⟨m,h1,h2,e.cell (fun k=>absurd (hM _ k) (by show ¬lim≤4;omega)) h3,l,h4.ext e (fun k=>by have:=hM _ k;omega),h5⟩
def RowsOk (d lim:Nat):Prop:=∀(h:Heap) (rb:Nat) (l:By),Sg h lim→lim≤rb→St h rb l→l.length<d→l.length≤1000000 →
 CallsH Tryz.prog 61 #[rdr rb] h (PR rb h (rowsP d l) (PhiN h.size))
theorem atom_calls (ih:RowsOk d lim) (hg:Sg h lim) (hrb:lim≤rb) (hs:St h rb l) (hd:l.length≤d) (hl:l.length≤1000000):CallsH Tryz.prog 124 #[rdr rb] h (PR rb h (atomP (rowsP d) l) (PhiN h.size)):=by
 have hlt:=hs.lt;refine CallsH.of Tryz.func124 rfl rfl ?_;refine xr Tryz.func124 rfl ?_;refine xo rfl (OpX.allocN H.zr81) ?_;rintro _ h1 ⟨rfl,hkr,he1,hz1⟩;refine xd [0,2] rfl ?_;refine xr Tryz.func124 rfl ?_;refine xp rfl (OpP.build (H.bd81_0 _) rfl) ?_;refine xo rfl (OpX.allocN H.zr81) ?_;rintro _ h2 ⟨rfl,hk2,he2,hz2⟩;refine RW.op0 rfl rfl rfl (OpX.storeBlk H.sz81 rfl rfl hk2 (by first|rfl|(simp;done)|(simp;omega)) (by first|decide|exact of_decide_eq_true rfl|(simp;done)|(simp;omega)) (by first|decide|simp[Value.oneCell'])) ?_;rintro _ h3 ⟨rfl,hk3,hx3,hz3⟩;have hk3:Blk h3 h1.size 81 (ndC 1 0 (.slice none 0 0)):=hk3;have hkr:Blk h1 h.size 81 (ndC 0 0 (.slice none 0 0)):=hkr;have e3:Ext0 h h3:=Ext0.only (he1.trans he2) hx3 (by omega);have hkr3:Blk h3 h.size 81 (ndC 0 0 (.slice none 0 0)):=(hkr.ext0 he2).ext hx3 (by show ¬_=_;omega);have hs3:St h3 rb l:=Blk.ext0 hs e3;refine xd [0,2,3] rfl ?_;refine G.seq rfl ?_;refine xra Tryz.func124 1 rfl ?_;refine xo rfl (OpX.call (vs:=[_]) Tryz.func126 rfl H.nm126 rfl (CallsH.toXP (take_calls hs3 hl) ((fun _ _ ⟨hc,hp,hx⟩=>PR.no hc (by rw[takeP_none hp];rfl) ((Ext0.of e3).trans hx))))) ?_;rintro _ h4 ⟨c,r,hp,rfl,hs4,hx4⟩;obtain rfl:=takeP_some hp;simp only[List.length_cons] at hl hd;have hkr4:=hkr3.ext hx4 (by show ¬_=_;omega);have hk4:=hk3.ext hx4 (by show ¬_=_;omega);have e4:Ext (only rb) h h4:=(Ext0.of e3).trans hx4;have hz4:=hx4.size;have hg4:Sg h4 lim:=hg.ext e4 (fun b (hb:b=rb)=>by omega);refine xqd 1 [0,2,3,4] rfl ?_;refine xrd Tryz.func124 1 [0,2,3,4,8] rfl ?_;refine G.block rfl rfl ?_;refine xrd Tryz.func124 2 [0,2,3,4,8,13] rfl ?_
 have fin:∀(x:Nd) (w:Value) (m:By) (h':Heap) (ρ':Env),Sub [(0,rdr rb),(2,.pointer (some ⟨h.size,0,none⟩)),(3,.pointer (some ⟨h1.size,0,none⟩))] ρ'→Blk h' h1.size 81 (ndC x.kind x.set w)→Blk h' h.size 81 (ndC 0 0 (.slice none 0 0))→St h' rb m→NdAt h' (blw (h.size+1)) (ndC x.kind x.set w) x→Ext (only rb) h h'→atomP (rowsP d) (c::r)=some (x,m)→G Tryz.prog 124 Tryz.f124 [.code [1,1,1]] ρ' h' (PR rb h (atomP (rowsP d) (c::r)) (PhiN h.size)):=by
  rintro x w m hh ρ' hsub hkx hkrr hst hnd hee hat;refine G.sub (ρ':=[(0,rdr rb),(2,.pointer (some ⟨h.size,0,none⟩)),(3,.pointer (some ⟨h1.size,0,none⟩))]) hsub ?_;refine xr Tryz.func124 rfl ?_;refine xp rfl (OpP.loadRowN H.ag81 H.sz81 rfl hkx.row (by first|rfl|(simp;done)|(simp;omega))) ?_;refine RW.op0 rfl rfl rfl (OpX.storeBlk H.sz81 rfl rfl hkrr (by first|rfl|(simp;done)|(simp;omega)) (by first|decide|exact of_decide_eq_true rfl|(simp;done)|(simp;omega)) (NdAt.one hnd)) ?_;rintro _ h9 ⟨rfl,hk9,hx9,hz9⟩;refine xd [0,2,3] rfl ?_;have hk9:Blk h9 h.size 81 (ndC x.kind x.set w):=hk9;refine G.retC Tryz.func124 rfl (.cons (ResOk.rowN H.ag81 H.sz81 rfl (hk9.row) (by first|rfl|(simp;done)|(simp;omega))) (.nil)) ?_;exact⟨x,m,hat,⟨w,rfl,NdAt.low hnd (Nat.le_succ _) hx9 (fun b _ (hb:b=h.size)=>by omega)⟩,Blk.ext hst hx9 (by show ¬_=_;omega),ExtM.only hee hx9 (Nat.le_refl _)⟩
 refine G.ite rfl rfl (fun c1=>?_) (fun c1=>?_)
 · have c1:c=40:=(u8_is rfl).1 c1;subst c1;refine xra Tryz.func124 1 rfl ?_;refine xo rfl (OpX.call (vs:=[_]) Tryz.func61 rfl H.nm61 rfl (CallsH.toXP (ih h4 rb r hg4 hrb hs4 (by omega) (by omega)) ((fun _ _ ⟨hc,hp,hx⟩=>PR.no hc (by unfold atomP;simp[hp]) (e4.trans hx))))) ?_;rintro _ h5 ⟨x,r5,hp5,⟨w,rfl,hnd5⟩,hs5,hx5⟩;have hk5:=hk4.ext hx5 (by show ¬_=_;omega);have hkr5:=hkr4.ext hx5 (by show ¬_=_;omega);have hr5:=rowsP_len d hp5;refine RW.op0 rfl rfl rfl (OpX.storeBlk H.sz81 rfl rfl hk5 (by first|rfl|(simp;done)|(simp;omega)) (by first|decide|exact of_decide_eq_true rfl|(simp;done)|(simp;omega)) (NdAt.one hnd5)) ?_;rintro _ h6 ⟨rfl,hk6,hx6,hz6⟩;refine xd [0,2,3,4,8,13] rfl ?_;refine G.reg Tryz.func124 rfl ?_;refine xqm 1 rfl ?_;have hk6:Blk h6 h1.size 81 (ndC x.kind x.set w):=hk6;have hs6:St h6 rb r5:=Blk.ext hs5 hx6 (by show ¬_=_;omega);have hnd6:NdAt h6 (blw (h.size+1)) (ndC x.kind x.set w) x:=NdAt.low hnd5 (by omega) hx6 (fun b _ (hb:b=h1.size)=>by omega);have e6:=ExtM.only (e4.trans hx5) hx6 (by omega);refine xo rfl (OpX.call (vs:=[_,_]) Tryz.func139 rfl H.nm139 rfl (CallsH.toXP (need_calls 41 hs6 (by omega)) ((fun _ _ ⟨hc,hp,hx⟩=>PR.no hc (by unfold atomP;simp only[if_true,hp5];split;rename_i t ht;cases ht;simp at hp;rfl) (e6.trans hx))))) ?_;rintro _ h7 ⟨_,r7,hp7,_,hs7,hx7⟩;refine xd [0,2,3,4,8,13] rfl ?_;refine G.blkEnd ?_
   have hcl:r5=41::r7:=by
    split at hp7
    · rename_i hh;cases hp7;cases r5 with|nil=>cases hh|cons a b=>simp at hh;subst hh;rfl
    · cases hp7
   subst hcl;exact fin x w r7 _ _ ⟨rfl,rfl,rfl,trivial⟩ (hk6.ext hx7 (by show ¬_=_;omega)) ((hkr5.ext hx6 (by show ¬_=_;omega)).ext hx7 (by show ¬_=_;omega)) hs7 (NdAt.low hnd6 (Nat.le_refl _) hx7 (fun b _ (hb:b=rb)=>by omega)) (e6.trans hx7) (by unfold atomP;simp[hp5])
 · have c1:¬c=40:=fun e=>c1 ((u8_is rfl).2 e)
   refine xrd Tryz.func124 2 [0,2,3,4,8,13,19] rfl ?_;refine G.ite rfl rfl (fun c2=>?_) (fun c2=>?_)
   · have c2:c=91:=(u8_is rfl).1 c2;refine G.reg Tryz.func124 rfl ?_;refine xqm 1 rfl ?_;refine xo rfl (OpX.call (vs:=[_]) Tryz.func140 rfl H.nm140 rfl (CallsH.toXP (bracket_calls hs4 (by omega)) ((fun _ _ ⟨hc,hp,hx⟩=>PR.no hc (by unfold atomP;simp[c2,hp]) (e4.trans hx))))) ?_;rintro _ h5 ⟨x,r5,hp5,⟨w,rfl,hnd5⟩,hs5,hx5⟩;have hk5:=hk4.ext hx5 (by show ¬_=_;omega);have hkr5:=hkr4.ext hx5 (by show ¬_=_;omega);refine RW.op0 rfl rfl rfl (OpX.storeBlk H.sz81 rfl rfl hk5 (by first|rfl|(simp;done)|(simp;omega)) (by first|decide|exact of_decide_eq_true rfl|(simp;done)|(simp;omega)) (NdAt.one hnd5)) ?_;rintro _ h6 ⟨rfl,hk6,hx6,hz6⟩;refine xd [0,2,3,4,8,13,19] rfl ?_;refine G.blkEnd ?_;have hk6:Blk h6 h1.size 81 (ndC x.kind x.set w):=hk6;exact fin x w r5 _ _ ⟨rfl,rfl,rfl,trivial⟩ hk6 (hkr5.ext hx6 (by show ¬_=_;omega)) (Blk.ext hs5 hx6 (by show ¬_=_;omega)) (NdAt.low hnd5 (by omega) hx6 (fun b _ (hb:b=h1.size)=>by omega)) (ExtM.only (e4.trans hx5) hx6 (by omega)) (by unfold atomP;simp[c2,hp5])
   · have c2:¬c=91:=fun e=>c2 ((u8_is rfl).2 e)
     refine xrd Tryz.func124 2 [0,2,3,4,8,13,19,23] rfl ?_;refine G.ite rfl rfl (fun c3=>?_) (fun c3=>?_)
     · have c3:c=46:=(u8_is rfl).1 c3;refine xr Tryz.func124 rfl ?_;refine xp rfl (OpP.fieldAddr (off:=1) Tryz.underlying81 rfl rfl H.sz78 rfl) ?_;refine xo rfl (OpX.call (vs:=[_,_,_]) Tryz.func141 rfl H.nm141 rfl (CallsH.toX (span_calls hk4 0 9))) ?_;rintro _ h5 ⟨hk5,hx5⟩;refine xd [0,2,3,4,8,13,19,23] rfl ?_;refine G.reg Tryz.func124 rfl ?_;refine xp rfl (OpP.fieldAddr (off:=1) Tryz.underlying81 rfl rfl H.sz78 rfl) ?_;refine xo rfl (OpX.call (vs:=[_,_,_]) Tryz.func141 rfl H.nm141 rfl (CallsH.toX (span_calls hk5 11 255))) ?_;rintro _ h6 ⟨hk6,hx6⟩;refine xd [0,2,3,4,8,13,19,23] rfl ?_;refine G.blkEnd ?_;have hx56:=hx5.trans hx6;exact fin dotNd (.slice none 0 0) r _ _ ⟨rfl,rfl,rfl,trivial⟩ hk6 (hkr4.ext hx56 (by show ¬_=_;omega)) (Blk.ext hs4 hx56 (by show ¬_=_;omega)) (NdAt.leaf _ _ _ _) (ExtM.only e4 hx56 (by omega)) (by unfold atomP;simp[c3])
     · have c3:¬c=46:=fun e=>c3 ((u8_is rfl).2 e)
       refine xrd Tryz.func124 2 [0,2,3,4,8,13,19,23,29] rfl ?_;refine G.ite rfl rfl (fun c4=>?_) (fun c4=>?_)
       · have c4:c=92:=(u8_is rfl).1 c4;refine xra Tryz.func124 1 rfl ?_;refine xo rfl (OpX.call (vs:=[_]) Tryz.func142 rfl H.nm142 rfl (CallsH.toXP (escaped_calls hs4 (by omega)) ((fun _ _ ⟨hc,hp,hx⟩=>PR.no hc (by unfold atomP;simp[c4,hp]) (e4.trans hx))))) ?_;rintro _ h5 ⟨b,r5,hp5,rfl,hs5,hx5⟩;have hk5:=hk4.ext hx5 (by show ¬_=_;omega);have hkr5:=hkr4.ext hx5 (by show ¬_=_;omega);refine xqd 1 [0,2,3,4,8,13,19,23,29] rfl ?_;refine G.reg Tryz.func124 rfl ?_;refine xp rfl (OpP.fieldAddr (off:=1) Tryz.underlying81 rfl rfl H.sz78 rfl) ?_;refine xqm 2 rfl ?_;refine xo rfl (OpX.call (vs:=[_,_,_]) Tryz.func141 rfl H.nm141 rfl (CallsH.toX (span_calls hk5 b b))) ?_;rintro _ h6 ⟨hk6,hx6⟩;refine xd [0,2,3,4,8,13,19,23,29] rfl ?_;refine G.blkEnd ?_;exact fin (byteNd b) (.slice none 0 0) r5 _ _ ⟨rfl,rfl,rfl,trivial⟩ hk6 (hkr5.ext hx6 (by show ¬_=_;omega)) (Blk.ext hs5 hx6 (by show ¬_=_;omega)) (NdAt.leaf _ _ _ _) (ExtM.only (e4.trans hx5) hx6 (by omega)) (by unfold atomP;simp[c4,hp5])
       · have c4:¬c=92:=fun e=>c4 ((u8_is rfl).2 e)
         refine G.seq rfl ?_;refine xrd Tryz.func124 2 [0,2,3,4,8,13,19,23,29,37] rfl ?_;refine G.ite rfl rfl (fun d41=>?_) (fun d41=>?_)
         · have d41:c=41:=(u8_is rfl).1 d41;refine G.skip rfl ?_;refine G.cond rfl rfl (fun _=>?_) (fun hc=>absurd hc (by rw[d41];decide));refine G.reg Tryz.func124 rfl ?_;refine xp rfl (OpP.build (H.bd122_ ) rfl) ?_;refine xp rfl (OpP.makeInterface H.cn122 rfl) ?_;refine RW.op0 rfl rfl rfl (OpX.panic (Φ:=fun _ _=>False) rfl (PR.no rfl (by unfold atomP;simp[d41]) e4)) ?_;rintro _ _ hpn;exact hpn.elim
         · have d41:¬c=41:=fun e=>d41 ((u8_is rfl).2 e)
           refine xrd Tryz.func124 2 [0,2,3,4,8,13,19,23,29,37] rfl ?_;refine G.ite rfl rfl (fun d93=>?_) (fun d93=>?_)
           · have d93:c=93:=(u8_is rfl).1 d93;refine G.skip rfl ?_;refine G.cond rfl rfl (fun _=>?_) (fun hc=>absurd hc (by rw[d93];decide));refine G.reg Tryz.func124 rfl ?_;refine xp rfl (OpP.build (H.bd122_ ) rfl) ?_;refine xp rfl (OpP.makeInterface H.cn122 rfl) ?_;refine RW.op0 rfl rfl rfl (OpX.panic (Φ:=fun _ _=>False) rfl (PR.no rfl (by unfold atomP;simp[d93]) e4)) ?_;rintro _ _ hpn;exact hpn.elim
           · have d93:¬c=93:=fun e=>d93 ((u8_is rfl).2 e)
             refine xrd Tryz.func124 2 [0,2,3,4,8,13,19,23,29,37] rfl ?_;refine G.ite rfl rfl (fun d124=>?_) (fun d124=>?_)
             · have d124:c=124:=(u8_is rfl).1 d124;refine G.skip rfl ?_;refine G.cond rfl rfl (fun _=>?_) (fun hc=>absurd hc (by rw[d124];decide));refine G.reg Tryz.func124 rfl ?_;refine xp rfl (OpP.build (H.bd122_ ) rfl) ?_;refine xp rfl (OpP.makeInterface H.cn122 rfl) ?_;refine RW.op0 rfl rfl rfl (OpX.panic (Φ:=fun _ _=>False) rfl (PR.no rfl (by unfold atomP;simp[d124]) e4)) ?_;rintro _ _ hpn;exact hpn.elim
             · have d124:¬c=124:=fun e=>d124 ((u8_is rfl).2 e)
               refine xrd Tryz.func124 2 [0,2,3,4,8,13,19,23,29,37] rfl ?_;refine G.ite rfl rfl (fun d42=>?_) (fun d42=>?_)
               · have d42:c=42:=(u8_is rfl).1 d42;refine G.skip rfl ?_;refine G.cond rfl rfl (fun _=>?_) (fun hc=>absurd hc (by rw[d42];decide));refine G.reg Tryz.func124 rfl ?_;refine xp rfl (OpP.build (H.bd122_ ) rfl) ?_;refine xp rfl (OpP.makeInterface H.cn122 rfl) ?_;refine RW.op0 rfl rfl rfl (OpX.panic (Φ:=fun _ _=>False) rfl (PR.no rfl (by unfold atomP;simp[d42]) e4)) ?_;rintro _ _ hpn;exact hpn.elim
               · have d42:¬c=42:=fun e=>d42 ((u8_is rfl).2 e)
                 refine xrd Tryz.func124 2 [0,2,3,4,8,13,19,23,29,37] rfl ?_;refine G.ite rfl rfl (fun d43=>?_) (fun d43=>?_)
                 · have d43:c=43:=(u8_is rfl).1 d43;refine G.skip rfl ?_;refine G.cond rfl rfl (fun _=>?_) (fun hc=>absurd hc (by rw[d43];decide));refine G.reg Tryz.func124 rfl ?_;refine xp rfl (OpP.build (H.bd122_ ) rfl) ?_;refine xp rfl (OpP.makeInterface H.cn122 rfl) ?_;refine RW.op0 rfl rfl rfl (OpX.panic (Φ:=fun _ _=>False) rfl (PR.no rfl (by unfold atomP;simp[d43]) e4)) ?_;rintro _ _ hpn;exact hpn.elim
                 · have d43:¬c=43:=fun e=>d43 ((u8_is rfl).2 e)
                   refine G.reg Tryz.func124 rfl ?_;refine xqd 2 [0,2,3,4,8,13,19,23,29,37] rfl ?_;refine G.ite rfl rfl (fun d63=>?_) (fun d63=>?_)
                   · have d63:c=63:=(u8_is rfl).1 d63;refine G.reg Tryz.func124 rfl ?_;refine xp rfl (OpP.build (H.bd122_ ) rfl) ?_;refine xp rfl (OpP.makeInterface H.cn122 rfl) ?_;refine RW.op0 rfl rfl rfl (OpX.panic (Φ:=fun _ _=>False) rfl (PR.no rfl (by unfold atomP;simp[d63]) e4)) ?_;rintro _ _ hpn;exact hpn.elim
                   · have d63:¬c=63:=fun e=>d63 ((u8_is rfl).2 e)
                     refine G.reg Tryz.func124 rfl ?_;refine xp rfl (OpP.fieldAddr (off:=1) Tryz.underlying81 rfl rfl H.sz78 rfl) ?_;refine xqm 2 rfl ?_;refine xo rfl (OpX.call (vs:=[_,_,_]) Tryz.func141 rfl H.nm141 rfl (CallsH.toX (span_calls hk4 c c))) ?_;rintro _ h6 ⟨hk6,hx6⟩;refine xd [0,2,3,4,8,13,19,23,29,37] rfl ?_;refine G.blkEnd ?_;exact fin (byteNd c) (.slice none 0 0) r _ _ ⟨rfl,rfl,rfl,trivial⟩ hk6 (hkr4.ext hx6 (by show ¬_=_;omega)) (Blk.ext hs4 hx6 (by show ¬_=_;omega)) (NdAt.leaf _ _ _ _) (ExtM.only e4 hx6 (by omega)) (by unfold atomP;simp[c1,c2,c3,c4,d41,d93,d124,d42,d43,d63])
theorem sign_op {ρ:Env}{dst:Option Nat}{ty:TypeId}{pos:String}{after:Array Edge}{guard:Option (Nat×Bool)}{x y:Operand}{l:List (Int×Int)}
 (hx:opd ρ x=some (.map (some m))) (hy:opd ρ y=some (.int .u8 (c.toNat:Nat))) (hm:MapH (Value.int .u8) (Value.int .i64) h m l) (hv:∀c:UInt8,((asc (c.toNat:Int) l).map (Value.int .i64)).getD (Value.int .i64 0)=Value.int .i64 (signOf c:Nat)) :
 OpP Tryz.prog ⟨dst,.lookup 206 x y false,ty,pos,after,guard⟩ ρ h (.int .i64 (signOf c:Nat)):=by
 have:=OpP.lookup (P:=Tryz.prog) (ρ:=ρ) (h:=h) (dst:=dst) (ty:=ty) (pos:=pos) (after:=after) (guard:=guard) (KeyE.int .u8) Tryz.underlying206 Tryz.underlying5 (z:=.int .i64 0) (et:=3) (by kernel_rfl) hx hy rfl hm
 rwa [hv c] at this
theorem signsP_step (h:0<signOf c):signsP x (c::r)=signsP (.mk (signOf c) 0 [x]) r:=by
 rw[signsP,if_neg (by omega)]
theorem signsP_stop {m:By}(h:signOf (m.head?.getD 0)=0):signsP x m=(x,m):=by
 cases m with
 |nil=>rfl
 |cons c r=>rw[signsP,if_pos (by simpa using h)]
theorem piece_calls (ih:RowsOk d lim) (hg:Sg h lim) (hrb:lim≤rb) (hs:St h rb l) (hd:l.length≤d) (hl:l.length≤1000000):CallsH Tryz.prog 109 #[rdr rb] h (PR rb h (pieceP (rowsP d) l) (PhiN h.size)):=by
 have hlt:=hs.lt;refine CallsH.of Tryz.func109 rfl rfl ?_;refine xr Tryz.func109 rfl ?_;refine xo rfl (OpX.allocN H.zr81) ?_;rintro _ h1 ⟨rfl,hkr,he1,hz1⟩;refine xd [0,2] rfl ?_;refine xra Tryz.func109 1 rfl ?_;refine xo rfl (OpX.call (vs:=[_]) Tryz.func124 rfl H.nm124 rfl (CallsH.toXP (atom_calls ih (hg.ext he1 (fun _ k=>k.elim)) hrb (Blk.ext0 hs he1) hd hl) ((fun _ _ ⟨hc,hp,hx⟩=>PR.no hc (by unfold pieceP;rw[hp];rfl) ((Ext0.of he1).trans hx))))) ?_;rintro _ h2 ⟨x0,m0,hp0,⟨w0,rfl,hnd2⟩,hs2,hx2⟩;refine xo rfl (OpX.allocN H.zr81) ?_;rintro _ h3 ⟨rfl,hk3,he3,hz3⟩;refine RW.op0 rfl rfl rfl (OpX.storeBlk H.sz81 rfl rfl hk3 (by first|rfl|(simp;done)|(simp;omega)) (by first|decide|exact of_decide_eq_true rfl|(simp;done)|(simp;omega)) (NdAt.one hnd2)) ?_;rintro _ h4 ⟨rfl,hk4,hx4,hz4⟩;have hz2:=hx2.size;have hkr:Blk h1 h.size 81 (ndC 0 0 (.slice none 0 0)):=hkr;have hk4:Blk h4 h2.size 81 (ndC x0.kind x0.set w0):=hk4;have e2:Ext (only rb) h h2:=(Ext0.of he1).trans hx2;have hkr2:=hkr.ext hx2 (by show ¬_=_;omega);have e24:Ext0 h2 h4:=Ext0.only he3 hx4 (Nat.le_refl _);have hnd4:NdAt h4 (fun b=>b<h.size+1∨b=h2.size) (ndC x0.kind x0.set w0) x0:=hnd2.mv (Mv.ofExt e24 fun b hb hn=>⟨fun k=>k,fun k=>by have:¬b<h1.size:=hn;omega⟩);have hm0:=atomP_len (fun h=>rowsP_len d h) hp0;have hpc:pieceP (rowsP d) l=some (signsP x0 m0):=by unfold pieceP;rw[hp0];rfl
 generalize htg:signsP x0 m0=tgt at hpc;generalize hnb:h2.size=nb at hk4 hnd4 hs2;have hnb1:h.size+1≤nb:=by omega
 refine xd [0,2,3] rfl ?_;refine G.seq rfl ?_;refine G.block rfl rfl ?_;refine G.loop (σ:=Nd×Value×By) (fun q=>[(0,rdr rb),(2,.pointer (some ⟨h.size,0,none⟩)),(3,.pointer (some ⟨nb,0,none⟩))]) (fun q h'=>St h' rb q.2.2∧Blk h' nb 81 (ndC q.1.kind q.1.set q.2.1)∧Blk h' h.size 81 (ndC 0 0 (.slice none 0 0))∧Ext (only rb) h h'∧NdAt h' (fun b=>b<h.size+1∨b=nb) (ndC q.1.kind q.1.set q.2.1) q.1∧q.2.2.length≤1000000∧signsP q.1 q.2.2=tgt) (fun q=>q.2.2.length) ((x0,w0,m0)) rfl ⟨rfl,rfl,rfl,trivial⟩ ⟨Blk.ext0 hs2 e24,hk4,hkr2.ext0 e24,ExtM.ext0 e2 e24,hnd4,by show m0.length≤_;omega,htg⟩ ?_;rintro⟨x,w,m⟩ h5 ⟨hs5,hk5,hkr5,e5,hnd5,hm,hsg⟩ ih
 try dsimp only
 dsimp only at hs5 hk5 hnd5 hm hsg;have hg5:Sg h5 lim:=hg.ext e5 (fun b (hb:b=rb)=>by omega);obtain⟨mp,hm1,hm2,hcell,lm,hmap,hval⟩:=hg5;refine G.seq rfl ?_;refine G.seq rfl ?_;refine G.drawQ Tryz.func109 H.mixed rfl (by kernel_rfl) ?_;refine RQ.pureS rfl rfl rfl rfl (OpP.load H.ag206 rfl hcell) ?_;refine RQ.pureS rfl rfl rfl rfl (OpP.move rfl) ?_;refine RQ.callS (vs:=[_]) rfl rfl rfl rfl rfl Tryz.func125 rfl H.nm125 rfl (next_calls hs5) ?_;refine RQ.pureS rfl rfl rfl rfl (sign_op rfl rfl hmap hval) ?_;refine RQ.pureS rfl rfl rfl rfl (OpP.gtr rfl rfl) ?_;refine RQ.done rfl ?_;refine xu [0,2,3,10] rfl ?_;refine G.ite rfl rfl (fun hgo=>?_) (fun hgo=>?_)
 · have hgo:0<signOf (m.head?.getD 0):=by omega
   obtain⟨c,r,rfl⟩:=List.exists_cons_of_ne_nil (fun(e:m=[])=>by rw[e] at hgo;revert hgo;decide);have hgo:0<signOf c:=hgo;rw[signsP_step hgo] at hsg;simp only[List.length_cons] at hm;have hlt5:=hk5.lt;have hltr:=hkr5.lt
   have hn1:¬((⟨4,0,none⟩:Addr).block=rb∨Array.size h5≤(⟨4,0,none⟩:Addr).block):=by
    show ¬(4=rb∨Array.size h5≤4);omega
   have hn2:¬(nb=rb∨Array.size h5≤nb):=by omega
   have hn3:¬(mp=rb∨Array.size h5≤mp):=by omega
   have hO5:¬(h5.size<h.size+1∨h5.size=nb):=by have:=hkr5.lt;omega
   refine G.skip rfl ?_;refine G.block rfl rfl ?_;refine G.draw (fun b=>b=rb∨Array.size h5≤b) (fun i=>Nat.blt i 7) (sz:=8) (listed:= #[false,false,false,false,false,false,false,false]) Tryz.func109 H.mixed rfl rfl rfl ?_;refine xtp 0 1 (by kernel_rfl) rfl (fun h' e=>OpP.load H.ag206 rfl (e.cell hn1 hcell)) ?_;refine xtq 1 3 (by kernel_rfl) rfl ?_;refine xtp 4 19 (by kernel_rfl) rfl (fun h' e=>OpP.loadRowN H.ag81 H.sz81 rfl (e.rowAt hn2 hk5.row) (by first|rfl|(simp;done)|(simp;omega))) ?_;refine RD.twoS 2 5 (li:= #[true,true,true,false,true,false,false,false]) (lj:= #[true,true,false,false,true,true,false,false]) rfl rfl (by kernel_rfl) rfl rfl rfl rfl rfl rfl (OpX.call (vs:=[_]) Tryz.func126 rfl H.nm126 rfl (CallsH.toXP (take_calls hs5 (by simp only[List.length_cons];omega)) ((fun _ _ ⟨_,hp,_⟩=>by cases hp)))) (OpX.buildRec (cs:=[_,_,_,_,_,_]) Tryz.underlying79 H.el81 rfl rfl (by decide)) (by kernel_rfl) (by kernel_rfl) ?_ ?_
   · rintro _ h6 ⟨_,_,hp6,rfl,hs6,hx6⟩;refine⟨fun _=>hx6.mono (fun _ _ k=>.inl k),?_⟩;cases hp6;have hmap6:=hmap.ext hx6 (by show ¬_=_;omega);have hz6:=hx6.size;have hk6:=hk5.ext hx6 (by show ¬_=_;omega);have hnd6:NdAt h6 (fun b=>b<h.size+1∨b=nb) (ndC x.kind x.set w) x:=hnd5.mv (Mv.ofExt hx6 fun b hb hn=>⟨fun(k:b=rb)=>hn (.inl (by omega)),hn⟩);refine xtp 3 31 (by kernel_rfl) rfl (fun h' e=>sign_op rfl rfl (hmap6.ext e hn3) hval) ?_;refine xto 5 63 (by kernel_rfl) rfl (OpX.buildRec (cs:=[_,_,_,_,_,_]) Tryz.underlying79 H.el81 rfl rfl (by decide)) ?_;rintro _ _ ⟨rfl,rfl⟩;refine⟨fun _=>by first|exact Ext.push _ _ _|assumption,?_⟩;refine xtp 6 127 (by kernel_rfl) rfl (fun h' e=>OpP.build (H.bd81_0_2 _ _ _ _) rfl) ?_;have hsl:=SlR.made1 (e:=eNd) (t:=81) hnd6 (show ¬(h6.size<h.size+1∨h6.size=nb) by omega);have ep:=Ext.push (fun _=>False) h6 (.cells (ndC x.kind x.set w).toArray 81);have hk7:=hk6.ext0 ep;have hs7:St _ rb r:=Blk.ext0 hs6 ep;have hkr7:=(hkr5.ext hx6 (by show ¬_=_;omega)).ext0 ep;have e7:=ExtM.ext0 (e5.trans hx6) ep;refine xt0 7 255 (by kernel_rfl) rfl (OpX.storeBlk H.sz81 rfl rfl hk7 (by first|rfl|(simp;done)|(simp;omega)) (by first|decide|exact of_decide_eq_true rfl|(simp;done)|(simp;omega)) (NdAt.one (NdAt.of (signOf c) 0 hsl))) ?_;rintro _ h8 ⟨rfl,hk8,hx8,hz8⟩;refine⟨fun hk=>(nomatch hk),?_⟩;refine RD.done (by kernel_rfl) ?_;refine xu [0,2,3,10] rfl ?_;refine G.blkEnd ?_;have hk8:Blk h8 nb 81 (ndC (signOf c) 0 (.slice (some ⟨h6.size,0,none⟩) 1 1)):=hk8;exact ih (.mk (signOf c) 0 [x],.slice (some ⟨h6.size,0,none⟩) 1 1,r) _ _ ⟨rfl,rfl,rfl,trivial⟩ ⟨Blk.ext hs7 hx8 (by show ¬_=_;omega),hk8,hkr7.ext hx8 (by show ¬_=_;omega),ExtM.only e7 hx8 (by omega),(NdAt.of (signOf c) 0 hsl).mv (Mv.ofExt hx8 fun b hb hn=>⟨fun(k:b=nb)=>hn (.inr k),hn⟩),by show r.length≤_;omega,hsg⟩ (by show r.length<(c::r).length;simp)
   · rintro _ _ ⟨rfl,rfl⟩;refine⟨fun _=>by first|exact Ext.push _ _ _|assumption,?_⟩;have hsl:=SlR.made1 (e:=eNd) (t:=81) hnd5 hO5;have ep:=Ext.push (fun _=>False) h5 (.cells (ndC x.kind x.set w).toArray 81);refine xto 2 55 (by kernel_rfl) rfl (OpX.call (vs:=[_]) Tryz.func126 rfl H.nm126 rfl (CallsH.toXP (take_calls (Blk.ext0 hs5 ep) (by simp only[List.length_cons];omega)) ((fun _ _ ⟨_,hp,_⟩=>by cases hp)))) ?_;rintro _ h6 ⟨_,_,hp6,rfl,hs6,hx6⟩;refine⟨fun _=>hx6.mono (fun _ _ k=>.inl k),?_⟩;cases hp6;have hmap6:=(hmap.ext ep (fun k=>k)).ext hx6 (by show ¬_=_;omega);have hz6:=hx6.size;have hzp:(h5.push (.cells (ndC x.kind x.set w).toArray 81)).size=h5.size+1:=by simp
     have hk6:=(hk5.ext0 ep).ext hx6 (by show ¬_=_;omega);have hkr6:=(hkr5.ext0 ep).ext hx6 (by show ¬_=_;omega);have hn4:¬(mp=rb∨Array.size h5≤mp):=hn3;refine xtp 3 63 (by kernel_rfl) rfl (fun h' e=>sign_op rfl rfl (hmap6.ext e hn4) hval) ?_;refine xtp 6 127 (by kernel_rfl) rfl (fun h' e=>OpP.build (H.bd81_0_2 _ _ _ _) rfl) ?_;have hsl6:SlR eNd h6 (fun b=>b<h.size+1∨b=nb) (.slice (some ⟨h5.size,0,none⟩) 1 1) [x]:=hsl.mv (Mv.ofExt hx6 fun b hb hn=>⟨fun(k:b=rb)=>hn (.inl (by omega)),hn⟩);refine xt0 7 255 (by kernel_rfl) rfl (OpX.storeBlk H.sz81 rfl rfl hk6 (by first|rfl|(simp;done)|(simp;omega)) (by first|decide|exact of_decide_eq_true rfl|(simp;done)|(simp;omega)) (NdAt.one (NdAt.of (signOf c) 0 hsl6))) ?_;rintro _ h8 ⟨rfl,hk8,hx8,hz8⟩;refine⟨fun hk=>(nomatch hk),?_⟩;refine RD.done (by kernel_rfl) ?_;refine xu [0,2,3,10] rfl ?_;refine G.blkEnd ?_;have hk8:Blk h8 nb 81 (ndC (signOf c) 0 (.slice (some ⟨h5.size,0,none⟩) 1 1)):=hk8;exact ih (.mk (signOf c) 0 [x],.slice (some ⟨h5.size,0,none⟩) 1 1,r) _ _ ⟨rfl,rfl,rfl,trivial⟩ ⟨Blk.ext hs6 hx8 (by show ¬_=_;omega),hk8,hkr6.ext hx8 (by show ¬_=_;omega),ExtM.only ((ExtM.ext0 e5 ep).trans hx6) hx8 (by omega),(NdAt.of (signOf c) 0 hsl6).mv (Mv.ofExt hx8 fun b hb hn=>⟨fun(k:b=nb)=>hn (.inr k),hn⟩),by show r.length≤_;omega,hsg⟩ (by show r.length<(c::r).length;simp)
 · rw[signsP_stop (by omega)] at hsg;refine G.exit rfl rfl ?_;refine xr Tryz.func109 rfl ?_;refine xp rfl (OpP.loadRowN H.ag81 H.sz81 rfl hk5.row (by first|rfl|(simp;done)|(simp;omega))) ?_;refine RW.op0 rfl rfl rfl (OpX.storeBlk H.sz81 rfl rfl hkr5 (by first|rfl|(simp;done)|(simp;omega)) (by first|decide|exact of_decide_eq_true rfl|(simp;done)|(simp;omega)) (NdAt.one hnd5)) ?_;rintro _ h6 ⟨rfl,hk6,hx6,hz6⟩;refine xd [0,2,3,10] rfl ?_;have hk6:Blk h6 h.size 81 (ndC x.kind x.set w):=hk6;refine G.retC Tryz.func109 rfl (.cons (ResOk.rowN H.ag81 H.sz81 rfl (hk6.row) (by first|rfl|(simp;done)|(simp;omega))) (.nil)) ?_;exact⟨x,m,by rw[hpc,←hsg],⟨w,rfl,hnd5.mv (Mv.ofExt hx6 fun b hb hn=>⟨fun(k:b=h.size)=>hn (.inl (by omega)),fun(k:b<h.size)=>hn (.inl (by omega))⟩)⟩,Blk.ext hs5 hx6 (by show ¬_=_;omega),ExtM.only e5 hx6 (Nat.le_refl _)⟩
theorem row_calls (ih:RowsOk d lim) (hg:Sg h lim) (hrb:lim≤rb) (hs:St h rb l) (hd:l.length≤d) (hl:l.length≤1000000):CallsH Tryz.prog 85 #[rdr rb] h (PR rb h (rowT (rowsP d) l) (PhiN h.size)):=by
 have hlt:=hs.lt;have hrl:∀{s x r},rowsP d s=some (x,r)→r.length≤s.length:=fun h=>rowsP_len d h
 refine CallsH.of Tryz.func85 rfl rfl ?_;refine xr Tryz.func85 rfl ?_;refine xo rfl (OpX.allocN H.zr81) ?_;rintro _ h1 ⟨rfl,hkr,he1,hz1⟩;refine xd [0,2] rfl ?_;refine xrd Tryz.func85 1 [0,2,3] rfl ?_;refine G.seq rfl ?_;refine G.block rfl rfl ?_;have hkr:Blk h1 h.size 81 (ndC 0 0 (.slice none 0 0)):=hkr;generalize htg:rowL (rowsP d) (l.length+1) l=tgt;have hrow:rowT (rowsP d) l=tgt.map fun p=>(joinNd 2 p.1,p.2):=by unfold rowT;rw[htg]
 have htg0:tgt.map (fun p=>(([]:List Nd)++p.1,p.2))=tgt:=by cases tgt<;>rfl
 refine G.loop (σ:=List Nd×Value×By) (fun q=>[(0,rdr rb),(2,.pointer (some ⟨h.size,0,none⟩)),(3,q.2.1)]) (fun q h'=>St h' rb q.2.2∧OwX eNd (blw h1.size) h' h1.size 81 q.2.1 q.1∧Blk h' h.size 81 (ndC 0 0 (.slice none 0 0))∧Ext (only rb) h h'∧q.2.2.length+q.1.length≤l.length∧(rowL (rowsP d) (q.2.2.length+1) q.2.2).map (fun p=>(q.1++p.1,p.2))=tgt) (fun q=>q.2.2.length) (([],.slice none 0 0,l)) rfl ⟨rfl,rfl,rfl,trivial⟩ ⟨Blk.ext0 hs he1,OwX.nil _ _ _ _ _,hkr,Ext0.of he1,by show l.length+0≤_;omega,by rw[htg];exact htg0⟩ ?_;rintro⟨acc,v,m⟩ h5 ⟨hs5,hv5,hkr5,e5,hm,hcon⟩ ih'
 try dsimp only
 dsimp only at hs5 hv5 hm hcon;refine G.seq rfl ?_;refine G.seq rfl ?_;refine G.regTo1 [(24,.bool (!rowEnd m))] [(0,_),(2,_),(3,_)] ⟨rfl,rfl,rfl,trivial⟩ Tryz.func85 rfl ?_ ?_
 · refine xqp 2 rfl rfl (OpP.fieldAddr (off:=0) Tryz.underlying125 rfl rfl H.sz9 rfl) ?_;refine xp rfl (OpP.load H.ag9 rfl hs5.cell) ?_;refine xp rfl (OpP.neqStr rfl rfl) ?_;refine xqm 1 rfl ?_;refine RW.split (d:=9) rfl (fun he=>?_) (fun he=>?_)
   · have hne:¬bs m=⟨#[]⟩:=of_decide_eq_true he;obtain⟨c,r,rfl⟩:=List.exists_cons_of_ne_nil (fun(e:m=[])=>hne (by rw[e];rfl));refine xqp 2 rfl rfl (OpP.fieldAddr (off:=0) Tryz.underlying125 rfl rfl H.sz9 rfl) ?_;refine xp rfl (OpP.load H.ag9 rfl hs5.cell) ?_;refine xp rfl (OpP.indexStr Tryz.underlying9 rfl rfl 0 rfl (bs_at rfl)) ?_;refine xqm 3 rfl ?_;refine RW.split (d:=17) rfl (fun h124=>?_) (fun h124=>?_)
     · have h124:¬c=124:=fun e=>(of_decide_eq_true h124) ((u8_is rfl).2 e)
       refine xqp 2 rfl rfl (OpP.fieldAddr (off:=0) Tryz.underlying125 rfl rfl H.sz9 rfl) ?_;refine xp rfl (OpP.load H.ag9 rfl hs5.cell) ?_;refine xp rfl (OpP.indexStr Tryz.underlying9 rfl rfl 0 rfl (bs_at rfl)) ?_;refine xqm 2 rfl ?_;refine RW.done rfl ?_;exact⟨rfl,at_bool rfl (by simp only[rowEnd];rw[show (c ==124)=false by simpa using h124,Bool.false_or,show (c ==41)=decide (c=41) by rw[Bool.eq_iff_iff];simp,←decide_not];exact decide_eq_decide.2 (not_congr (u8_is rfl))),rfl,rfl,rfl,trivial⟩
     · have h124:c=124:=(u8_is rfl).1 (Classical.not_not.1 (of_decide_eq_false h124));refine xqm 7 rfl ?_;refine RW.done rfl ?_;exact⟨rfl,at_bool rfl (by simp[rowEnd,h124]),rfl,rfl,rfl,trivial⟩
   · have hne:bs m=⟨#[]⟩:=Classical.not_not.1 (of_decide_eq_false he);obtain rfl:m=[]:=bs_inj hne;refine xqm 15 rfl ?_;refine RW.done rfl ?_;exact⟨rfl,at_bool rfl (by rfl),rfl,rfl,rfl,trivial⟩
 · obtain⟨css,hc1,hc2,hc3⟩:=id hv5;have hlt5:=hkr5.lt;have hz5:=e5.size;refine G.cond rfl rfl (fun hgo=>?_) (fun hgo=>?_)
   · have hend:rowEnd m=false:=by simpa using hgo
     have hcon':tgt=(match pieceP (rowsP d) m with|none=>none|some (x,r)=>((rowL (rowsP d) (r.length+1) r).map fun p=>(x::p.1,p.2)).map (fun p=>(acc++p.1,p.2))):=by
      rw[←hcon,rowL,if_neg (by rw[hend];decide)];cases hp:pieceP (rowsP d) m with
      |none=>rfl
      |some q =>
       obtain⟨x,r⟩:=q;have:=pieceP_len hrl hp;simp only;rw[rowL_fuel hrl m.length (r.length+1) r (by omega) (by omega)]
     refine G.skip rfl ?_;refine G.block rfl rfl ?_;refine G.reg Tryz.func85 rfl ?_;refine xqm 2 rfl ?_;refine xo rfl (OpX.call (vs:=[_]) Tryz.func109 rfl H.nm109 rfl (CallsH.toXP (piece_calls ih (hg.ext e5 (fun b (hb:b=rb)=>by omega)) hrb hs5 (by omega) (by omega)) ((fun _ _ ⟨hc,hp,hx⟩=>PR.no hc (by rw[hrow,hcon',hp];rfl) (e5.trans hx))))) ?_;rintro _ h6 ⟨x,r,hp,⟨w,rfl,hnd6⟩,hs6,hx6⟩;have hr6:=pieceP_len hrl hp;have hz6:=hx6.size;have hown:∀b,v.ownBlock=some b→h1.size≤b∧b<h5.size:=fun b hb=>hc2.lt hb
     have hc26:=hc2.ext hx6 (fun b hb (k:b=rb)=>by have:=hown b hb;omega);have hc36:∀(i:Nat) (cs:List Value) (x:Nd),css[i]? =some cs→acc[i]? =some x→eNd.R h6 (fun b=>but v.ownBlock b∨b<h1.size) cs x:=fun i cs x h1' h2'=>eNd.mv (hc3 i cs x h1' h2') (Mv.ofExt hx6 fun b hb hn=>⟨fun(k:b=rb)=>hn (.inr (by show b<_;omega)),hn⟩)
     have hnd6':eNd.R h6 (fun b=>but v.ownBlock b∨b<h1.size) (ndC x.kind x.set w) x:=NdAt.mv hnd6 ⟨Nat.le_refl _,fun b hb hn=>⟨rfl,fun k=>by
      have hn:¬b<h5.size:=hn
      rcases k with k|k
      · have:=hown b k.symm;omega
      · omega⟩⟩
     refine xo rfl (OpX.buildRec (cs:=[_,_,_,_,_,_]) Tryz.underlying79 H.el81 rfl rfl (by decide)) ?_;rintro _ _ ⟨rfl,rfl⟩;refine xo rfl (OpX.appendNew Tryz.underlying79 H.el81 rfl rfl (hc26) rfl rfl (NdAt.one hnd6) (by omega) (by decide) (by omega)) ?_;rintro v7 h7 ⟨ho7,hx7,-,hv7⟩;refine xqd 1 [0,2,3,24] rfl ?_;refine G.blkEnd ?_;have hrb7:¬but v.ownBlock rb:=fun k=>by have:=hown rb k.symm;omega
     have hr7:¬but v.ownBlock h.size:=fun k=>by have:=hown _ k.symm;omega
     have e7:Ext (only rb) h h7:=⟨by have:=hx7.size;omega,fun b hb hn=>by rw[hx7.block b (by omega) (fun k=>by have:=hown b k.symm;omega)];exact(e5.trans hx6).block b hb hn⟩
     rw[hp] at hcon';exact ih' (acc++[x],v7,r) _ _ ⟨rfl,rfl,rfl,trivial⟩ ⟨Blk.ext hs6 hx7 hrb7,OwX.pushed hc1 hc36 ho7 hx7 hv7 hnd6',(hkr5.ext hx6 (by show ¬_=_;omega)).ext hx7 hr7,e7,by show r.length+(acc++[x]).length≤_;rw[List.length_append,List.length_singleton];omega,by rw[hcon'];simp only[Option.map_map];congr 1;funext p;simp⟩ (by show r.length<m.length;omega)
   · have hend:rowEnd m=true:=by simpa using hgo
     rw[rowL,if_pos hend] at hcon;have hsl:SlR eNd h5 (blw h1.size) v acc:=hv5.read (fun b hb (k:b<h1.size)=>by omega) (fun b _ k=>k);refine G.exit rfl rfl ?_;refine xra Tryz.func85 1 rfl ?_;refine xo rfl (OpX.call (vs:=[_,_]) Tryz.func87 rfl H.nm87 rfl (CallsH.toX (joined_calls 2 hsl))) ?_;rintro _ h6 ⟨⟨w,rfl,hnd6⟩,he6⟩;refine RW.op0 rfl rfl rfl (OpX.storeBlk H.sz81 rfl rfl (hkr5.ext0 he6) (by first|rfl|(simp;done)|(simp;omega)) (by first|decide|exact of_decide_eq_true rfl|(simp;done)|(simp;omega)) (NdAt.one hnd6)) ?_;rintro _ h7 ⟨rfl,hk7,hx7,hz7⟩;refine xd [0,2,3,24] rfl ?_;have hk7:Blk h7 h.size 81 (ndC (joinNd 2 acc).kind (joinNd 2 acc).set w):=hk7;have hz6:=he6.size;refine G.retC Tryz.func85 rfl (.cons (ResOk.rowN H.ag81 H.sz81 rfl (hk7.row) (by first|rfl|(simp;done)|(simp;omega))) (.nil)) ?_;exact⟨joinNd 2 acc,m,by rw[hrow,←hcon];simp,⟨w,rfl,NdAt.low hnd6 (by omega) hx7 (fun b _ (hb:b=h.size)=>by omega)⟩,Blk.ext (Blk.ext0 hs5 he6) hx7 (by show ¬_=_;omega),ExtM.only (ExtM.ext0 e5 he6) hx7 (Nat.le_refl _)⟩
theorem rows_step (ih:RowsOk d lim) (hg:Sg h lim) (hrb:lim≤rb) (hs:St h rb l) (hd:l.length≤d) (hl:l.length≤1000000):CallsH Tryz.prog 61 #[rdr rb] h (PR rb h (rowsP (d+1) l) (PhiN h.size)):=by
 have hlt:=hs.lt;have hrl:∀{s x r},rowsP d s=some (x,r)→r.length≤s.length:=fun h=>rowsP_len d h
 have hrows:rowsP (d+1) l=match rowT (rowsP d) l with|none=>none|some (x,r)=>contR (rowsP d) [x] r:=rowsG_cont hrl [] l
 refine CallsH.of Tryz.func61 rfl rfl ?_;refine xr Tryz.func61 rfl ?_;refine xo rfl (OpX.allocN H.zr81) ?_;rintro _ h1 ⟨rfl,hkr,he1,hz1⟩;refine xd [0,2] rfl ?_;refine xra Tryz.func61 1 rfl ?_;refine xo rfl (OpX.call (vs:=[_]) Tryz.func85 rfl H.nm85 rfl (CallsH.toXP (row_calls ih (hg.ext he1 (fun _ k=>k.elim)) hrb (Blk.ext0 hs he1) hd hl) ((fun _ _ ⟨hc,hp,hx⟩=>PR.no hc (by rw[hrows,hp]) ((Ext0.of he1).trans hx))))) ?_;rintro _ h2 ⟨x0,m0,hp0,⟨w0,rfl,hnd2⟩,hs2,hx2⟩;have hkr:Blk h1 h.size 81 (ndC 0 0 (.slice none 0 0)):=hkr;have hz2:=hx2.size;have hm0:=rowT_len hrl hp0;have ep:=Ext.push (fun _=>False) h2 (.cells (ndC x0.kind x0.set w0).toArray 81);have hv0:OwX eNd (blw h1.size) (h2.push (.cells (ndC x0.kind x0.set w0).toArray 81)) h1.size 81 (.slice (some ⟨h2.size,0,none⟩) 1 1) [x0]:=OwX.made1 (e:=eNd) hnd2 hz2;have hs3:St _ rb m0:=Blk.ext0 hs2 ep;have hkr3:=(hkr.ext hx2 (by show ¬_=_;omega)).ext0 ep;have e3:=ExtM.ext0 ((Ext0.of he1).trans hx2) ep;rw[hp0] at hrows;simp only at hrows;generalize htg:contR (rowsP d) [x0] m0=tgt at hrows;refine xo rfl (OpX.buildRec (cs:=[_,_,_,_,_,_]) Tryz.underlying79 H.el81 rfl rfl (by decide)) ?_;rintro _ _ ⟨rfl,rfl⟩;refine xqd 1 [0,2,3] rfl ?_;refine G.seq rfl ?_;refine G.block rfl rfl ?_;refine G.loop (σ:=List Nd×Value×By) (fun q=>[(0,rdr rb),(2,.pointer (some ⟨h.size,0,none⟩)),(3,q.2.1)]) (fun q h'=>St h' rb q.2.2∧OwX eNd (blw h1.size) h' h1.size 81 q.2.1 q.1∧Blk h' h.size 81 (ndC 0 0 (.slice none 0 0))∧Ext (only rb) h h'∧(q.2.2.length≤l.length∧q.2.2.length+q.1.length≤l.length+1)∧contR (rowsP d) q.1 q.2.2=tgt) (fun q=>q.2.2.length) (([x0],.slice (some ⟨h2.size,0,none⟩) 1 1,m0)) rfl ⟨rfl,rfl,rfl,trivial⟩ ⟨hs3,hv0,hkr3,e3,⟨by show m0.length≤_;omega,by show m0.length+1≤_;omega⟩,htg⟩ ?_;rintro⟨acc,v,m⟩ h5 ⟨hs5,hv5,hkr5,e5,⟨hml,hm⟩,hcon⟩ ih'
 try dsimp only
 dsimp only at hs5 hv5 hml hm hcon;refine G.seq rfl ?_;refine xra Tryz.func61 1 rfl ?_;refine xo rfl (OpX.call (vs:=[_,_]) Tryz.func86 rfl H.nm86 rfl (CallsH.toX (skip_calls 124 hs5 (by omega)))) ?_;rintro _ h6 ⟨hor,hx6⟩;refine xd [0,2,3,8] rfl ?_;have hlt5:=hkr5.lt;have hz5:=e5.size;have hz6:=hx6.size;have hkr6:=hkr5.ext hx6 (by show ¬_=_;omega);have e6:=e5.trans hx6;have hv6:OwX eNd (blw h1.size) h6 h1.size 81 v acc:=hv5.mv (hx6.mono fun b _ (k:b=rb)=>(by omega:b<h1.size)) (fun b hb (k:b<h1.size)=>by omega) (fun b _ k=>k);obtain⟨css,hc1,hc2,hc3⟩:=id hv6
 rcases hor with ⟨a1,rfl,hs6⟩|⟨a1,rfl,hs6⟩
 · obtain⟨c,t,rfl⟩:=List.exists_cons_of_ne_nil (fun(e:m=[])=>by rw[e] at a1;cases a1);have hs6:St h6 rb t:=hs6;simp only[List.length_cons] at hm hml
   have hcon':tgt=match rowT (rowsP d) t with|none=>none|some (x,r)=>contR (rowsP d) (acc++[x]) r:=by
    have hG:=rowsG_cont (rows:=rowsP d) hrl acc t;rw[←hcon];refine Eq.trans ?_ hG;unfold contR;rw[if_pos a1];rfl
   refine G.cond rfl rfl (fun _=>?_) (fun hc=>absurd hc (by decide));refine G.skip rfl ?_;refine G.block rfl rfl ?_;refine G.reg Tryz.func61 rfl ?_;refine xqm 2 rfl ?_;refine xo rfl (OpX.call (vs:=[_]) Tryz.func85 rfl H.nm85 rfl (CallsH.toXP (row_calls ih (hg.ext e6 (fun b (hb:b=rb)=>by omega)) hrb hs6 (by omega) (by omega)) ((fun _ _ ⟨hc,hp,hx⟩=>PR.no hc (by rw[hrows,hcon',hp]) (e6.trans hx))))) ?_;rintro _ h7 ⟨x,r,hp,⟨w,rfl,hnd7⟩,hs7,hx7⟩;have hr7:=rowT_len hrl hp;have hz7:=hx7.size;have hown:∀b,v.ownBlock=some b→h1.size≤b∧b<h6.size:=fun b hb=>hc2.lt hb
   have hc27:=hc2.ext hx7 (fun b hb (k:b=rb)=>by have:=hown b hb;omega);have hc37:∀(i:Nat) (cs:List Value) (x:Nd),css[i]? =some cs→acc[i]? =some x→eNd.R h7 (fun b=>but v.ownBlock b∨b<h1.size) cs x:=fun i cs x h1' h2'=>eNd.mv (hc3 i cs x h1' h2') (Mv.ofExt hx7 fun b hb hn=>⟨fun(k:b=rb)=>hn (.inr (by show b<_;omega)),hn⟩)
   have hnd7':eNd.R h7 (fun b=>but v.ownBlock b∨b<h1.size) (ndC x.kind x.set w) x:=NdAt.mv hnd7 ⟨Nat.le_refl _,fun b hb hn=>⟨rfl,fun k=>by
    have hn:¬b<h6.size:=hn
    rcases k with k|k
    · have:=hown b k.symm;omega
    · omega⟩⟩
   refine xo rfl (OpX.buildRec (cs:=[_,_,_,_,_,_]) Tryz.underlying79 H.el81 rfl rfl (by decide)) ?_;rintro _ _ ⟨rfl,rfl⟩;refine xo rfl (OpX.appendNew Tryz.underlying79 H.el81 rfl rfl (hc27) rfl rfl (NdAt.one hnd7) (by omega) (by decide) (by omega)) ?_;rintro v8 h8 ⟨ho8,hx8,-,hv8⟩;refine xqd 1 [0,2,3,8] rfl ?_;refine G.blkEnd ?_;have hrb8:¬but v.ownBlock rb:=fun k=>by have:=hown rb k.symm;omega
   have hr8:¬but v.ownBlock h.size:=fun k=>by have:=hown _ k.symm;omega
   have e8:Ext (only rb) h h8:=⟨by have:=hx8.size;omega,fun b hb hn=>by rw[hx8.block b (by omega) (fun k=>by have:=hown b k.symm;omega)];exact(e6.trans hx7).block b hb hn⟩
   rw[hp] at hcon';exact ih' (acc++[x],v8,r) _ _ ⟨rfl,rfl,rfl,trivial⟩ ⟨Blk.ext hs7 hx8 hrb8,OwX.pushed hc1 hc37 ho8 hx8 hv8 hnd7',(hkr6.ext hx7 (by show ¬_=_;omega)).ext hx8 hr8,e8,⟨by show r.length≤_;omega,by show r.length+(acc++[x]).length≤_;rw[List.length_append,List.length_singleton];omega⟩,hcon'.symm⟩ (by show r.length<(c::t).length;simp only[List.length_cons];omega)
 · refine G.cond rfl rfl (fun hc=>absurd hc (by decide)) (fun _=>?_);have hsl:SlR eNd h6 (blw h1.size) v acc:=hv6.read (fun b hb (k:b<h1.size)=>by omega) (fun b _ k=>k);have hfin:tgt=some (joinNd 3 acc,m):=by rw[←hcon];unfold contR;rw[if_neg a1]
   refine G.exit rfl rfl ?_;refine xra Tryz.func61 1 rfl ?_;refine xo rfl (OpX.call (vs:=[_,_]) Tryz.func87 rfl H.nm87 rfl (CallsH.toX (joined_calls 3 hsl))) ?_;rintro _ h7 ⟨⟨w,rfl,hnd7⟩,he7⟩;refine RW.op0 rfl rfl rfl (OpX.storeBlk H.sz81 rfl rfl (hkr6.ext0 he7) (by first|rfl|(simp;done)|(simp;omega)) (by first|decide|exact of_decide_eq_true rfl|(simp;done)|(simp;omega)) (NdAt.one hnd7)) ?_;rintro _ h8 ⟨rfl,hk8,hx8,hz8⟩;refine xd [0,2,3,8] rfl ?_;have hk8:Blk h8 h.size 81 (ndC (joinNd 3 acc).kind (joinNd 3 acc).set w):=hk8;have hz7:=he7.size;refine G.retC Tryz.func61 rfl (.cons (ResOk.rowN H.ag81 H.sz81 rfl (hk8.row) (by first|rfl|(simp;done)|(simp;omega))) (.nil)) ?_;exact⟨joinNd 3 acc,m,by rw[hrows,hfin],⟨w,rfl,NdAt.low hnd7 (by omega) hx8 (fun b _ (hb:b=h.size)=>by omega)⟩,Blk.ext (Blk.ext0 hs6 he7) hx8 (by show ¬_=_;omega),ExtM.only (ExtM.ext0 e6 he7) hx8 (Nat.le_refl _)⟩
theorem rows_ok (lim:Nat):∀d,RowsOk d lim
 | 0=>fun _ _ l _ _ _ h _=>absurd h (Nat.not_lt_zero _)
 |d+1=>fun _ _ _ hg hrb hs hd hl=>rows_step (rows_ok lim d) hg hrb hs (by omega) hl
end
end Go.Proofs.YtfegacfjgjaghaaGreatDoor
