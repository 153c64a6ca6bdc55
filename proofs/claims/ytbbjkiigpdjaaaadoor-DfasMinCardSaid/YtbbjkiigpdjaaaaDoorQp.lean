/- What the proof of the statement leans on (part 16). -/
import Derived.Test.YtbbjkiigpdjaaaaDoorRows
import Derived.Test.YtbbjkiigpdjaaaaDoorQo

namespace Go.Proofs.YtbbjkiigpdjaaaaDoor.H
open Go Go.Lw
theorem ED:aZ Tryd.prog 118=some false:=by kernel_rfl
theorem EC:aZ Tryd.prog 119=some false:=by kernel_rfl
theorem EB:aZ Tryd.prog 142=some false:=by kernel_rfl
theorem DC:aZ Tryd.prog 26=some false:=by kernel_rfl
theorem EA:aZ Tryd.prog 29=some false:=by kernel_rfl
theorem BQ:aZ Tryd.prog 3=some false:=by kernel_rfl
theorem FN:aZ Tryd.prog 38=some false:=by kernel_rfl
theorem FM:aZ Tryd.prog 39=some false:=by kernel_rfl
theorem Gq:aZ Tryd.prog 4=some false:=by kernel_rfl
theorem FL:aZ Tryd.prog 45=some false:=by kernel_rfl
theorem FK:aZ Tryd.prog 46=some true:=by kernel_rfl
theorem DB:aZ Tryd.prog 47=some false:=by kernel_rfl
theorem Dz:aZ Tryd.prog 49=some true:=by kernel_rfl
theorem FJ:aZ Tryd.prog 52=some false:=by kernel_rfl
theorem FI:aZ Tryd.prog 58=some false:=by kernel_rfl
theorem FH:aZ Tryd.prog 61=some false:=by kernel_rfl
theorem FG:aZ Tryd.prog 64=some false:=by kernel_rfl
theorem FF:aZ Tryd.prog 68=some true:=by kernel_rfl
theorem FE:aZ Tryd.prog 75=some false:=by kernel_rfl
theorem FD:aZ Tryd.prog 79=some true:=by kernel_rfl
theorem FC:aZ Tryd.prog 81=some false:=by kernel_rfl
theorem Ez:aZ Tryd.prog 84=some false:=by kernel_rfl
theorem zW:aZ Tryd.prog 86=some true:=by kernel_rfl
theorem ER:aZ Tryd.prog 9=some false:=by kernel_rfl
theorem FB:aZ Tryd.prog 92=some true:=by kernel_rfl
theorem FA:aZ Tryd.prog 98=some false:=by kernel_rfl
theorem fB  : Tryd.prog.built 109 []=some #[]:=by kernel_rfl
theorem Ck (a0:ByteArray):Tryd.prog.built 112 [(0,.string a0)]=some #[.string a0]:=by kernel_rfl
theorem CY  : Tryd.prog.built 41 []=some #[.slice none 0 0,.slice none 0 0]:=by kernel_rfl
theorem Bu  : Tryd.prog.built 46 []=some #[.int .u64 (0),.int .u64 (0),.int .u64 (0),.int .u64 (0)]:=by kernel_rfl
theorem wN  : Tryd.prog.built 49 []=some #[.int .i64 (0),.int .u64 (0),.int .u64 (0),.int .u64 (0),.int .u64 (0),.slice none 0 0]:=by kernel_rfl
theorem wM (a0:Int) (a1_0 a1_1 a1_2 a1_3:Value):Tryd.prog.built 49 [(0,.int .i64 a0),(1,.agg #[a1_0,a1_1,a1_2,a1_3])]=some #[.int .i64 a0,a1_0,a1_1,a1_2,a1_3,.slice none 0 0]:=by kernel_rfl
theorem nQ (a0:Int) (a2:Option Addr) (n2 c2:Nat):Tryd.prog.built 49 [(0,.int .i64 a0),(2,.slice a2 n2 c2)]=some #[.int .i64 a0,.int .u64 (0),.int .u64 (0),.int .u64 (0),.int .u64 (0),.slice a2 n2 c2]:=by kernel_rfl
theorem Dy (a0:Int):Tryd.prog.built 49 [(0,.int .i64 a0)]=some #[.int .i64 a0,.int .u64 (0),.int .u64 (0),.int .u64 (0),.int .u64 (0),.slice none 0 0]:=by kernel_rfl
theorem CX  : Tryd.prog.built 66 []=some #[.slice none 0 0,.slice none 0 0]:=by kernel_rfl
theorem Dx (a0:Option Addr) (n0 c0:Nat):Tryd.prog.built 77 [(0,.slice a0 n0 c0)]=some #[.slice a0 n0 c0,.slice none 0 0,.slice none 0 0]:=by kernel_rfl
theorem cS (a0:Bool) (a1:Option Addr) (n1 c1:Nat) (a2:Option Addr) (n2 c2:Nat):Tryd.prog.built 79 [(0,.bool a0),(1,.slice a1 n1 c1),(2,.slice a2 n2 c2)]=some #[.bool a0,.slice a1 n1 c1,.slice a2 n2 c2]:=by kernel_rfl
theorem Ew  : Tryd.prog.built 83 []=some #[.slice none 0 0,.int .i64 (0)]:=by kernel_rfl
theorem Bt  : Tryd.prog.built 86 []=some #[.int .i64 (0),.int .u64 (0),.int .u64 (0),.int .u64 (0),.int .u64 (0),.slice none 0 0]:=by kernel_rfl
theorem sj (a0:Int) (a2:Option Addr) (n2 c2:Nat):Tryd.prog.built 86 [(0,.int .i64 a0),(2,.slice a2 n2 c2)]=some #[.int .i64 a0,.int .u64 (0),.int .u64 (0),.int .u64 (0),.int .u64 (0),.slice a2 n2 c2]:=by kernel_rfl
theorem Bs (a0:Int):Tryd.prog.built 86 [(0,.int .i64 a0)]=some #[.int .i64 a0,.int .u64 (0),.int .u64 (0),.int .u64 (0),.int .u64 (0),.slice none 0 0]:=by kernel_rfl
theorem CW  : Tryd.prog.built 92 []=some #[.int .i64 (0),.int .u64 (0),.int .u64 (0),.int .u64 (0),.int .u64 (0),.slice none 0 0,.int .i64 (0)]:=by kernel_rfl
theorem yf (a0:Int) (a1_0 a1_1 a1_2 a1_3:Value) (a2:Option Addr) (n2 c2:Nat):Tryd.prog.built 92 [(0,.int .i64 a0),(1,.agg #[a1_0,a1_1,a1_2,a1_3]),(2,.slice a2 n2 c2)]=some #[.int .i64 a0,a1_0,a1_1,a1_2,a1_3,.slice a2 n2 c2,.int .i64 (0)]:=by kernel_rfl
theorem Br (a0:Int) (a3:Int):Tryd.prog.built 92 [(0,.int .i64 a0),(3,.int .i64 a3)]=some #[.int .i64 a0,.int .u64 (0),.int .u64 (0),.int .u64 (0),.int .u64 (0),.slice none 0 0,.int .i64 a3]:=by kernel_rfl
theorem ye (a2:Option Addr) (n2 c2:Nat):Tryd.prog.built 92 [(2,.slice a2 n2 c2)]=some #[.int .i64 (0),.int .u64 (0),.int .u64 (0),.int .u64 (0),.int .u64 (0),.slice a2 n2 c2,.int .i64 (0)]:=by kernel_rfl
theorem CU:Tryd.prog.concrete 109=true:=by kernel_rfl
set_option maxRecDepth 100000 in
theorem Er:dH Tryd.prog 3 1 8:=⟨⟨_,_,rfl,rfl,rfl,rfl,rfl⟩,by decide⟩
set_option maxRecDepth 100000 in
theorem Fv:dH Tryd.prog 39 1 24:=⟨⟨_,_,rfl,rfl,rfl,rfl,rfl⟩,by decide⟩
set_option maxRecDepth 100000 in
theorem BP:dH Tryd.prog 4 1 1:=⟨⟨_,_,rfl,rfl,rfl,rfl,rfl⟩,by decide⟩
set_option maxRecDepth 100000 in
theorem Ep:dH Tryd.prog 46 4 32:=⟨⟨_,_,rfl,rfl,rfl,rfl,rfl⟩,by decide⟩
set_option maxRecDepth 100000 in
theorem Dq:dH Tryd.prog 49 6 64:=⟨⟨_,_,rfl,rfl,rfl,rfl,rfl⟩,by decide⟩
set_option maxRecDepth 100000 in
theorem Gm:dH Tryd.prog 5 1 1:=⟨⟨_,_,rfl,rfl,rfl,rfl,rfl⟩,by decide⟩
set_option maxRecDepth 100000 in
theorem Eo:dH Tryd.prog 52 1 8:=⟨⟨_,_,rfl,rfl,rfl,rfl,rfl⟩,by decide⟩
set_option maxRecDepth 100000 in
theorem En:dH Tryd.prog 61 1 24:=⟨⟨_,_,rfl,rfl,rfl,rfl,rfl⟩,by decide⟩
set_option maxRecDepth 100000 in
theorem Cg:dH Tryd.prog 68 256 2048:=⟨⟨_,_,rfl,rfl,rfl,rfl,rfl⟩,by decide⟩
set_option maxRecDepth 100000 in
theorem Dp:dH Tryd.prog 86 6 64:=⟨⟨_,_,rfl,rfl,rfl,rfl,rfl⟩,by decide⟩
set_option maxRecDepth 100000 in
theorem Gl:dH Tryd.prog 9 1 16:=⟨⟨_,_,rfl,rfl,rfl,rfl,rfl⟩,by decide⟩
set_option maxRecDepth 100000 in
theorem Em:dH Tryd.prog 92 7 72:=⟨⟨_,_,rfl,rfl,rfl,rfl,rfl⟩,by decide⟩
set_option maxRecDepth 100000 in
theorem Fu:dH Tryd.prog 98 1 24:=⟨⟨_,_,rfl,rfl,rfl,rfl,rfl⟩,by decide⟩
theorem mixed:Tryd.prog.follows .mixedOrders=true:=by kernel_rfl
theorem Fo:(Tryd.f14.name == "runtime.NumGoroutine")=false:=by decide +kernel
theorem Fm:(Tryd.f15.name == "runtime.NumGoroutine")=false:=by decide +kernel
theorem Fl:(Tryd.f26.name == "runtime.NumGoroutine")=false:=by decide +kernel
theorem Fk:(Tryd.f29.name == "runtime.NumGoroutine")=false:=by decide +kernel
theorem Fj:(Tryd.f47.name == "runtime.NumGoroutine")=false:=by decide +kernel
theorem CK:cG Tryd.prog 118=some 1:=by kernel_rfl
theorem CJ:cG Tryd.prog 119=some 1:=by kernel_rfl
theorem C8:cG Tryd.prog 26=some 1:=by kernel_rfl
theorem uf:cG Tryd.prog 3=some 1:=by kernel_rfl
theorem D6:cG Tryd.prog 38=some 1:=by kernel_rfl
theorem y5:cG Tryd.prog 39=some 1:=by kernel_rfl
theorem tg:cG Tryd.prog 4=some 1:=by kernel_rfl
theorem Fa:cG Tryd.prog 45=some 1:=by kernel_rfl
theorem BW:cG Tryd.prog 46=some 4:=by kernel_rfl
theorem C7:cG Tryd.prog 47=some 1:=by kernel_rfl
theorem Au:cG Tryd.prog 49=some 6:=by kernel_rfl
theorem E9:cG Tryd.prog 52=some 1:=by kernel_rfl
theorem D5:cG Tryd.prog 58=some 1:=by kernel_rfl
theorem xe:cG Tryd.prog 61=some 1:=by kernel_rfl
theorem D3:cG Tryd.prog 64=some 1:=by kernel_rfl
theorem E8:cG Tryd.prog 68=some 256:=by kernel_rfl
theorem D0:cG Tryd.prog 75=some 1:=by kernel_rfl
theorem E7:cG Tryd.prog 79=some 3:=by kernel_rfl
theorem DZ:cG Tryd.prog 81=some 1:=by kernel_rfl
theorem E6:cG Tryd.prog 84=some 1:=by kernel_rfl
theorem qt:cG Tryd.prog 86=some 6:=by kernel_rfl
theorem DY:cG Tryd.prog 9=some 1:=by kernel_rfl
theorem E5:cG Tryd.prog 92=some 7:=by kernel_rfl
theorem E4:cG Tryd.prog 98=some 1:=by kernel_rfl
theorem DS:(Tryd.prog.info? 121).bind (·.zero)=some (.agg #[.pointer none,.slice none 0 0]):=by kernel_rfl
theorem EY:(Tryd.prog.info? 26).bind (·.zero)=some (.int .i64 (0)):=by kernel_rfl
theorem FT:(Tryd.prog.info? 3).bind (·.zero)=some (.int .i64 (0)):=by kernel_rfl
theorem BS:(Tryd.prog.info? 4).bind (·.zero)=some (.bool false):=by kernel_rfl
theorem EX:(Tryd.prog.info? 46).bind (·.zero)=some (.agg #[.int .u64 (0),.int .u64 (0),.int .u64 (0),.int .u64 (0)]):=by kernel_rfl
theorem DR:(Tryd.prog.info? 49).bind (·.zero)=some (.agg #[.int .i64 (0),.int .u64 (0),.int .u64 (0),.int .u64 (0),.int .u64 (0),.slice none 0 0]):=by kernel_rfl
theorem EW:(Tryd.prog.info? 61).bind (·.zero)=some (.slice none 0 0):=by kernel_rfl
theorem EV:(Tryd.prog.info? 68).bind (·.zero)=some (.agg (Array.replicate 256 (.int .i64 (0)))):=by kernel_rfl
theorem EU:(Tryd.prog.info? 79).bind (·.zero)=some (.agg #[.bool false,.slice none 0 0,.slice none 0 0]):=by kernel_rfl
theorem DQ:(Tryd.prog.info? 86).bind (·.zero)=some (.agg #[.int .i64 (0),.int .u64 (0),.int .u64 (0),.int .u64 (0),.int .u64 (0),.slice none 0 0]):=by kernel_rfl
end Go.Proofs.YtbbjkiigpdjaaaaDoor.H
namespace Go.Proofs.YtbbjkiigpdjaaaaDoor.H
open Go.Proofs.Tryd
open Go Go.Lw
set_option maxRecDepth 100000 in
instance:Cx Tryd.prog:=⟨by decide +kernel⟩
instance:mX Tryd.prog 118 false:=⟨ED⟩
instance:mX Tryd.prog 119 false:=⟨EC⟩
instance:mX Tryd.prog 142 false:=⟨EB⟩
instance:mX Tryd.prog 26 false:=⟨DC⟩
instance:mX Tryd.prog 29 false:=⟨EA⟩
instance:mX Tryd.prog 3 false:=⟨BQ⟩
instance:mX Tryd.prog 38 false:=⟨FN⟩
instance:mX Tryd.prog 39 false:=⟨FM⟩
instance:mX Tryd.prog 4 false:=⟨Gq⟩
instance:mX Tryd.prog 45 false:=⟨FL⟩
instance:mX Tryd.prog 46 true:=⟨FK⟩
instance:mX Tryd.prog 47 false:=⟨DB⟩
instance:mX Tryd.prog 49 true:=⟨Dz⟩
instance:mX Tryd.prog 52 false:=⟨FJ⟩
instance:mX Tryd.prog 58 false:=⟨FI⟩
instance:mX Tryd.prog 61 false:=⟨FH⟩
instance:mX Tryd.prog 64 false:=⟨FG⟩
instance:mX Tryd.prog 68 true:=⟨FF⟩
instance:mX Tryd.prog 75 false:=⟨FE⟩
instance:mX Tryd.prog 79 true:=⟨FD⟩
instance:mX Tryd.prog 81 false:=⟨FC⟩
instance:mX Tryd.prog 84 false:=⟨Ez⟩
instance:mX Tryd.prog 86 true:=⟨zW⟩
instance:mX Tryd.prog 9 false:=⟨ER⟩
instance:mX Tryd.prog 92 true:=⟨FB⟩
instance:mX Tryd.prog 98 false:=⟨FA⟩
instance:FX Tryd.prog 109:=⟨CU⟩
instance:Ae Tryd.prog 3 1 8:=⟨Er⟩
instance:Ae Tryd.prog 39 1 24:=⟨Fv⟩
instance:Ae Tryd.prog 46 4 32:=⟨Ep⟩
instance:Ae Tryd.prog 49 6 64:=⟨Dq⟩
instance:Ae Tryd.prog 5 1 1:=⟨Gm⟩
instance:Ae Tryd.prog 61 1 24:=⟨En⟩
instance:Ae Tryd.prog 86 6 64:=⟨Dp⟩
instance:Ae Tryd.prog 9 1 16:=⟨Gl⟩
instance:Ae Tryd.prog 92 7 72:=⟨Em⟩
instance:Ae Tryd.prog 98 1 24:=⟨Fu⟩
instance:pU Tryd.prog 112 0 0:=⟨⟨_,_,_,underlying112,rfl,rfl,DY⟩⟩
instance:pU Tryd.prog 121 0 0:=⟨⟨_,_,_,underlying121,rfl,rfl,CK⟩⟩
instance:pU Tryd.prog 121 1 1:=⟨⟨_,_,_,underlying121,rfl,rfl,CJ⟩⟩
instance:pU Tryd.prog 41 0 0:=⟨⟨_,_,_,underlying41,rfl,rfl,D6⟩⟩
instance:pU Tryd.prog 41 1 1:=⟨⟨_,_,_,underlying41,rfl,rfl,y5⟩⟩
instance:pU Tryd.prog 49 0 0:=⟨⟨_,_,_,underlying49,rfl,rfl,uf⟩⟩
instance:pU Tryd.prog 49 1 1:=⟨⟨_,_,_,underlying49,rfl,rfl,BW⟩⟩
instance:pU Tryd.prog 49 2 5:=⟨⟨_,_,_,underlying49,rfl,rfl,C7⟩⟩
instance:pU Tryd.prog 66 0 0:=⟨⟨_,_,_,underlying66,rfl,rfl,D3⟩⟩
instance:pU Tryd.prog 66 1 1:=⟨⟨_,_,_,underlying66,rfl,rfl,y5⟩⟩
instance:pU Tryd.prog 77 0 0:=⟨⟨_,_,_,underlying77,rfl,rfl,D0⟩⟩
instance:pU Tryd.prog 77 1 1:=⟨⟨_,_,_,underlying77,rfl,rfl,D5⟩⟩
instance:pU Tryd.prog 77 2 2:=⟨⟨_,_,_,underlying77,rfl,rfl,xe⟩⟩
instance:pU Tryd.prog 79 0 0:=⟨⟨_,_,_,underlying79,rfl,rfl,tg⟩⟩
instance:pU Tryd.prog 79 1 1:=⟨⟨_,_,_,underlying79,rfl,rfl,xe⟩⟩
instance:pU Tryd.prog 79 2 2:=⟨⟨_,_,_,underlying79,rfl,rfl,xe⟩⟩
instance:pU Tryd.prog 83 0 0:=⟨⟨_,_,_,underlying83,rfl,rfl,DZ⟩⟩
instance:pU Tryd.prog 83 1 1:=⟨⟨_,_,_,underlying83,rfl,rfl,uf⟩⟩
instance:pU Tryd.prog 86 0 0:=⟨⟨_,_,_,underlying86,rfl,rfl,uf⟩⟩
instance:pU Tryd.prog 86 1 1:=⟨⟨_,_,_,underlying86,rfl,rfl,BW⟩⟩
instance:pU Tryd.prog 86 2 5:=⟨⟨_,_,_,underlying86,rfl,rfl,E6⟩⟩
instance:pU Tryd.prog 92 0 0:=⟨⟨_,_,_,underlying92,rfl,rfl,uf⟩⟩
instance:pU Tryd.prog 92 1 1:=⟨⟨_,_,_,underlying92,rfl,rfl,BW⟩⟩
instance:pU Tryd.prog 92 2 5:=⟨⟨_,_,_,underlying92,rfl,rfl,y5⟩⟩
instance:pU Tryd.prog 92 3 6:=⟨⟨_,_,_,underlying92,rfl,rfl,uf⟩⟩
instance:cA Tryd.prog 10 f10:=⟨func10⟩
instance:cA Tryd.prog 11 f11:=⟨func11⟩
instance:cA Tryd.prog 12 f12:=⟨func12⟩
instance:cA Tryd.prog 13 f13:=⟨func13⟩
instance:cA Tryd.prog 14 f14:=⟨func14⟩
instance:cA Tryd.prog 15 f15:=⟨func15⟩
instance:cA Tryd.prog 16 f16:=⟨func16⟩
instance:cA Tryd.prog 17 f17:=⟨func17⟩
instance:cA Tryd.prog 18 f18:=⟨func18⟩
instance:cA Tryd.prog 19 f19:=⟨func19⟩
instance:cA Tryd.prog 20 f20:=⟨func20⟩
instance:cA Tryd.prog 21 f21:=⟨func21⟩
instance:cA Tryd.prog 22 f22:=⟨func22⟩
instance:cA Tryd.prog 23 f23:=⟨func23⟩
instance:cA Tryd.prog 24 f24:=⟨func24⟩
instance:cA Tryd.prog 25 f25:=⟨func25⟩
instance:cA Tryd.prog 26 f26:=⟨func26⟩
instance:cA Tryd.prog 27 f27:=⟨func27⟩
instance:cA Tryd.prog 28 f28:=⟨func28⟩
instance:cA Tryd.prog 29 f29:=⟨func29⟩
instance:cA Tryd.prog 3 Tryd.f3:=⟨func3⟩
instance:cA Tryd.prog 30 f30:=⟨func30⟩
instance:cA Tryd.prog 31 f31:=⟨func31⟩
instance:cA Tryd.prog 32 f32:=⟨func32⟩
instance:cA Tryd.prog 33 f33:=⟨func33⟩
instance:cA Tryd.prog 34 f34:=⟨func34⟩
instance:cA Tryd.prog 35 f35:=⟨func35⟩
instance:cA Tryd.prog 36 f36:=⟨func36⟩
instance:cA Tryd.prog 37 f37:=⟨func37⟩
instance:cA Tryd.prog 38 f38:=⟨func38⟩
instance:cA Tryd.prog 39 f39:=⟨func39⟩
instance:cA Tryd.prog 4 f4:=⟨func4⟩
instance:cA Tryd.prog 40 f40:=⟨func40⟩
instance:cA Tryd.prog 41 f41:=⟨func41⟩
instance:cA Tryd.prog 42 f42:=⟨func42⟩
instance:cA Tryd.prog 43 f43:=⟨func43⟩
instance:cA Tryd.prog 44 f44:=⟨func44⟩
instance:cA Tryd.prog 45 f45:=⟨func45⟩
instance:cA Tryd.prog 47 f47:=⟨func47⟩
instance:cA Tryd.prog 48 f48:=⟨func48⟩
instance:cA Tryd.prog 49 f49:=⟨func49⟩
instance:cA Tryd.prog 5 Tryd.f5:=⟨func5⟩
instance:cA Tryd.prog 50 f50:=⟨func50⟩
instance:cA Tryd.prog 51 f51:=⟨func51⟩
instance:cA Tryd.prog 52 f52:=⟨func52⟩
instance:cA Tryd.prog 53 f53:=⟨func53⟩
instance:cA Tryd.prog 54 f54:=⟨func54⟩
instance:cA Tryd.prog 55 f55:=⟨func55⟩
instance:cA Tryd.prog 56 f56:=⟨func56⟩
instance:cA Tryd.prog 57 f57:=⟨func57⟩
instance:cA Tryd.prog 58 f58:=⟨func58⟩
instance:cA Tryd.prog 59 f59:=⟨func59⟩
instance:cA Tryd.prog 6 f6:=⟨func6⟩
instance:cA Tryd.prog 60 f60:=⟨func60⟩
instance:cA Tryd.prog 61 f61:=⟨func61⟩
instance:cA Tryd.prog 62 f62:=⟨func62⟩
instance:cA Tryd.prog 63 f63:=⟨func63⟩
instance:cA Tryd.prog 64 f64:=⟨func64⟩
instance:cA Tryd.prog 65 f65:=⟨func65⟩
instance:cA Tryd.prog 66 f66:=⟨func66⟩
instance:cA Tryd.prog 68 f68:=⟨func68⟩
instance:cA Tryd.prog 69 f69:=⟨func69⟩
instance:cA Tryd.prog 7 f7:=⟨func7⟩
instance:cA Tryd.prog 70 f70:=⟨func70⟩
instance:cA Tryd.prog 73 f73:=⟨func73⟩
instance:cA Tryd.prog 74 f74:=⟨func74⟩
instance:cA Tryd.prog 75 f75:=⟨func75⟩
instance:cA Tryd.prog 8 Tryd.f8:=⟨func8⟩
instance:cA Tryd.prog 80 f80:=⟨func80⟩
instance:cA Tryd.prog 81 f81:=⟨func81⟩
instance:cA Tryd.prog 82 f82:=⟨func82⟩
instance:cA Tryd.prog 83 f83:=⟨func83⟩
instance:cA Tryd.prog 89 f89:=⟨func89⟩
instance:cA Tryd.prog 9 f9:=⟨func9⟩
instance:cA Tryd.prog 90 f90:=⟨func90⟩
instance:cA Tryd.prog 91 f91:=⟨func91⟩
instance:EG Tryd.prog:=⟨mixed⟩
instance:n7 Tryd.prog 118 1:=⟨CK⟩
instance:n7 Tryd.prog 119 1:=⟨CJ⟩
instance:n7 Tryd.prog 26 1:=⟨C8⟩
instance:n7 Tryd.prog 3 1:=⟨uf⟩
instance:n7 Tryd.prog 38 1:=⟨D6⟩
instance:n7 Tryd.prog 39 1:=⟨y5⟩
instance:n7 Tryd.prog 4 1:=⟨tg⟩
instance:n7 Tryd.prog 45 1:=⟨Fa⟩
instance:n7 Tryd.prog 46 4:=⟨BW⟩
instance:n7 Tryd.prog 49 6:=⟨Au⟩
instance:n7 Tryd.prog 52 1:=⟨E9⟩
instance:n7 Tryd.prog 58 1:=⟨D5⟩
instance:n7 Tryd.prog 61 1:=⟨xe⟩
instance:n7 Tryd.prog 64 1:=⟨D3⟩
instance:n7 Tryd.prog 68 256:=⟨E8⟩
instance:n7 Tryd.prog 75 1:=⟨D0⟩
instance:n7 Tryd.prog 79 3:=⟨E7⟩
instance:n7 Tryd.prog 81 1:=⟨DZ⟩
instance:n7 Tryd.prog 86 6:=⟨qt⟩
instance:n7 Tryd.prog 9 1:=⟨DY⟩
instance:n7 Tryd.prog 92 7:=⟨E5⟩
instance:n7 Tryd.prog 98 1:=⟨E4⟩
instance:mR Tryd.prog 119 (.slice 5):=⟨underlying119⟩
instance:mR Tryd.prog 22 (.slice 9):=⟨underlying22⟩
instance:mR Tryd.prog 25 (.slice 52):=⟨underlying25⟩
instance:mR Tryd.prog 3 (.int .i64):=⟨underlying3⟩
instance:mR Tryd.prog 38 (.slice 39):=⟨underlying38⟩
instance:mR Tryd.prog 39 (.slice 3):=⟨underlying39⟩
instance:mR Tryd.prog 46 (.array 4 45):=⟨underlying46⟩
instance:mR Tryd.prog 47 (.slice 49):=⟨underlying47⟩
instance:mR Tryd.prog 5 (.int .u8):=⟨underlying5⟩
instance:mR Tryd.prog 58 (.slice 61):=⟨underlying58⟩
instance:mR Tryd.prog 61 (.slice 4):=⟨underlying61⟩
instance:mR Tryd.prog 64 (.slice 68):=⟨underlying64⟩
instance:mR Tryd.prog 68 (.array 256 3):=⟨underlying68⟩
instance:mR Tryd.prog 75 (.slice 46):=⟨underlying75⟩
instance:mR Tryd.prog 81 (.slice 92):=⟨underlying81⟩
instance:mR Tryd.prog 84 (.slice 86):=⟨underlying84⟩
instance:mR Tryd.prog 9 (.string):=⟨underlying9⟩
instance:mR Tryd.prog 98 (.slice 61):=⟨underlying98⟩
instance:mR Tryd.prog 99 (.slice 98):=⟨underlying99⟩
instance:CZ Tryd.prog 121 (.agg #[.pointer none,.slice none 0 0]):=⟨DS⟩
instance:CZ Tryd.prog 26 (.int .i64 (0)):=⟨EY⟩
instance:CZ Tryd.prog 46 (.agg #[.int .u64 (0),.int .u64 (0),.int .u64 (0),.int .u64 (0)]):=⟨EX⟩
instance:CZ Tryd.prog 49 (.agg #[.int .i64 (0),.int .u64 (0),.int .u64 (0),.int .u64 (0),.int .u64 (0),.slice none 0 0]):=⟨DR⟩
instance:CZ Tryd.prog 68 (.agg (Array.replicate 256 (.int .i64 (0)))):=⟨EV⟩
instance:CZ Tryd.prog 79 (.agg #[.bool false,.slice none 0 0,.slice none 0 0]):=⟨EU⟩
instance:CZ Tryd.prog 86 (.agg #[.int .i64 (0),.int .u64 (0),.int .u64 (0),.int .u64 (0),.int .u64 (0),.slice none 0 0]):=⟨DQ⟩
end Go.Proofs.YtbbjkiigpdjaaaaDoor.H
namespace Go.Proofs.YtbbjkiigpdjaaaaDoor
abbrev By:=List UInt8
inductive Nd where
  |mk (kind:Nat) (set:Nat) (kids:List Nd)
def Nd.kind:Nd->Nat|.mk k _ _=>k
def Nd.set:Nd->Nat|.mk _ s _=>s
def Nd.kids:Nd->List Nd|.mk _ _ l=>l
def yl:Nat:=2 ^ 256-1
def gk (s a:Nat):Nat->Nat
  | 0=>s
  |n+1=>gk (s |||(1 <<< a)) (a+1) n
def gK (s:Nat) (a b:UInt8):Nat:=gk s a.toNat (b.toNat+1-a.toNat)
def fW (s:Nat):Nat:=yl ^^^ s
def mP (b:UInt8):Nd:=.mk 1 (gK 0 b b) []
def wH:Nd:=.mk 1 (gK (gK 0 0 9) 11 255) []
def iz:Nd:=.mk 0 0 []
def aR:By:=[40,41,91,93,124,42,43,63,46,92,45,94]
def bX (b:UInt8):Option Nat :=
  if 48<=b.toNat/\b.toNat<=57 then some (b.toNat-48) else if 97<=b.toNat/\b.toNat<=102 then some (b.toNat-87) else if 65<=b.toNat/\b.toNat<=70 then some (b.toNat-55) else none
def eB:By->Option (UInt8×By)
  | []=>none
  |b::r =>
    if b=110 then some (10,r) else if b=116 then some (9,r) else if b=114 then some (13,r)
    else if b=120 then
      match r with
      |x::y::r=>match bX x,bX y with
        |some m,some n=>some (UInt8.ofNat (m*16+n),r)
        |_,_=>none
      |_=>none
    else if b∈aR then some (b,r) else none
def jw:By->Option (UInt8×By)
  | []=>none
  |b::r=>if b=92 then eB r else if b∈aR then none else some (b,r)
def dw (s:By):Option ((UInt8×UInt8)×By) :=
  match jw s with
  |none=>none
  |some (a,r)=>match r with
    | 45::r'=>match jw r' with
      |none=>none
      |some (b,r'')=>if b.toNat<a.toNat then none else some ((a,b),r'')
    |_=>some ((a,a),r)
def jM:Nat->Nat->By->Option (Nat×By)
  | 0,_,_=>none
  |n+1,acc,s=>match dw s with
    |none=>none
    |some ((a,b),r)=>match r with
      | 93::r'=>some (gK acc a b,r')
      |_=>jM n (gK acc a b) r
def bR (s:By):Option (Nd×By) :=
  match s with
  | 94::r=>(jM (r.length+1) 0 r).map fun p=>(.mk 1 (fW p.1) [],p.2)
  |_=>(jM (s.length+1) 0 s).map fun p=>(.mk 1 p.1 [],p.2)
def bP (rows:By->Option (Nd×By)):By->Option (Nd×By)
  | []=>none
  |c::r =>
    if c=40 then
      match rows r with
      |none=>none
      |some (n,r')=>match r' with
        | 41::r''=>some (n,r'')
        |_=>none
    else if c=91 then bR r
    else if c=46 then some (wH,r)
    else if c=92 then (eB r).map fun p=>(mP p.1,p.2)
    else if c∈[(41:UInt8),93,124,42,43,63] then none
    else some (mP c,r)
def bp (c:UInt8):Nat:=if c=42 then 4 else if c=43 then 5 else if c=63 then 6 else 0
def cg (n:Nd):By->Nd×By
  | []=>(n,[])
  |c::r=>if bp c=0 then (n,c::r) else cg (.mk (bp c) 0 [n]) r
def dh (rows:By->Option (Nd×By)) (s:By):Option (Nd×By) :=
  (bP rows s).map fun p=>cg p.1 p.2
def aG (kind:Nat):List Nd->Nd
  | []=>iz
  | [n]=>n
  |l=>.mk kind 0 l
def fl:By->Bool
  | []=>true
  |c::_=>c ==124 ||c ==41
def kf (rows:By->Option (Nd×By)):Nat->By->Option (List Nd×By)
  | 0,_=>none
  |n+1,s=>if fl s then some ([],s) else
    match dh rows s with
    |none=>none
    |some (x,r)=>(kf rows n r).map fun p=>(x::p.1,p.2)
def dn (rows:By->Option (Nd×By)):Nat->List Nd->List Nd->By->Option (Nd×By)
  | 0,_,_,_=>none
  |n+1,all,row,s=>if fl s then
      if s.head? =some 124 then dn rows n (all++[aG 2 row]) [] s.tail
      else some (aG 3 (all++[aG 2 row]),s)
    else match dh rows s with
      |none=>none
      |some (x,r)=>dn rows n all (row++[x]) r
def bk:Nat->By->Option (Nd×By)
  | 0,_=>none
  |d+1,s=>dn (bk d) (s.length+1) [] [] s
def dm (s:By):Option Nd :=
  match bk (s.length+1) s with
  |some (n,[])=>some n
  |_=>none
theorem rW {s:By}{b:UInt8}{r:By}(h:eB s=some (b,r)):r.length<s.length:=by
  unfold eB at h;split at h
  · cases h
  · rename_i c t;split at h
    · cases h;simp
    · split at h
      · cases h;simp
      · split at h
        · cases h;simp
        · split at h
          · split at h
            · split at h
              · cases h;simp only[List.length_cons];omega
              · cases h
            · cases h
          · split at h
            · cases h;simp
            · cases h
theorem iT {s:By}{b:UInt8}{r:By}(h:jw s=some (b,r)):r.length<s.length:=by
  unfold jw at h;split at h
  · cases h
  · split at h
    · have:=rW h;simp only[List.length_cons];omega
    · split at h
      · cases h
      · cases h;simp
theorem kF {s:By}{p:UInt8×UInt8}{r:By}(h:dw s=some (p,r)):r.length<s.length:=by
  unfold dw at h;split at h
  · cases h
  · rename_i a t ha;have h1:=iT ha;split at h
    · rename_i t';split at h
      · cases h
      · rename_i b t'' hb;have h2:=iT hb;split at h
        · cases h
        · cases h;simp only[List.length_cons] at h1;omega
    · cases h;exact h1
theorem oq:∀(n acc:Nat){s:By}{m:Nat}{r:By},jM n acc s=some (m,r)->r.length<s.length
  | 0,_,s,m,r,h=>by cases h
  |n+1,acc,s,m,r,h=>by
    rw[jM] at h;split at h
    · cases h
    · rename_i a b t ht;have h1:=kF ht;split at h
      · cases h;simp only[List.length_cons] at h1;omega
      · have:=oq n _ h;omega
theorem nP {s:By}{x:Nd}{r:By}(h:bR s=some (x,r)):r.length<s.length:=by
  unfold bR at h;split at h
  · rename_i t;simp only[Option.map_eq_some_iff] at h;obtain⟨⟨m,r'⟩,h1,h2⟩:=h;cases h2;have:=oq _ _ h1;simp only[List.length_cons];omega
  · simp only[Option.map_eq_some_iff] at h;obtain⟨⟨m,r'⟩,h1,h2⟩:=h;cases h2;exact oq _ _ h1
theorem oL {rows:By->Option (Nd×By)}(hr:∀{s x r},rows s=some (x,r)->r.length<=s.length){s:By}{x:Nd}{r:By}(h:bP rows s=some (x,r)):r.length<s.length:=by
  unfold bP at h;split at h
  · cases h
  · rename_i c t;simp only[List.length_cons];split at h
    · split at h
      · cases h
      · rename_i n t' ht;have:=hr ht;split at h
        · rename_i t'' _;cases h;simp only[List.length_cons] at this;omega
        · cases h
    · split at h
      · have:=nP h;omega
      · split at h
        · cases h;omega
        · split at h
          · simp only[Option.map_eq_some_iff] at h;obtain⟨⟨b,r'⟩,h1,h2⟩:=h;cases h2;have:=rW h1;dsimp only;omega
          · split at h
            · cases h
            · cases h;omega
theorem qE:∀(s:By) (n:Nd),(cg n s).2.length<=s.length
  | [],n=>by simp[cg]
  |c::r,n=>by
    rw[cg];split
    · simp
    · have:=qE r (.mk (bp c) 0 [n]);simp only[List.length_cons];omega
theorem ec {rows:By->Option (Nd×By)}(hr:∀{s x r},rows s=some (x,r)->r.length<=s.length){s:By}{x:Nd}{r:By}(h:dh rows s=some (x,r)):r.length<s.length:=by
  unfold dh at h;simp only[Option.map_eq_some_iff] at h;obtain⟨⟨n,t⟩,h1,h2⟩:=h;have h3:=oL hr h1;have h4:=qE t n;rw[h2] at h4;simp only at h4;omega
theorem ou {rows:By->Option (Nd×By)}(hr:∀{s x r},rows s=some (x,r)->r.length<=s.length):∀(n:Nat) (all row:List Nd){s:By}{x:Nd}{r:By},dn rows n all row s=some (x,r)->r.length<=s.length/\(r=[]\/r.head? =some 41)
  | 0,_,_,s,x,r,h=>by cases h
  |n+1,all,row,s,x,r,h=>by
    rw[dn] at h;split at h
    · rename_i he;split at h
      · have:=ou hr n _ _ h;exact⟨by have h2:=this.1;simp only[List.length_tail] at h2;omega,this.2⟩
      · rename_i hn;cases h;refine⟨Nat.le_refl _,?_⟩;cases s with
        |nil=>exact .inl rfl
        |cons c t =>
          right
          unfold fl at he;have h1:c≠124:=fun e=>hn (by rw[e];rfl)
          simp[h1] at he;simp[he]
    · split at h
      · cases h
      · rename_i y t ht;have h1:=ec hr ht;have h2:=ou hr n _ _ h;exact⟨by omega,h2.2⟩
theorem gH:∀(d:Nat){s:By}{x:Nd}{r:By},bk d s=some (x,r)->r.length<=s.length
  | 0,s,x,r,h=>by cases h
  |d+1,s,x,r,h=>(ou (fun h=>gH d h) _ _ _ h).1
theorem vI {rows:By->Option (Nd×By)}(hr:∀{s x r},rows s=some (x,r)->r.length<=s.length):∀(n:Nat){s:By}{l:List Nd}{r:By},kf rows n s=some (l,r)->r.length<=s.length/\fl r=true/\l.length<=s.length
  | 0,s,l,r,h=>by cases h
  |n+1,s,l,r,h=>by
    rw[kf] at h;split at h
    · rename_i he;cases h;exact⟨Nat.le_refl _,he,Nat.zero_le _⟩
    · split at h
      · cases h
      · rename_i y t ht;have h1:=ec hr ht;simp only[Option.map_eq_some_iff] at h;obtain⟨⟨m,r'⟩,h2,h3⟩:=h;cases h3;have h4:=vI hr n h2;have h5:=h4.1;have h6:=h4.2.2;exact⟨by first|omega|(dsimp only;omega),h4.2.1,by simp only[List.length_cons];first|omega|(dsimp only at h6;omega)⟩
theorem jq {rows:By->Option (Nd×By)}(hr:∀{s x r},rows s=some (x,r)->r.length<=s.length):∀(k:Nat) (n m:Nat) (all row:List Nd) (s:By),s.length<=k->s.length<n->s.length<m->dn rows n all row s=dn rows m all row s:=by
  intro k
  induction k with
  |zero =>
    intro n m all row s hk hn hm;cases n with
    |zero=>omega
    |succ n =>
      cases m with
      |zero=>omega
      |succ m =>
        have:s=[]:=List.eq_nil_of_length_eq_zero (by omega);subst this;rfl
  |succ k ih =>
    intro n m all row s hk hn hm;cases n with
    |zero=>omega
    |succ n =>
      cases m with
      |zero=>omega
      |succ m =>
        rw[dn,dn];split
        · split
          · rename_i h1;have h2:s.tail.length+1=s.length:=by cases s with|nil=>cases h1|cons a b=>simp
            exact ih _ _ _ _ _ (by omega) (by omega) (by omega)
          · rfl
        · cases hp:dh rows s with
          |none=>rfl
          |some p =>
            obtain⟨y,t⟩:=p;have:=ec hr hp;exact ih _ _ _ _ _ (by omega) (by omega) (by omega)
theorem tA {rows:By->Option (Nd×By)}(hr:∀{s x r},rows s=some (x,r)->r.length<=s.length):∀(n m:Nat) (s:By),s.length<n->s.length<m->kf rows n s=kf rows m s
  | 0,_,_,h,_=>by omega
  |_,0,_,_,h=>by omega
  |n+1,m+1,s,hn,hm=>by
    rw[kf,kf];split
    · rfl
    · cases hp:dh rows s with
      |none=>rfl
      |some p =>
        obtain⟨y,t⟩:=p;have:=ec hr hp;simp only;rw[tA hr n m t (by omega) (by omega)]
def uw (rows:By->Option (Nd×By)) (s:By):Option (Nd×By):=(kf rows (s.length+1) s).map fun p=>(aG 2 p.1,p.2)
def pQ (rows:By->Option (Nd×By)) (all:List Nd) (m:By):Option (Nd×By) :=
  if m.head? =some 124 then dn rows (m.tail.length+1) all [] m.tail else some (aG 3 all,m)
theorem zl {rows:By->Option (Nd×By)}(hr:∀{s x r},rows s=some (x,r)->r.length<=s.length):∀(n m:Nat) (all row:List Nd) (s:By),s.length<n->s.length<m ->
    dn rows n all row s=match kf rows m s with
      |none=>none
      |some (l,r)=>if r.head? =some 124 then dn rows (r.length+1) (all++[aG 2 (row++l)]) [] r.tail else some (aG 3 (all++[aG 2 (row++l)]),r):=by
  have fuel:=fun k=>@jq rows hr k
  intro n
  induction n with
  |zero=>intro m all row s h;omega
  |succ n ih =>
    intro m all row s hn hm;cases m with
    |zero=>omega
    |succ m =>
      rw[dn,kf]
      by_cases he:fl s=true
      · rw[if_pos he,if_pos he];simp only[List.append_nil];split
        · rename_i h1;have h2:s.tail.length+1=s.length:=by cases s with|nil=>cases h1|cons a b=>simp
          exact fuel _ _ _ _ _ _ (Nat.le_refl _) (by omega) (by omega)
        · rfl
      · rw[if_neg he,if_neg he];cases hp:dh rows s with
        |none=>rfl
        |some p =>
          obtain⟨y,t⟩:=p;have hlt:=ec hr hp;simp only;rw[ih m all (row++[y]) t (by omega) (by omega)];cases hl:kf rows m t with
          |none=>rfl
          |some q =>
            obtain⟨l,r⟩:=q;simp only[Option.map_some,List.append_assoc,List.singleton_append]
theorem qM {rows:By->Option (Nd×By)}(hr:∀{s x r},rows s=some (x,r)->r.length<=s.length) (all:List Nd) (s:By) :
    dn rows (s.length+1) all [] s=match uw rows s with|none=>none|some (x,r)=>pQ rows (all++[x]) r:=by
  rw[zl hr _ (s.length+1) _ _ _ (Nat.lt_succ_self _) (Nat.lt_succ_self _)];unfold uw;cases hl:kf rows (s.length+1) s with
  |none=>rfl
  |some q =>
    obtain⟨l,r⟩:=q;simp only[Option.map_some,List.nil_append,pQ];split
    · exact jq hr r.length _ _ _ _ _ (by simp) (by simp;omega) (by omega)
    · rfl
theorem vH {rows:By->Option (Nd×By)}(hr:∀{s x r},rows s=some (x,r)->r.length<=s.length){s:By}{x:Nd}{r:By}(h:uw rows s=some (x,r)):r.length<=s.length:=by
  unfold uw at h;simp only[Option.map_eq_some_iff] at h;obtain⟨⟨l,r'⟩,h1,h2⟩:=h;cases h2;exact(vI hr _ h1).1
def az (s:By):Nd×Int:=if 200<s.length then (iz,3) else match dm s with|some x=>(x,0)|none=>(iz,10)
end Go.Proofs.YtbbjkiigpdjaaaaDoor
namespace Go.Proofs.YtbbjkiigpdjaaaaDoor
open Go Go.Lw
section
variable {h:af}{O:Nat->Prop}{cs:List Value}
def tc (s q:Nat):Nat:=(s >>> (64*q))%2 ^ 64
def cw (s q:Nat):Value:=.int .u64 (tc s q:Nat)
def bq (s:Nat):List Value:=[cw s 0,cw s 1,cw s 2,cw s 3]
theorem tZ (s q:Nat):tc s q<18446744073709551616:=Nat.mod_lt _ (by decide)
theorem ir (s q i:Nat):(tc s q).testBit i=(decide (i<64) && s.testBit (64*q+i)):=by
  unfold tc;rw[Nat.testBit_mod_two_pow,Nat.testBit_shiftRight]
theorem An (s b:Nat) (q:Nat) (h:q≠b / 64):tc (s |||(1 <<< b)) q=tc s q:=by
  apply Nat.eq_of_testBit_eq
  intro i;rw[ir,ir,Nat.testBit_or,Nat.one_shiftLeft,Nat.testBit_two_pow]
  by_cases hi:i<64
  · have:b≠64*q+i:=by omega
    simp[this]
  · simp[hi]
theorem Am (s b:Nat):tc (s |||(1 <<< b)) (b / 64)=tc s (b / 64) ||| 2 ^ (b%64):=by
  apply Nat.eq_of_testBit_eq
  intro i;rw[ir,Nat.testBit_or,Nat.testBit_or,ir,Nat.one_shiftLeft,Nat.testBit_two_pow,Nat.testBit_two_pow]
  by_cases hi:i<64
  · have:(b=64*(b / 64)+i)↔(b%64=i):=by omega
    simp[hi,this]
  · have:¬b%64=i:=by omega
    simp[hi,this]
theorem iM {i:Int}(h:0<=i/\i<=18446744073709551615):IntKind.u64.wrap i=i:=by
  have h64:(2:Int) ^ 64=18446744073709551616:=rfl;simp only[IntKind.wrap,IntKind.bits,IntKind.signed,h64,Bool.false_and,Bool.false_eq_true,if_false];omega
theorem Fe {x y:Nat}(hx:x<18446744073709551616) (hy:y<18446744073709551616):IntKind.u64.wrap ((BitVec.ofInt IntKind.u64.bits (x:Int) |||BitVec.ofInt IntKind.u64.bits (y:Int)).toNat:Int)=((x |||y:Nat):Int):=by
  have e:(BitVec.ofInt IntKind.u64.bits (x:Int) |||BitVec.ofInt IntKind.u64.bits (y:Int)).toNat=x |||y:=by
    rw[BitVec.toNat_or]
    have h1:(BitVec.ofInt IntKind.u64.bits (x:Int)).toNat=x:=by
      show (BitVec.ofInt 64 (x:Int)).toNat=x
      simp only[BitVec.toNat_ofInt];omega
    have h2:(BitVec.ofInt IntKind.u64.bits (y:Int)).toNat=y:=by
      show (BitVec.ofInt 64 (y:Int)).toNat=y
      simp only[BitVec.toNat_ofInt];omega
    rw[h1,h2]
  rw[e];have:x |||y<2 ^ 64:=Nat.or_lt_two_pow hx hy;exact iM ⟨by omega,by omega⟩
theorem CM (b:Nat):IntKind.u64.wrap (1*2 ^ min ((b%64:Nat):Int).toNat IntKind.u64.bits)=((2 ^ (b%64):Nat):Int):=by
  have hb:b%64<64:=Nat.mod_lt _ (by decide);have h1:min ((b%64:Nat):Int).toNat IntKind.u64.bits=b%64:=by show min _ 64=_;simp;omega
  rw[h1,Int.one_mul];have h2:2 ^ (b%64)<2 ^ 64:=Nat.pow_lt_pow_right (by decide) hb;have h3:((2:Int) ^ (b%64))=((2 ^ (b%64):Nat):Int):=by push_cast;rfl
  rw[h3];generalize 2 ^ (b%64)=p at *;exact iM ⟨by omega,by omega⟩
theorem Fz {x:Nat}(hx:x<18446744073709551616):IntKind.u64.wrap ((BitVec.ofInt IntKind.u64.bits (x:Int) &&& BitVec.ofInt IntKind.u64.bits 1).toNat:Int)=((x%2:Nat):Int):=by
  have e:(BitVec.ofInt IntKind.u64.bits (x:Int) &&& BitVec.ofInt IntKind.u64.bits 1).toNat=x%2:=by
    rw[BitVec.toNat_and]
    have h1:(BitVec.ofInt IntKind.u64.bits (x:Int)).toNat=x:=by
      show (BitVec.ofInt 64 (x:Int)).toNat=x
      simp only[BitVec.toNat_ofInt];omega
    rw[h1]
    show x &&& 1=_
    exact Nat.and_one_is_mod x
  rw[e];exact iM ⟨by omega,by omega⟩
theorem CL (x:Nat) (b:Nat) (hb:b<64):((x:Int)).fdiv (2 ^ min ((b:Nat):Int).toNat IntKind.u64.bits)=((x >>> b:Nat):Int):=by
  have h1:min ((b:Nat):Int).toNat IntKind.u64.bits=b:=by show min _ 64=_;simp;omega
  rw[h1,Nat.shiftRight_eq_div_pow];have h3:((2:Int) ^ b)=((2 ^ b:Nat):Int):=by push_cast;rfl
  rw[h3,Int.fdiv_eq_ediv_of_nonneg _ (Int.natCast_nonneg _)]
  push_cast;rfl
theorem yA (s b:Nat):(tc s (b / 64) >>> (b%64))%2=(s.testBit b).toNat:=by
  have h:=ir s (b / 64) (b%64);rw[show 64*(b / 64)+b%64=b from Nat.div_add_mod b 64] at h;have hb:b%64<64:=Nat.mod_lt _ (by decide);simp only[hb,decide_true,Bool.true_and] at h;rw[Nat.shiftRight_eq_div_pow,<-Nat.toNat_testBit,h]
def aX (k s:Nat) (v:Value):List Value:=[.int .i64 k,cw s 0,cw s 1,cw s 2,cw s 3,v]
inductive aA (h:af) (O:Nat->Prop):List Value->Nd->Prop
  |mk (k s:Nat) (kids:List Nd) (oa:Option Addr) (n c:Nat) (css:Nat->List Value) (hl:kids.length=n) (hc:n<=c) (hm:c<=maxLen)
      (hr:∀i x,kids[i]? =some x->∃b o,oa=some ⟨b,o,none⟩/\¬O b/\Lw.rowAt h b (o+i*6) (css i)) (hk:∀i x,kids[i]? =some x->aA h O (css i) x):aA h O (aX k s (.slice oa n c)) (.mk k s kids)
theorem aA.len {x:Nd}(k:aA h O cs x):cs.length=6:=by cases k;rfl
theorem aA.one {x:Nd}(k:aA h O cs x):∀v∈cs,v.oneCell'=true:=by
  cases k;intro v hv;simp[aX,cw] at hv
  rcases hv with rfl|rfl|rfl|rfl|rfl|rfl<;>rfl
theorem aA.mv {h':af}{O':Nat->Prop}{x:Nd}(k:aA h O cs x) (m:Mv O O' h h'):aA h' O' cs x:=by
  induction k with
  |mk k s kids oa n c css hl hc hm hr hk ih =>
    refine .mk k s kids oa n c css hl hc hm (fun i x hx=>?_) ih;obtain⟨b,o,ha,ho,hrow⟩:=hr i x hx;have hne:css i≠[]:=by intro e;have:=(hk i x hx).len;rw[e] at this;cases this
    exact⟨b,o,ha,(m.block b (fQ hrow hne) ho).2,m.rowAt ho hrow⟩
def jg:gI Nd:=⟨6,by decide,aA,aA.len,aA.one,aA.mv⟩
theorem aA.ah {h h':af}{O:Nat->Prop}{cs:List Value}{x:Nd}(k:aA h O cs x) (e:ak h h'):aA h' O cs x:=k.mv (Mv.ah e)
theorem aA.of {v:Value}{kids:List Nd}(k s:Nat) (hv:aP jg h O v kids):aA h O (aX k s v) (.mk k s kids):=by
  obtain⟨oa,n,c,rfl,hl,hc,hm,hg⟩:=hv
  have hx:∀i,i<n->∃cs:List Value,∃x,kids[i]? =some x/\(∃b o,oa=some ⟨b,o,none⟩/\¬O b/\Lw.rowAt h b (o+i*6) cs)/\aA h O cs x:=by
    intro i hi;obtain⟨b,o,cs,h1,h2,h3,h4⟩:=hg i kids[i] (List.getElem?_eq_getElem (by omega));exact⟨cs,kids[i],List.getElem?_eq_getElem (by omega),⟨b,o,h1,h2,h3⟩,h4⟩
  refine .mk k s kids oa n c (fun i=>if hi:i<n then Classical.choose (hx i hi) else []) hl hc hm (fun i x hxi=>?_) (fun i x hxi=>?_)
  · have hi:i<n:=by rw[<-hl];exact(List.getElem?_eq_some_iff.1 hxi).1
    simp only[dif_pos hi];obtain⟨y,_,h2,_⟩:=Classical.choose_spec (hx i hi);exact h2
  · have hi:i<n:=by rw[<-hl];exact(List.getElem?_eq_some_iff.1 hxi).1
    simp only[dif_pos hi];obtain⟨y,h1,_,h3⟩:=Classical.choose_spec (hx i hi);rw[h1] at hxi;cases hxi;exact h3
theorem aA.open {x:Nd}(k:aA h O cs x):∃v,cs=aX x.kind x.set v/\aP jg h O v x.kids:=by
  cases k with
  |mk k s kids oa n c css hl hc hm hr hk =>
    exact⟨_,rfl,oa,n,c,rfl,hl,hc,hm,fun i x hx=>by
      obtain⟨b,o,h1,h2,h3⟩:=hr i x hx;exact⟨b,o,css i,h1,h2,h3,hk i x hx⟩⟩
def bs (l:List UInt8):ByteArray:=⟨l.toArray⟩
theorem dF (l:List UInt8):(bs l).size=l.length:=by simp[bs,ByteArray.size]
theorem mQ {l m:List UInt8}(h:bs l=bs m):l=m:=by have:=congrArg (fun x=>x.data.toList) h;simpa [bs] using this
theorem jS {l:List UInt8}{i:Nat}{c:UInt8}(h:l[i]? =some c):(bs l).data[i]? =some c:=by simpa [bs] using h
theorem yU (l:List UInt8) (i:Nat):(bs l).extract i (bs l).size=bs (l.drop i):=by
  apply ByteArray.ext
  apply Array.ext'
  rw[ByteArray.data_extract,Array.toList_extract,List.extract_eq_take_drop];rw[dF];simp only[bs];exact List.take_of_length_le (by simp)
theorem DU (c d:UInt8):decide (((c.toNat:Nat):Int)≠((d.toNat:Nat):Int))=decide (c≠d):=by
  rw[decide_eq_decide];exact⟨fun h e=>h (by rw[e]),fun h e=>h (UInt8.toNat_inj.1 (by omega))⟩
theorem bf {c:UInt8}{k:Nat}{d:UInt8}(hd:d.toNat=k):(((c.toNat:Nat):Int)=(k:Int))↔c=d:=by
  subst hd;exact⟨fun e=>UInt8.toNat_inj.1 (by omega),fun e=>by rw[e]⟩
end
end Go.Proofs.YtbbjkiigpdjaaaaDoor
