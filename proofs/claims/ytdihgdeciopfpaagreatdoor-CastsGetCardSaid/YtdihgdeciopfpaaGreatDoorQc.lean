/- What the proof of the statement leans on (part 3). -/
import Derived.Laws.AppendOwn
import Derived.Deep.MidRow
import Derived.Laws.MakeOwn
import Derived.IntWalk
import Derived.Laws.Strings
import Derived.Test.YtdihgdeciopfpaaGreatDoorQb

namespace Go.Lw
section
variable {t e yt:TypeId}{n b c d o sz base size:Nat}{x y lo hi:Operand}{v:Value}{oa:Option Addr}{s:ByteArray}{i j il jl:Int}{k k':IntKind}{cs xs:List Value}{M O:Nat->Prop}{h h':au}{w:World}{α:Type}
def ck (P:Program) (t:TypeId):Option Nat:=(P.info? t).map (·.size)
theorem run_sizeOf {P:Program}(h:ck P t=some n) (w:World):(sizeOf t).run P w= .ok n w:=by
 unfold ck at h;cases hi:P.info? t with
 |none=>simp[hi] at h
 |some i=>simp[hi] at h;simp[sizeOf,typeInfo,hi,h]
def aZ (P:Program) (t:TypeId):Option Bool:=(P.underlying t).map TypeDesc.isRow
theorem hU {P:Program}{b:Bool}(h:aZ P t=some b) (w:World):(isAgg t).run P w= .ok b w:=by
 unfold aZ at h;cases hi:P.underlying t with
 |none=>simp[hi] at h
 |some d =>
  simp[hi] at h;subst h;unfold isAgg;rw[Sem.run_bind,run_underlying hi w];cases d<;>simp[TypeDesc.isRow]
section
variable {P:Program}{ρ:Env}{h:au}{dst:Option Nat}{ty:TypeId}{pos:String}{after:Array Edge}{guard:Option (Nat×Bool)}
theorem aF {x:Operand}{v:Value}(hx:bE ρ x=some v):ai P ⟨dst,.move x,ty,pos,after,guard⟩ ρ h v:=by
 intro n B a w hf _;simp[execOp,hf.eval hx]
theorem ai.assign {x:Operand}{v:Value}(hx:bE ρ x=some v):ai P ⟨dst,.assign x,ty,pos,after,guard⟩ ρ h v:=by
 intro n B a w hf _;simp[execOp,hf.eval hx]
theorem ai.yZ {c:Operand}(hc:bE ρ c=some (.bool true)) (hx:bE ρ x=some v):ai P ⟨dst,.pick c x y,ty,pos,after,guard⟩ ρ h v:=by
 intro n B a w hf _;simp[execOp,hf.eval hc,hf.eval hx,asBool]
theorem ai.jW {c:Operand}(hc:bE ρ c=some (.bool false)) (hy:bE ρ y=some v):ai P ⟨dst,.pick c x y,ty,pos,after,guard⟩ ρ h v:=by
 intro n B a w hf _;simp[execOp,hf.eval hc,hf.eval hy,asBool]
theorem ai.extract {x:Operand}{vs:Array Value}{i:Nat}{v:Value}(hx:bE ρ x=some (.tuple vs)) (hi:vs[i]? =some v):ai P ⟨dst,.extract x i,ty,pos,after,guard⟩ ρ h v:=by
 intro n B a w hf _;simp[execOp,hf.eval hx,Instr.extract,hi]
theorem aV {x:Operand}{a:Addr}(hx:bE ρ x=some (.pointer (some a))):ai P ⟨dst,.nilCheck x,ty,pos,after,guard⟩ ρ h (.pointer (some a)):=by
 intro n B a w hf _;simp[execOp,hf.eval hx]
theorem ai.aI (hu:P.underlying t=some (.slice e)) (hx:bE ρ x=some (.slice oa n c)) :
 ai P ⟨dst,.call ⟨.builtin .len,#[x],#[t]⟩,ty,pos,after,guard⟩ ρ h (.int .i64 n):=by
 intro _ B a w hf _;simp[execOp,resolve,invoke,builtin,Builtin.len_,run_underlying hu,hf.eval hx,goInt]
theorem ai.aU (hu:P.underlying t=some .string) (hx:bE ρ x=some (.string s)) :
 ai P ⟨dst,.call ⟨.builtin .len,#[x],#[t]⟩,ty,pos,after,guard⟩ ρ h (.int .i64 s.size):=by
 intro _ B a w hf _;simp[execOp,resolve,invoke,builtin,Builtin.len_,run_underlying hu,hf.eval hx,goInt]
theorem ai.min2 {x y:Operand}{k k':IntKind}{i j:Int}{ts:Array TypeId}(hx:bE ρ x=some (.int k i)) (hy:bE ρ y=some (.int k' j)) :
 ai P ⟨dst,.call ⟨.builtin .min,#[x,y],ts⟩,ty,pos,after,guard⟩ ρ h (.int k (if j<i then j else i)):=by
 intro _ B a w hf _;simp[execOp,resolve,invoke,builtin,Builtin.min_,Builtin.min2,hf.eval hx,hf.eval hy]
theorem ai.max2 {x y:Operand}{k k':IntKind}{i j:Int}{ts:Array TypeId}(hx:bE ρ x=some (.int k i)) (hy:bE ρ y=some (.int k' j)) :
 ai P ⟨dst,.call ⟨.builtin .max,#[x,y],ts⟩,ty,pos,after,guard⟩ ρ h (.int k (if i<j then j else i)):=by
 intro _ B a w hf _;simp[execOp,resolve,invoke,builtin,Builtin.max_,Builtin.max2,hf.eval hx,hf.eval hy]
theorem xQ (i j:Int):(i ==j)=decide (i=j):=by
 rw[Bool.eq_iff_iff];simp
theorem wrap_i64 (hi : -9223372036854775808<=i/\i<=9223372036854775807):IntKind.i64.wrap i=i:=by
 have h64:(2:Int) ^ 64=18446744073709551616:=rfl;have h63:(2:Int) ^ (64-1)=9223372036854775808:=rfl;simp only[IntKind.wrap,IntKind.bits,IntKind.signed,h64,h63,Bool.true_and,decide_eq_true_eq];split<;>omega
theorem ai.add {t yt:TypeId}{x y:Operand}{k:IntKind}{i j:Int}(hx:bE ρ x=some (.int k i)) (hy:bE ρ y=some (.int k j)) :
 ai P ⟨dst,.binOp .add t x y yt,ty,pos,after,guard⟩ ρ h (.int k (k.wrap (i+j))):=by
 intro _ B a w hf _;simp[execOp,eqGuard,binOp,Op.intArith,hf.eval hx,hf.eval hy]
theorem ai.sub {t yt:TypeId}{x y:Operand}{k:IntKind}{i j:Int}(hx:bE ρ x=some (.int k i)) (hy:bE ρ y=some (.int k j)) :
 ai P ⟨dst,.binOp .sub t x y yt,ty,pos,after,guard⟩ ρ h (.int k (k.wrap (i-j))):=by
 intro _ B a w hf _;simp[execOp,eqGuard,binOp,Op.intArith,hf.eval hx,hf.eval hy]
theorem IQ {t yt:TypeId}{x y:Operand}{k:IntKind}{i j:Int}(hx:bE ρ x=some (.int k i)) (hy:bE ρ y=some (.int k j)) :
 ai P ⟨dst,.binOp .mul t x y yt,ty,pos,after,guard⟩ ρ h (.int k (k.wrap (i*j))):=by
 intro _ B a w hf _;simp[execOp,eqGuard,binOp,Op.intArith,hf.eval hx,hf.eval hy]
theorem ai.aT (hx:bE ρ x=some (.int .i64 i)) (hy:bE ρ y=some (.int .i64 j)) (hb : -9223372036854775808<=i+j/\i+j<=9223372036854775807) :
 ai P ⟨dst,.binOp .add t x y yt,ty,pos,after,guard⟩ ρ h (.int .i64 (i+j)):=by
 have:=ai.add (P:=P) (h:=h) (dst:=dst) (ty:=ty) (pos:=pos) (after:=after) (guard:=guard) (t:=t) (yt:=yt) hx hy
 rwa [wrap_i64 hb] at this
theorem ai.fh (hx:bE ρ x=some (.int .i64 i)) (hy:bE ρ y=some (.int .i64 j)) (hb : -9223372036854775808<=i-j/\i-j<=9223372036854775807) :
 ai P ⟨dst,.binOp .sub t x y yt,ty,pos,after,guard⟩ ρ h (.int .i64 (i-j)):=by
 have:=ai.sub (P:=P) (h:=h) (dst:=dst) (ty:=ty) (pos:=pos) (after:=after) (guard:=guard) (t:=t) (yt:=yt) hx hy
 rwa [wrap_i64 hb] at this
theorem ai.o9 (hx:bE ρ x=some (.int .i64 i)) (hy:bE ρ y=some (.int .i64 j)) (hb : -9223372036854775808<=i*j/\i*j<=9223372036854775807) :
 ai P ⟨dst,.binOp .mul t x y yt,ty,pos,after,guard⟩ ρ h (.int .i64 (i*j)):=by
 have:=IQ (P:=P) (h:=h) (dst:=dst) (ty:=ty) (pos:=pos) (after:=after) (guard:=guard) (t:=t) (yt:=yt) hx hy
 rwa [wrap_i64 hb] at this
theorem iN {t yt:TypeId}{x y:Operand}{k:IntKind}{i j:Int}(hx:bE ρ x=some (.int k i)) (hy:bE ρ y=some (.int k j)) (hj:j≠0) :
 ai P ⟨dst,.binOp .quo t x y yt,ty,pos,after,guard⟩ ρ h (.int k (k.wrap (i.tdiv j))):=by
 intro _ B a w hf _;simp[execOp,eqGuard,binOp,Op.intDiv,hf.eval hx,hf.eval hy,hj]
theorem iM {t yt:TypeId}{x y:Operand}{k:IntKind}{i j:Int}(hx:bE ρ x=some (.int k i)) (hy:bE ρ y=some (.int k j)) (hj:j≠0) :
 ai P ⟨dst,.binOp .rem t x y yt,ty,pos,after,guard⟩ ρ h (.int k (i.tmod j)):=by
 intro _ B a w hf _;simp[execOp,eqGuard,binOp,Op.intDiv,hf.eval hx,hf.eval hy,hj]
theorem xW {t yt:TypeId}{x y:Operand}{k:IntKind}{i j:Int}(hx:bE ρ x=some (.int k i)) (hy:bE ρ y=some (.int k j)) :
 ai P ⟨dst,.binOp .lss t x y yt,ty,pos,after,guard⟩ ρ h (.bool (decide (i<j))):=by
 intro _ B a w hf _;simp[execOp,eqGuard,binOp,Op.intCmp,hf.eval hx,hf.eval hy]
theorem Dr {t yt:TypeId}{x y:Operand}{k:IntKind}{i j:Int}(hx:bE ρ x=some (.int k i)) (hy:bE ρ y=some (.int k j)) :
 ai P ⟨dst,.binOp .leq t x y yt,ty,pos,after,guard⟩ ρ h (.bool (decide (i<=j))):=by
 intro _ B a w hf _;simp[execOp,eqGuard,binOp,Op.intCmp,hf.eval hx,hf.eval hy]
theorem nU {t yt:TypeId}{x y:Operand}{k:IntKind}{i j:Int}(hx:bE ρ x=some (.int k i)) (hy:bE ρ y=some (.int k j)) :
 ai P ⟨dst,.binOp .gtr t x y yt,ty,pos,after,guard⟩ ρ h (.bool (decide (j<i))):=by
 intro _ B a w hf _;simp[execOp,eqGuard,binOp,Op.intCmp,hf.eval hx,hf.eval hy]
theorem nV {t yt:TypeId}{x y:Operand}{k:IntKind}{i j:Int}(hx:bE ρ x=some (.int k i)) (hy:bE ρ y=some (.int k j)) :
 ai P ⟨dst,.binOp .geq t x y yt,ty,pos,after,guard⟩ ρ h (.bool (decide (j<=i))):=by
 intro _ B a w hf _;simp[execOp,eqGuard,binOp,Op.intCmp,hf.eval hx,hf.eval hy]
theorem ai.mL (hx:bE ρ x=some (.int k i)) (hy:bE ρ y=some (.int k j)) :
 ai P ⟨dst,.binOp .eql t x y yt,ty,pos,after,guard⟩ ρ h (.bool (decide (i=j))):=by
 intro _ B a w hf _;simp[execOp,eqGuard,binOp,Op.intCmp,hf.eval hx,hf.eval hy,xQ]
theorem ai.KF (hx:bE ρ x=some (.int k i)) (hy:bE ρ y=some (.int k j)) :
 ai P ⟨dst,.binOp .neq t x y yt,ty,pos,after,guard⟩ ρ h (.bool (decide (¬i=j))):=by
 intro _ B a w hf _;simp[execOp,eqGuard,binOp,Op.intCmp,hf.eval hx,hf.eval hy,bne,xQ]
theorem ai.rI {b:Bool}(hx:bE ρ x=some (.bool b)) :
 ai P ⟨dst,.unOp .not t x,ty,pos,after,guard⟩ ρ h (.bool (!b)):=by
 intro _ B a w hf _;simp[execOp,Op.unary,hf.eval hx]
theorem ai.qx {s d:TypeId}{ds:TypeDesc}(hds:P.underlying s=some ds) (hd:P.underlying d=some (.int k')) (hx:bE ρ x=some (.int k i)) :
 ai P ⟨dst,.convert s d x,ty,pos,after,guard⟩ ρ h (.int k' (k'.wrap i)):=by
 intro _ B a w hf _;simp[execOp,convert,run_underlying hd,run_underlying hds,Conv.intToInt,hf.eval hx]
theorem ai.fP {s d:TypeId}{ds:TypeDesc}(hds:P.underlying s=some ds) (hd:P.underlying d=some (.int k')) (hx:bE ρ x=some (.int k i)) (hw:k'.wrap i=i) :
 ai P ⟨dst,.convert s d x,ty,pos,after,guard⟩ ρ h (.int k' i):=by
 have:=ai.qx (P:=P) (h:=h) (dst:=dst) (ty:=ty) (pos:=pos) (after:=after) (guard:=guard) hds hd hx
 rwa [hw] at this
theorem toList_eq (x y:ByteArray):(x.toList ==y.toList)=decide (x=y):=by
 rw[Bool.eq_iff_iff];simp only[beq_iff_eq,decide_eq_true_eq];constructor
 · intro hxy;rw[ByteArray.toList_eq,ByteArray.toList_eq] at hxy;cases x;cases y;simpa using hxy
 · rintro rfl;rfl
theorem ai.eX {i j:ByteArray}(hx:bE ρ x=some (.string i)) (hy:bE ρ y=some (.string j)) :
 ai P ⟨dst,.binOp .eql t x y yt,ty,pos,after,guard⟩ ρ h (.bool (decide (i=j))):=by
 intro _ B a w hf _;simp[execOp,eqGuard,binOp,Op.stringOp,hf.eval hx,hf.eval hy,toList_eq]
theorem ai.jD {i j:ByteArray}(hx:bE ρ x=some (.string i)) (hy:bE ρ y=some (.string j)) :
 ai P ⟨dst,.binOp .neq t x y yt,ty,pos,after,guard⟩ ρ h (.bool (decide (¬i=j))):=by
 intro _ B a w hf _;simp[execOp,eqGuard,binOp,Op.stringOp,hf.eval hx,hf.eval hy,toList_eq]
theorem ai.cK {i j:ByteArray}(hx:bE ρ x=some (.string i)) (hy:bE ρ y=some (.string j)) (hb:i.size+j.size<=9223372036854775807) :
 ai P ⟨dst,.binOp .add t x y yt,ty,pos,after,guard⟩ ρ h (.string (i++j)):=by
 intro _ B a w hf _;have:¬((9223372036854775807:Int)<(i.size+j.size:Nat)):=by omega
 simp[execOp,eqGuard,binOp,Op.stringOp,hf.eval hx,hf.eval hy,IntKind.max,IntKind.signed,IntKind.bits];omega
theorem ai.cH {b:UInt8}(hu:P.underlying t=some .string) (hx:bE ρ x=some (.string s)) (hy:bE ρ y=some (.int k j)) (i:Nat) (hj:j=i) (hb:s.data[i]? =some b) :
 ai P ⟨dst,.index t x y,ty,pos,after,guard⟩ ρ h (.int .u8 b.toNat):=by
 intro _ B a w hf _;subst hj
 have h1:s[i]? =some b:=by
  obtain⟨hlt,he⟩:=Array.getElem?_eq_some_iff.1 hb;rw[getElem?_pos s i hlt];exact congrArg some he
 simp[execOp,Instr.index,run_underlying hu,asIntOf,hf.eval hx,hf.eval hy,h1]
theorem ai.aA (hu:P.underlying t=some (.slice e)) (hs:ck P e=some sz)
 (hx:bE ρ x=some (.slice oa n c)) (hy:bE ρ y=some (.int k j)) (i:Nat) (hj:j=i) (ha:oa=some ⟨b,o,none⟩) (hi:i<n) :
 ai P ⟨dst,.indexAddr t x y,ty,pos,after,guard⟩ ρ h (.pointer (some ⟨b,o+i*sz,none⟩)):=by
 intro _ B a' w hf _;subst ha;subst hj;simp[execOp,Instr.indexAt,run_underlying hu,asIntOf,hf.eval hx,hf.eval hy,run_sizeOf hs,hi,Addr.add_mid]
theorem ai.dZ (hu:P.underlying t=some (.array n e)) (hs:ck P e=some sz)
 (hx:bE ρ x=some (.pointer (some ⟨b,o,none⟩))) (hy:bE ρ y=some (.int k j)) (i:Nat) (hj:j=i) (hi:i<n) :
 ai P ⟨dst,.indexAddr t x y,ty,pos,after,guard⟩ ρ h (.pointer (some ⟨b,o+i*sz,none⟩)):=by
 intro _ B a' w hf _;subst hj;simp[execOp,Instr.indexAt,run_underlying hu,asIntOf,hf.eval hx,hf.eval hy,run_sizeOf hs,hi,Instr.sureAddr,Addr.add_mid]
theorem ah {t:TypeId}{x:Operand}{p:Addr}{v:Value}(hr:aZ P t=some false) (hx:bE ρ x=some (.pointer (some p))) (hc:cellAt h p=some v) :
 ai P ⟨dst,.load t x,ty,pos,after,guard⟩ ρ h v:=by
 intro _ B a w hf ha;simp[execOp,Instr.loadAt,Instr.sureAddr,loadVar,hU hr,hf.eval hx,ha.cell,hc]
def rowAt (h:au) (b o:Nat) (cs:List Value):Prop:=∀j v,cs[j]? =some v->cellAt h ⟨b,o+j,none⟩=some v
theorem ai.HU (hr:aZ P t=some true) (hs:ck P t=some cs.length) (hx:bE ρ x=some (.pointer (some ⟨b,o,none⟩))) (hc:rowAt h b o cs) :
 ai P ⟨dst,.load t x,ty,pos,after,guard⟩ ρ h (.agg cs.toArray):=by
 intro _ B a w hf ha;unfold aZ at hr;cases hu:P.underlying t with
 |none=>simp[hu] at hr
 |some d =>
  simp[hu] at hr;have:=run_loadAt_mid (P:=P) w b o t cs d (fun j v hv=>by rw[ha.cell];exact hc j v hv) hu hr (by simpa [ck] using hs);simp only[execOp,hf.eval hx,Sem.run_bind,this,Result.andThen_ok,Sem.run_pure]
theorem aa {t:TypeId}{fs:Array Field}{fd:Field}{x:Operand}{i b o off:Nat}{k:Nat}(hu:P.underlying t=some (.struct fs)) (hfd:fs[i]? =some fd) (hoff:fd.offset=off) (hs:ck P fd.type=some (k+1)) (hx:bE ρ x=some (.pointer (some ⟨b,o,none⟩))) :
 ai P ⟨dst,.fieldAddr t x i,ty,pos,after,guard⟩ ρ h (.pointer (some ⟨b,o+off,none⟩)):=by
 intro _ B a w hf _;simp[execOp,Instr.fieldAt,run_underlying hu,hfd,Instr.sureAddr,fieldPlace,run_sizeOf hs,hf.eval hx,hoff,Addr.add_mid]
theorem ai.nj (hu:P.underlying t=some .string) (hx:bE ρ x=some (.string s)) (hl:bE ρ lo=some (.int k il)) (i:Nat) (hil:il=i) (hh:bE ρ hi=some (.int k' jl)) (j:Nat) (hjl:jl=j) (hij:i<=j) (hj:j<=s.size) :
 ai P ⟨dst,.slice t x (some lo) (some hi) none,ty,pos,after,guard⟩ ρ h (.string (s.extract i j)):=by
 intro _ B a w hf _;subst hil;subst hjl;simp[execOp,Instr.sliceAt,Instr.slice,Instr.sliceBounds,Instr.sliceBound,run_underlying hu,asIntOf,hf.eval hx,hf.eval hl,hf.eval hh,hij,hj]
theorem ai.dS (hu:P.underlying t=some .string) (hx:bE ρ x=some (.string s)) (hl:bE ρ lo=some (.int k il)) (i:Nat) (hil:il=i) (hij:i<=s.size) :
 ai P ⟨dst,.slice t x (some lo) none none,ty,pos,after,guard⟩ ρ h (.string (s.extract i s.size)):=by
 intro _ B a w hf _;subst hil;simp[execOp,Instr.sliceAt,Instr.slice,Instr.sliceBounds,Instr.sliceBound,run_underlying hu,asIntOf,hf.eval hx,hf.eval hl,hij]
theorem ai.gZ (hu:P.underlying t=some .string) (hx:bE ρ x=some (.string s)) (hh:bE ρ hi=some (.int k jl)) (j:Nat) (hjl:jl=j) (hj:j<=s.size) :
 ai P ⟨dst,.slice t x none (some hi) none,ty,pos,after,guard⟩ ρ h (.string (s.extract 0 j)):=by
 intro _ B a w hf _;subst hjl;simp[execOp,Instr.sliceAt,Instr.slice,Instr.sliceBounds,Instr.sliceBound,run_underlying hu,asIntOf,hf.eval hx,hf.eval hh,hj]
def bQ (oa:Option Addr) (i sz m:Nat):Option Addr:=if m=i then oa else oa.map (·.add (i*sz))
theorem ai.nk (hu:P.underlying t=some (.slice e)) (hs:ck P e=some sz) (hx:bE ρ x=some (.slice oa n c)) (hl:bE ρ lo=some (.int k il)) (i:Nat) (hil:il=i) (hij:i<=n) :
 ai P ⟨dst,.slice t x (some lo) none none,ty,pos,after,guard⟩ ρ h (.slice (bQ oa i sz c) (n-i) (c-i)):=by
 intro _ B a w hf _;subst hil;simp[execOp,Instr.sliceAt,Instr.slice,Instr.sliceBounds,Instr.sliceBound,run_underlying hu,asIntOf,hf.eval hx,hf.eval hl,hij,run_sizeOf hs,bQ]
theorem ai.gL (hu:P.underlying t=some (.slice e)) (hs:ck P e=some sz) (hx:bE ρ x=some (.slice oa n c)) (hh:bE ρ hi=some (.int k' jl)) (j:Nat) (hjl:jl=j) (hj:j<=c) :
 ai P ⟨dst,.slice t x none (some hi) none,ty,pos,after,guard⟩ ρ h (.slice (bQ oa 0 sz c) j c):=by
 intro _ B a w hf _;subst hjl;simp[execOp,Instr.sliceAt,Instr.slice,Instr.sliceBounds,Instr.sliceBound,run_underlying hu,asIntOf,hf.eval hx,hf.eval hh,hj,run_sizeOf hs,bQ]
theorem aj {f:FuncId}{xs:Array Operand}{ts:Array TypeId}{vs:List Value}{fn:Func}{Φ:Value->au->Prop}{X:List PanicEntry->au->Prop}
 (hfn:P.funcs[f]? =some fn) (hb:fn.body.isSome=true) (hnm:(fn.name == "runtime.NumGoroutine")=false) (hvs:xs.toList.map (bE ρ)=vs.map some) (k:af P f vs.toArray h (fun e h'=>match e with|.returned v=>Φ v h'|.panicked c=>X c h'|.outgrown=>False)) :
 ax P ⟨dst,.call ⟨.value (.func f),xs,ts⟩,ty,pos,after,guard⟩ ρ h Φ X:=by
 intro n B a w hf ha next Q hn hq
 have hargs:xs.map a.eval=vs.toArray:=by
  apply Array.ext'
  simp only[Array.toList_map]
  have:∀(l:List Operand) (us:List Value),l.map (bE ρ)=us.map some->l.map a.eval=us:=by
   intro l
   induction l with
   |nil=>intro us hu;cases us<;>simp_all
   |cons x r ih =>
    intro us hu;cases us with
    |nil=>simp at hu
    |cons u us =>
     simp only[List.map_cons,List.cons.injEq] at hu ⊢;exact⟨hf.eval hu.1,ih us hu.2⟩
  exact this _ _ hvs
 have hrun:(execOp a.eval ⟨dst,.call ⟨.value (.func f),xs,ts⟩,ty,pos,after,guard⟩).run P w= .ok (.enter f vs.toArray) w:=by
  have hb':fn.body≠none:=by intro hbb;simp[hbb] at hb
  have hnm':¬fn.name= "runtime.NumGoroutine" :=by simpa using hnm
  simp[execOp,resolve,Act.eval,Deferred.ofValue,invoke,callFunc,hfn,hnm',hb',hargs]
 unfold Oper.wp;rw[hrun];refine(k B w ha).mono fun e w' ⟨h',ha',hr⟩=>?_
 cases e with
 |returned v=>exact hn v h' w' ha' hr
 |panicked c=>exact hq c h' w' ha' hr
 |outgrown=>exact hr.elim
end
abbrev av (h h':au):Prop:=Ext (fun _=>False) h h'
theorem Ext.push (M:Nat->Prop) (h:au) (o:Obj):Ext M h (h.push o) :=
 ⟨by simp,fun b hb _=>by simp[Array.getElem?_push,Nat.ne_of_lt hb]⟩
theorem av.of (e:av h h'):Ext M h h':=e.mono fun _ _ k=>k.elim
theorem Ext.rowAt {M:Nat->Prop}{h h':au}(e:Ext M h h'){b o:Nat}{cs:List Value}(hm:¬M b) (k:rowAt h b o cs):rowAt h' b o cs :=
 fun j v hv=>e.cell hm (k j v hv)
theorem qh (h:au) (cs:Array Value) (t:TypeId) (fr:Nat×Nat) (i:Nat) (v:Value) (hv:cs[i]? =some v):cellAt (h.push (.cells cs t fr)) ⟨h.size,i,none⟩=some v:=by
 simp[cellAt,hv]
def dP (h:au) (a:Addr) (v:Value):au :=
 h.modify a.block fun
  |.cells c elem frozen=>.cells (if a.spot.isSome then c else c.setIfInBounds a.off v) elem frozen
  |o=>o
theorem At.dP {B:World}{h:au}{w:World}(k:At B h w) (a:Addr) (v:Value):At B (dP h a v) (w.setCell a v):=by
 refine⟨?_,k.os,k.tape,k.output⟩;rw[<-k.heap];rfl
theorem jh (h:au) (a:Addr) (v:Value):(dP h a v).size=h.size:=by simp[dP]
theorem Ext.dP {M:Nat->Prop}(h:au) (a:Addr) (v:Value) (hm:M a.block):Ext M h (dP h a v) :=
 ⟨by simp[jh],fun b _ hb=>by
  have hne:¬a.block=b:=fun e=>hb (e▸hm)
  unfold Lw.dP;rw[Array.getElem?_modify,if_neg hne]⟩
theorem q9 {cs:Array Value}{fr:Nat×Nat}(hb:h[b]? =some (.cells cs t fr)) (v:Value):(dP h ⟨b,o,none⟩ v)[b]? =some (.cells (cs.setIfInBounds o v) t fr):=by
 simp[dP,Array.getElem?_modify,hb]
section
variable {P:Program}{ρ:Env}{h:au}{dst:Option Nat}{ty:TypeId}{pos:String}{after:Array Edge}{guard:Option (Nat×Bool)}{X:List PanicEntry->au->Prop}
theorem ax.rG {o:Oper}(k:∀n B a w,Fits n ρ a->At B h w->∃w',(execOp a.eval o).run P w= .ok (.value v) w'/\At B h' w'):ax P o ρ h (fun u g=>u=v/\g=h') X:=by
 intro n B a w hf ha next Q hn _
 obtain⟨w',hr,ha'⟩:=k n B a w hf ha;unfold Oper.wp;rw[hr];exact hn v h' w' ha' ⟨rfl,rfl⟩
theorem ax.box {t:TypeId}{x:Operand}{v:Value}(hx:bE ρ x=some v) :
 ax P ⟨dst,.box t x,ty,pos,after,guard⟩ ρ h (fun u g=>u= .pointer (some ⟨h.size,0,none⟩)/\g=h.push (.cells v.cells t)) X:=by
 refine ax.rG fun n B a w hf ha=>⟨{ w with heap:=w.heap.push (.cells v.cells t) },?_,?_⟩
 · simp[execOp,Instr.box,newVar,newRow,hf.eval hx,ha.heap]
 · rw[ha.heap];exact ha.nr _
theorem ax.alloc {t:TypeId}{z:Value}(hz:(P.info? t).bind (·.zero)=some z) :
 ax P ⟨dst,.alloc t,ty,pos,after,guard⟩ ρ h (fun u g=>u= .pointer (some ⟨h.size,0,none⟩)/\g=h.push (.cells z.cells t)) X:=by
 refine ax.rG fun n B a w hf ha=>⟨{ w with heap:=w.heap.push (.cells z.cells t) },?_,?_⟩
 · cases hi:P.info? t with
   |none=>simp[hi] at hz
   |some i =>
    simp[hi] at hz;have e:=ha.heap;subst e;simp[execOp,Instr.alloc,zeroValue,typeInfo,hi,hz,newVar,newRow]
 · rw[ha.heap];exact ha.nr _
theorem cB {t:TypeId}{x y:Operand}{p:Addr}{u v:Value}(hs:ck P t=some 1) (hx:bE ρ x=some (.pointer (some p))) (hy:bE ρ y=some v) (h1:v.oneCell'=true) (hc:cellAt h p=some u) (hfz:frozenAt h p=false) :
 ax P ⟨dst,.store t x y,ty,pos,after,guard⟩ ρ h (fun u g=>u=undef/\g=dP h p v) X:=by
 intro n B a w hf ha next Q hn _
 have hcells:v.cells= #[v]:=by cases v<;>simp[Value.oneCell'] at h1<;>rfl
 have hrun:(execOp a.eval ⟨dst,.store t x y,ty,pos,after,guard⟩).run P w= .ok .skip (w.setCell p v):=by
  simp[execOp,Instr.storeAt,Instr.sureAddr,storeVar,run_sizeOf hs,hf.eval hx,hf.eval hy,hcells,storeCells,run_store P w p v .plain h1,ha.cell,hc,ha.frozen,hfz,Addr.add]
 unfold Oper.wp;rw[hrun];exact hn undef _ _ (ha.dP p v) ⟨rfl,rfl⟩
end
def aC (h:au) (base:Nat) (e:TypeId) (size:Nat) (v:Value) (n:Nat) (xs:List Value):Prop :=
 xs.length=n*size /\
 ((v= .slice none 0 0/\n=0) \/
  ∃g cap cur,v= .slice (some ⟨g,0,none⟩) n cap/\base<=g/\h[g]? =some (.cells cur e (0,0))/\n<=cap/\cap<=maxLen/\cur.size=cap*size/\cur.toList.take (n*size)=xs)
theorem At.own {B:World}(k:At B h w):w.ownsRow base e size v n xs↔aC h base e size v n xs:=by
 rw[<-k.heap];rfl
def cC (r:Option Nat):Nat->Prop:=fun b=>some b=r
theorem gO {w':World}{r:Option Nat}(g:w.grownBy w' r):Ext (cC r) w.heap w'.heap:=⟨g.size,fun b hb hm=>g.block b hb hm⟩
theorem At.grown {B:World}{w':World}{r:Option Nat}(k:At B h w) (g:w.grownBy w' r):At B w'.heap w':=⟨rfl,g.os.trans k.os,g.tape.trans k.tape,g.output.trans k.output⟩
theorem aC.ext (x:Ext M h h') (k:aC h base e size v n xs) (hm:∀b,v.ownBlock=some b->¬M b):aC h' base e size v n xs:=by
 refine⟨k.1,?_⟩
 rcases k.2 with hn|⟨g,cap,cur,rfl,hb,hgg,rest⟩
 · exact .inl hn
 · refine .inr ⟨g,cap,cur,rfl,hb,?_,rest⟩;rw[x.block g (Array.getElem?_eq_some_iff.1 hgg).1 (hm g rfl)];exact hgg
theorem aC.nil (h:au) (base:Nat) (e:TypeId) (size:Nat):aC h base e size (.slice none 0 0) 0 []:=⟨by simp,.inl ⟨rfl,rfl⟩⟩
theorem aC.lower {base':Nat}(k:aC h base e size v n xs) (hb:base'<=base):aC h base' e size v n xs:=by
 refine⟨k.1,?_⟩
 rcases k.2 with hn|⟨g,cap,cur,hv,h1,rest⟩
 · exact .inl hn
 · exact .inr ⟨g,cap,cur,hv,Nat.le_trans hb h1,rest⟩
section
variable {P:Program}{ρ:Env}{h:au}{dst:Option Nat}{ty:TypeId}{pos:String}{after:Array Edge}{guard:Option (Nat×Bool)}{X:List PanicEntry->au->Prop}
structure de (P:Program) (e:TypeId) (size bytes:Nat):Prop where
 ex:∃i z,P.info? e=some i/\i.zero=some z/\i.size=size/\i.bytes=bytes/\z.cells.size=size
 pos:0<size
theorem p9 (w:World) (base:Nat) (t ty e:TypeId) (size bytes:Nat) (ht:P.underlying t=some (.slice e)) (he:de P e size bytes)
 (v:Value) (n:Nat) (xs:List Value) (hown:w.ownsRow base e size v n xs)
 (a:Addr) (m c:Nat) (news:List Value) (hl:news.length=m*size) (hnews:∀j u,news[j]? =some u->w.cell? (a.add j)=some u) (h1:∀u∈news,u.oneCell'=true)
 (h63:n+m<=maxLen) (hbytes:(n+m)*bytes<=140737488355328) (hbase:base<=w.heap.size) :
 ∃v' w',(Builtin.append_ #[t,t] ty #[v,.slice (some a) m c]).run P w= .ok v' w'/\w'.ownsRow base e size v' (n+m) (xs++news)/\w.grownBy w' v.ownBlock /\
  (v'= .slice none 0 0↔v= .slice none 0 0/\m=0)/\(∀b,v'.ownBlock=some b->v.ownBlock=some b\/w.heap.size<=b):=by
 obtain⟨⟨i,z,hi,hz,rfl,rfl,hzs⟩,hsz⟩:=he;have hsmall:n+m<=9223372036854775807:=by simp only[maxLen] at h63;omega
 have hlen:(xs++news).length=(n+m)*i.size:=by rw[List.length_append,hown.1,hl,Nat.add_mul]
 have grown:∀(old:Nat),old<n+m->∀(row:Option Nat),
  (w.drew.alloc (.cells (xs.toArray++news.toArray++Builtin.zeroCells z.cells (grownCap w (n+m) old e-(n+m))) e)).ownsRow base e i.size
   (.slice (some ⟨w.heap.size,0,none⟩) (n+m) (grownCap w (n+m) old e)) (n+m) (xs++news) /\
  w.grownBy (w.drew.alloc (.cells (xs.toArray++news.toArray++Builtin.zeroCells z.cells (grownCap w (n+m) old e-(n+m))) e)) row:=by
  intro old ho row;have hge:=grownCap_ge w (n+m) old e;have hcm:grownCap w (n+m) old e<=maxLen:=grownCap_le_maxLen w (n+m) old e h63;refine⟨⟨hlen,.inr ⟨w.heap.size,_,_,rfl,hbase,heap_alloc_new w.drew _,hge,hcm,?_,?_⟩⟩,⟨rfl,rfl,rfl,by simp,fun k hk _=>heap_alloc_old w.drew _ k hk⟩⟩
  · simp only[Array.size_append,List.size_toArray,size_zeroCells,hzs,hown.1,hl,<-Nat.add_mul]
    congr 1
    omega
  · simp only[Array.toList_append,List.append_assoc];rw[<-List.append_assoc,<-hlen];exact List.take_left
 rcases hown.2 with ⟨rfl,rfl⟩|⟨g,cap,cur,rfl,hbg,hg,hnc,hcm,hcs,htake⟩
 · have hx:xs=[]:=List.eq_nil_of_length_eq_zero (by simpa using hown.1);subst hx
   by_cases hm:m=0
   · subst hm;have hn:news=[]:=List.eq_nil_of_length_eq_zero (by simpa using hl);subst hn;refine⟨.slice none 0 0,w,?_,World.ownsRow_nil w base e i.size,⟨rfl,rfl,rfl,Nat.le_refl _,fun _ _ _=>rfl⟩,by simp,by simp[Value.ownBlock]⟩;simp[Builtin.append_,run_underlying ht,sizeOf,typeInfo,hi,Builtin.lenOf,Builtin.firstCells,loadCells,loadCellsFrom]
   · have hr:=run_append_nil (P:=P) w t ty e i z ht hi hz a m c news hl hnews (by omega) (by omega) (by have hb:=hbytes;simp only[Nat.zero_add] at hb;omega);have hgr:=grown 0 (by omega) (Value.ownBlock (.slice none 0 0));simp only[Nat.zero_add,List.nil_append,Array.empty_append] at hgr ⊢;exact⟨_,_,hr,hgr.1,hgr.2,by simp[hm],fun b hb=>.inr (by simp[Value.ownBlock] at hb;omega)⟩
 · by_cases hroom:n+m<=cap
   · have hfit:n*i.size+news.length<=cur.size:=by rw[hl,hcs,<-Nat.add_mul];exact Nat.mul_le_mul_right _ hroom
     have hr:=run_append_room (P:=P) w t ty e i ht hi g n cap cur hg a m c news hl hnews h1 hroom hfit;refine⟨_,_,hr,⟨hlen,.inr ⟨g,cap,_,rfl,hbg,setRow_heap w g cur _ e _ hg,hroom,hcm,?_,?_⟩⟩,⟨rfl,rfl,rfl,by simp,fun k _ hk=>setRow_other w g k _ (fun e=>hk (by simp[Value.ownBlock,e]))⟩,by simp,fun b hb=>.inl hb⟩
     · simp only[List.size_toArray,List.length_append,List.length_take,List.length_drop,Array.length_toList];omega
     · rw[htake,<-hlen];exact List.take_left
   · have holds:∀j u,xs[j]? =some u->w.cell? ((⟨g,0,none⟩:Addr).add j)=some u:=hown.cells (g:=g) rfl;have hr:=run_append_grow (P:=P) w t ty e i z ht hi hz ⟨g,0,none⟩ n cap xs hown.1 holds a m c news hl hnews (by omega) (by omega) (growslice_fits (by omega) hbytes);have hgr:=grown cap (by omega) (Value.ownBlock (.slice (some ⟨g,0,none⟩) n cap));exact⟨_,_,hr,hgr.1,hgr.2,by simp,fun b hb=>.inr (by simp[Value.ownBlock] at hb;omega)⟩
theorem ax.append {t e:TypeId}{size bytes:Nat}{x y:Operand}{v:Value}{n:Nat}{xs news:List Value}{oa:Option Addr}{m c base:Nat}(ht:P.underlying t=some (.slice e)) (he:de P e size bytes)
 (hx:bE ρ x=some v) (hy:bE ρ y=some (.slice oa m c)) (hown:aC h base e size v n xs) (hl:news.length=m*size)
 (hnews:m=0\/∃b o,oa=some ⟨b,o,none⟩/\rowAt h b o news) (h1:∀u∈news,u.oneCell'=true)
 (h63:n+m<=maxLen) (hbytes:(n+m)*bytes<=140737488355328) (hbase:base<=h.size) :
 ax P ⟨dst,.call ⟨.builtin .append,#[x,y],#[t,t]⟩,ty,pos,after,guard⟩ ρ h (fun v' h'=>aC h' base e size v' (n+m) (xs++news)/\Ext (cC v.ownBlock) h h'/\(v'= .slice none 0 0↔v= .slice none 0 0/\m=0)/\(∀b,v'.ownBlock=some b->v.ownBlock=some b\/h.size<=b)) X:=by
 intro nn B a w hf ha next Q hn _
 have hw:w.ownsRow base e size v n xs:=ha.own.2 hown
 rcases hnews with rfl|⟨b,o,rfl,hrow⟩
 · have hn0:news=[]:=List.eq_nil_of_length_eq_zero (by simpa using hl);subst hn0
   have hrun:(execOp a.eval ⟨dst,.call ⟨.builtin .append,#[x,y],#[t,t]⟩,ty,pos,after,guard⟩).run P w= .ok (.value v) w:=by
    obtain⟨⟨i,z,hi,hz,hsz,hby,hzs⟩,hpos⟩:=he
    rcases hown.2 with ⟨rfl,rfl⟩|⟨g,cap,cur,rfl,hb,hgg,hle,rest⟩<;>cases oa
    · simp[execOp,resolve,invoke,builtin,hf.eval hx,hf.eval hy,Builtin.append_,run_underlying ht,sizeOf,typeInfo,hi,Builtin.lenOf,Builtin.firstCells]
    · simp[execOp,resolve,invoke,builtin,hf.eval hx,hf.eval hy,Builtin.append_,run_underlying ht,sizeOf,typeInfo,hi,Builtin.lenOf,Builtin.firstCells,loadCells,loadCellsFrom]
    · simp[execOp,resolve,invoke,builtin,hf.eval hx,hf.eval hy,Builtin.append_,run_underlying ht,sizeOf,typeInfo,hi,Builtin.lenOf,Builtin.firstCells,hle,storeCells]
    · simp[execOp,resolve,invoke,builtin,hf.eval hx,hf.eval hy,Builtin.append_,run_underlying ht,sizeOf,typeInfo,hi,Builtin.lenOf,Builtin.firstCells,loadCells,loadCellsFrom,hle,storeCells]
   unfold Oper.wp;rw[hrun];exact hn v h w ha ⟨by simpa using hown,Ext.refl _ _,by simp,fun b hb=>.inl hb⟩
 · obtain⟨v',w',hr,h2,h3,h4,h5⟩:=p9 (P:=P) w base t ty e size bytes ht he v n xs hw ⟨b,o,none⟩ m c news hl (fun j u hu=>by rw[Addr.add_mid,ha.cell];exact hrow j u hu) h1 h63 hbytes (by rw[ha.heap];exact hbase);unfold Oper.wp execOp;simp only[resolve,invoke,builtin,Sem.run_bind,Sem.run_pure,Result.andThen_ok,List.map_toArray,List.map_cons,List.map_nil,hf.eval hx,hf.eval hy,hr];refine hn v' w'.heap w' (ha.grown h3) ⟨(At.own (ha.grown h3)).1 h2,?_,h4,?_⟩
   · rw[<-ha.heap];exact gO h3
   · rw[<-ha.heap];exact h5
theorem u5 {ρ:Env}{a:Act}(hf:Fits n ρ a){ps:Array (Nat×Operand)}{vs:List (Nat×Value)}(h:ps.toList.map (fun p=>(p.1,bE ρ p.2))=vs.map (fun p=>(p.1,some p.2))) :
 (ps.map fun(i,x)=>(i,a.eval x))=vs.toArray:=by
 apply Array.ext'
 simp only[Array.toList_map];generalize ps.toList=l at h
 revert vs
 induction l with
 |nil=>intro vs h;cases vs<;>simp_all
 |cons p r ih =>
  intro vs h;cases vs with
  |nil=>simp at h
  |cons q us =>
   obtain⟨i,x⟩:=p;obtain⟨j,v⟩:=q;simp only[List.map_cons,List.cons.injEq,Prod.mk.injEq] at h ⊢;exact⟨⟨h.1.1,hf.eval h.1.2⟩,ih h.2⟩
theorem ax.buildSlice {t e:TypeId}{size bytes len:Nat}{ps:Array (Nat×Operand)}{vs:List (Nat×Value)}{cells:Array Value}(ht:P.underlying t=some (.slice e)) (he:de P e size bytes)
 (hps:ps.toList.map (fun p=>(p.1,bE ρ p.2))=vs.map (fun p=>(p.1,some p.2))) (hlen:len*size<=16777216)
 (hfill:∀z:Array Value,z.size=size->Instr.fill (fun i=>some (i*size,size)) ((Array.range (len*size)).map (z[· %z.size]!)) vs=some cells) :
 ax P ⟨dst,.buildSlice t len ps,ty,pos,after,guard⟩ ρ h (fun u g=>u= .slice (some ⟨h.size,0,none⟩) len len/\g=h.push (.cells cells e)) X:=by
 obtain⟨⟨i,z,hi,hz,rfl,rfl,hzs⟩,hsz⟩:=he;refine ax.rG fun n B a w hf ha=>?_
 have e:=ha.heap;subst e;refine⟨{ w with heap:=w.heap.push (.cells cells _) },?_,ha.nr _⟩;have hmp:=u5 hf hps;have hle:¬(len*i.size>2 ^ 24):=by omega
 by_cases h0:len*i.size=0
 · have hf0:=hfill z.cells hzs;rw[h0] at hf0;have hr0:∀f:Nat->Value,(Array.range 0).map f= #[]:=fun f=>by apply Array.ext';simp
   have hf1:Instr.fill (fun j=>some (j*i.size,i.size)) #[] vs=some cells:=by rw[hr0] at hf0;exact hf0
   simp only[execOp,hmp,Instr.buildSlice,Sem.run_bind,run_underlying ht,Result.andThen_ok,sizeOf,typeInfo,run_program,hi,Sem.run_pure,if_neg hle];simp[h0,hr0,hf1,newRow]
 · simp only[execOp,hmp,Instr.buildSlice,Sem.run_bind,run_underlying ht,Result.andThen_ok,sizeOf,typeInfo,run_program,hi,Sem.run_pure,if_neg hle,if_neg h0];have hf0:=hfill z.cells hzs;simp[zeroValue,typeInfo,hi,hz,hf0,newRow]
theorem vq:∀(us:List Value),(∀u∈us,u.oneCell'=true)->∀(k:Nat) (pre:List Value) (tl:List Value),pre.length=k->tl.length=us.length ->
 Instr.fill (fun i=>some (i*1,1)) (pre++tl).toArray (us.zipIdx k |>.map fun p=>(p.2,p.1))=some (pre++us).toArray
 | [],_,k,pre,tl,_,hl=>by
  have:tl=[]:=List.eq_nil_of_length_eq_zero (by simpa using hl);subst this;simp[Instr.fill]
 |u::us,h1,k,pre,tl,hp,hl=>by
  cases tl with
  |nil=>simp at hl
  |cons t tl =>
   have hu:u.cells= #[u]:=by have:=h1 u (by simp);cases u<;>simp[Value.oneCell'] at this<;>rfl
   have ih:=vq us (fun v hv=>h1 v (by simp[hv])) (k+1) (pre++[u]) tl (by simp[hp]) (by simpa using hl);simp only[List.zipIdx_cons,List.map_cons,Instr.fill,hu,Nat.mul_one];have h2:¬((#[u]:Array Value).size≠1\/k+(#[u]:Array Value).size>(pre++t::tl).toArray.size):=by simp;omega
   simp only[List.append_assoc,List.singleton_append,Nat.mul_one] at ih
   have hset:(pre++t::tl).toArray.setIfInBounds k u=(pre++u::tl).toArray:=by
    subst hp;simp[List.set_append_right]
   simp[hset,ih];omega
theorem ax.bA {bytes len:Nat}{ps:Array (Nat×Operand)}{us:List Value}(ht:P.underlying t=some (.slice e)) (he:de P e 1 bytes)
 (hps:ps.toList.map (fun p=>(p.1,bE ρ p.2))=(us.zipIdx.map fun p=>(p.2,p.1)).map (fun p=>(p.1,some p.2))) (hl:us.length=len) (hlen:len<=16777216) (h1:∀u∈us,u.oneCell'=true) :
 ax P ⟨dst,.buildSlice t len ps,ty,pos,after,guard⟩ ρ h (fun u g=>u= .slice (some ⟨h.size,0,none⟩) len len/\g=h.push (.cells us.toArray e)) X:=by
 refine ax.buildSlice ht he hps (by omega) fun z hz=>?_
 have:=vq us h1 0 [] ((List.range (len*1)).map (fun j=>z[j%z.size]!)) rfl (by simp[hl]);simp only[List.nil_append] at this;rw[<-this]
 congr 1
 apply Array.ext'
 simp
end
structure Mv (O O':Nat->Prop) (h h':au):Prop where
 size:h.size<=h'.size
 block:∀b,b<h.size->¬O b->h'[b]? =h[b]? /\¬O' b
theorem Mv.trans {O O' O'':Nat->Prop}{a b c:au}(m:Mv O O' a b) (k:Mv O' O'' b c):Mv O O'' a c :=
 ⟨Nat.le_trans m.size k.size,fun i hi ho=>by
  obtain⟨h1,h2⟩:=m.block i hi ho;obtain⟨h3,h4⟩:=k.block i (Nat.lt_of_lt_of_le hi m.size) h2;exact⟨h3.trans h1,h4⟩⟩
theorem Mv.eE {O':Nat->Prop}(e:Ext M h h') (hm:∀b,b<h.size->¬O b->¬M b/\¬O' b):Mv O O' h h' :=
 ⟨e.size,fun b hb ho=>⟨e.block b hb (hm b hb ho).1,(hm b hb ho).2⟩⟩
theorem Mv.aq (e:av h h'):Mv O O h h':=⟨e.size,fun b hb ho=>⟨e.block b hb (fun k=>k),ho⟩⟩
theorem Mv.cell {O':Nat->Prop}(m:Mv O O' h h'){a:Addr}(ho:¬O a.block) (k:cellAt h a=some v):cellAt h' a=some v:=by
 have:=(m.block a.block (cL k) ho).1;unfold cellAt at *;rw[this];exact k
theorem Mv.rowAt {O O':Nat->Prop}{h h':au}(m:Mv O O' h h'){b o:Nat}{cs:List Value}(ho:¬O b) (k:rowAt h b o cs):rowAt h' b o cs:=fun j v hv=>m.cell ho (k j v hv)
theorem dz (k:rowAt h b o cs) (hne:cs≠[]):b<h.size:=by
 cases cs with
 |nil=>exact absurd rfl hne
 |cons v r=>exact cL (k 0 v rfl)
structure fF (α:Type) where
 sz:Nat
 pos:0<sz
 R:au->(Nat->Prop)->List Value->α->Prop
 len:∀{h O cs x},R h O cs x->cs.length=sz
 one:∀{h O cs x},R h O cs x->∀v∈cs,v.oneCell'=true
 mv:∀{h O h' O' cs x},R h O cs x->Mv O O' h h'->R h' O' cs x
def fF.flat {α:Type}(enc:α->Value) (h1:∀x,(enc x).oneCell'=true):fF α where
 sz:=1
 pos:=Nat.one_pos
 R:=fun _ _ cs x=>cs=[enc x]
 len:=fun h=>by subst h;rfl
 one:=fun h v hv=>by subst h;simp at hv;subst hv;exact h1 _
 mv:=fun h _=>h
def fF.int (k:IntKind):fF Int:=.flat (.int k) fun _=>rfl
def fF.bool:fF Bool:=.flat .bool fun _=>rfl
def fF.byte:fF UInt8:=.flat (fun b=>.int .u8 b.toNat) fun _=>rfl
def bF {α:Type}(e:fF α) (h:au) (O:Nat->Prop) (v:Value) (xs:List α):Prop :=
 ∃oa n c,v= .slice oa n c/\xs.length=n/\n<=c/\c<=maxLen /\
  ∀i x,xs[i]? =some x->∃b o cs,oa=some ⟨b,o,none⟩/\¬O b/\rowAt h b (o+i*e.sz) cs/\e.R h O cs x
theorem bF.mv {α:Type}{e:fF α}{h h':au}{O O':Nat->Prop}{v:Value}{xs:List α}(k:bF e h O v xs) (m:Mv O O' h h'):bF e h' O' v xs:=by
 obtain⟨oa,n,c,hv,hl,hnc,hc,k⟩:=k;refine⟨oa,n,c,hv,hl,hnc,hc,fun i x hx=>?_⟩;obtain⟨b,o,cs,h1,h2,h3,h4⟩:=k i x hx;have hne:cs≠[]:=by intro e0;have:=e.len h4;have:=e.pos;subst e0;simp at *;omega
 exact⟨b,o,cs,h1,(m.block b (dz h3 hne) h2).2,m.rowAt h2 h3,e.mv h4 m⟩
structure Sl {α:Type}(e:fF α) (h:au) (O:Nat->Prop) (oa:Option Addr) (n c:Nat) (xs:List α):Prop where
 len:xs.length=n
 le:n<=c
 cap:c<=maxLen
 get:∀i x,xs[i]? =some x->∃b o cs,oa=some ⟨b,o,none⟩/\¬O b/\rowAt h b (o+i*e.sz) cs/\e.R h O cs x
theorem bF.open {e:fF α}{xs:List α}(k:bF e h O v xs):∃oa n c,v= .slice oa n c/\Sl e h O oa n c xs:=by
 obtain⟨oa,n,c,hv,hl,hnc,hc,k⟩:=k;exact⟨oa,n,c,hv,hl,hnc,hc,k⟩
theorem Sl.shut {e:fF α}{xs:List α}(k:Sl e h O oa n c xs):bF e h O (.slice oa n c) xs:=⟨oa,n,c,rfl,k.len,k.le,k.cap,k.get⟩
theorem Sl.mv {α:Type}{e:fF α}{h h':au}{O O':Nat->Prop}{oa:Option Addr}{n c:Nat}{xs:List α}(k:Sl e h O oa n c xs) (m:Mv O O' h h'):Sl e h' O' oa n c xs:=by
 obtain⟨oa',n',c',hv,k'⟩:=(k.shut.mv m).open;cases hv;exact k'
theorem Sl.at {enc:α->Value} {h1:∀x,(enc x).oneCell'=true}{xs:List α}(k:Sl (.flat enc h1) h O oa n c xs){i:Nat}(hi:i<n) :
 ∃b o x,oa=some ⟨b,o,none⟩/\¬O b/\xs[i]? =some x/\cellAt h ⟨b,o+i*1,none⟩=some (enc x):=by
 have hl:i<xs.length:=by rw[k.len];exact hi
 obtain⟨b,o,cs,ha,ho,hr,hR⟩:=k.get i xs[i] (List.getElem?_eq_getElem hl);refine⟨b,o,xs[i],ha,ho,List.getElem?_eq_getElem hl,?_⟩;have hcs:cs=[enc xs[i]]:=hR;subst hcs;have:=hr 0 _ rfl;simpa [fF.flat] using this
theorem aC.shut {enc:α->Value} {h1:∀x,(enc x).oneCell'=true}{xs:List α}(k:aC h base t 1 v n (xs.map enc)) (ho:∀b,base<=b->¬O b):bF (.flat enc h1) h O v xs:=by
 have hl:xs.length=n:=by have:=k.1;simpa using this
 rcases k.2 with ⟨rfl,rfl⟩|⟨g,cap,cur,rfl,hb,hg,hnc,hc,hs,ht⟩
 · exact⟨none,0,0,rfl,hl,Nat.le_refl _,by simp[maxLen],fun i x hx=>by
    have:xs=[]:=List.eq_nil_of_length_eq_zero hl;subst this;simp at hx⟩
 · refine⟨some ⟨g,0,none⟩,n,cap,rfl,hl,hnc,hc,fun i x hx=>⟨g,0,[enc x],rfl,ho g hb,?_,rfl⟩⟩;intro j u hj;have hj0:j=0:=by cases j with|zero=>rfl|succ j=>simp at hj
   subst hj0;simp at hj;subst hj
   have hi:i<n:=by
    rcases Nat.lt_or_ge i n with h|h
    · exact h
    · rw[List.getElem?_eq_none (by omega)] at hx;cases hx
   have h2:(cur.toList.take (n*1))[i]? =some (enc x):=by rw[ht];simp[hx]
   rw[List.getElem?_take,if_pos (by omega)] at h2;simpa [cellAt,hg,fF.flat] using h2
theorem aK {ρ:Env}{i:Nat}{b b':Bool}(h:ρ.at i=some (.bool b)) (e:b=b'):ρ.at i=some (.bool b'):=by rw[h,e]
theorem Ext.old (e:Ext (fun b=>h.size<=b) h h'){a:Addr}(k:cellAt h a=some v):cellAt h' a=some v:=e.cell (Nat.not_le.2 (cL k)) k
theorem Ext.FG (e:Ext (fun b=>h.size<=b) h h') (k:Lw.rowAt h b o cs):Lw.rowAt h' b o cs:=fun j v hv=>e.old (k j v hv)
theorem gP (e:Ext (cC none) h h'):av h h':=e.mono fun _ _ k=>by cases k
structure Ow (h:au) (base:Nat) (t:TypeId) (size:Nat) (oa:Option Addr) (n c:Nat) (xs:List Value):Prop where
 own:aC h base t size (.slice oa n c) n xs
 len:xs.length=n*size
 le:n<=c
 cap:c<=maxLen
theorem aC.open (k:aC h base t size v n xs):∃oa c,v= .slice oa n c/\Ow h base t size oa n c xs:=by
 rcases k.2 with ⟨rfl,rfl⟩|⟨g,cap,cur,rfl,hb,hg,hnc,hc,rest⟩
 · exact⟨none,0,rfl,k,k.1,Nat.le_refl _,by simp[maxLen]⟩
 · exact⟨_,cap,rfl,k,k.1,hnc,hc⟩
theorem Ow.blk (k:Ow h base t size oa n c xs) (hn:0<n) :
 ∃g cur,oa=some ⟨g,0,none⟩/\base<=g/\g<h.size/\h[g]? =some (.cells cur t (0,0))/\cur.size=c*size/\cur.toList.take (n*size)=xs:=by
 rcases k.own.2 with ⟨_,h0⟩|⟨g,cap,cur,hv,hb,hg,hnc,hc,hs,ht⟩
 · omega
 · cases hv;exact⟨g,cur,rfl,hb,(Array.getElem?_eq_some_iff.1 hg).1,hg,hs,ht⟩
theorem Ow.at {h:au}{base:Nat}{t:TypeId}{oa:Option Addr}{n c:Nat}{xs:List Value}(k:Ow h base t 1 oa n c xs){i:Nat}{x:Value}(hx:xs[i]? =some x) :
 ∃g,oa=some ⟨g,0,none⟩/\base<=g/\g<h.size/\cellAt h ⟨g,0+i*1,none⟩=some x/\frozenAt h ⟨g,0+i*1,none⟩=false:=by
 have hi:i<n:=by
  rcases Nat.lt_or_ge i n with h1|h1
  · exact h1
  · rw[List.getElem?_eq_none (by have:=k.len;omega)] at hx;cases hx
 obtain⟨g,cur,ha,hb,hlt,hg,hs,ht⟩:=k.blk (by omega);refine⟨g,ha,hb,hlt,?_,by simp[frozenAt,hg]⟩;have h2:(cur.toList.take (n*1))[i]? =some x:=by rw[ht];exact hx
 rw[List.getElem?_take,if_pos (by omega)] at h2;simpa [cellAt,hg] using h2
theorem Ow.row (k:Ow h base t size oa n c xs):n=0\/∃b o,oa=some ⟨b,o,none⟩/\rowAt h b o xs:=by
 rcases Nat.eq_zero_or_pos n with h0|h0
 · exact .inl h0
 · obtain⟨g,cur,ha,hb,hlt,hg,hs,ht⟩:=k.blk h0;refine .inr ⟨g,0,ha,fun j v hv=>?_⟩;rw[<-ht,List.getElem?_take] at hv;split at hv
   · simpa [cellAt,hg] using hv
   · cases hv
theorem Sl.part {e:fF α}{xs:List α}(k:Sl e h O oa n c xs){i j:Nat}(hij:i<=j) (hj:j<=n):Sl e h O (bQ oa i e.sz c) (j-i) (c-i) ((xs.take j).drop i):=by
 have hl:=k.len;have hle:=k.le;have hc:=k.cap;refine⟨by simp;omega,by omega,by omega,fun m x hx=>?_⟩
 have hm:m<((xs.take j).drop i).length:=by
  rcases Nat.lt_or_ge m ((xs.take j).drop i).length with h1|h1
  · exact h1
  · rw[List.getElem?_eq_none h1] at hx;cases hx
 simp at hm;rw[List.getElem?_drop,List.getElem?_take,if_pos (by omega)] at hx;obtain⟨b,o,cs,ha,ho,hr,hR⟩:=k.get (i+m) x hx;refine⟨b,o+i*e.sz,cs,?_,ho,?_,hR⟩
 · unfold bQ;rw[if_neg (by omega),ha];simp[Addr.add_mid]
 · rw[Nat.add_assoc,<-Nat.add_mul];exact hr
theorem Sl.row {enc:α->Value} {h1:∀x,(enc x).oneCell'=true}{xs:List α}(k:Sl (.flat enc h1) h O oa n c xs):n=0\/∃b o,oa=some ⟨b,o,none⟩/\rowAt h b o (xs.map enc):=by
 rcases Nat.eq_zero_or_pos n with h0|h0
 · exact .inl h0
 · obtain⟨b,o,x,ha,_,_,_⟩:=k.at h0;refine .inr ⟨b,o,ha,fun j v hv=>?_⟩
   have hj:j<n:=by
    rcases Nat.lt_or_ge j n with h2|h2
    · exact h2
    · rw[List.getElem?_eq_none (by simpa [k.len] using h2)] at hv;cases hv
   obtain⟨b',o',x',ha',_,hx',hc'⟩:=k.at hj;rw[ha] at ha';cases ha';rw[List.getElem?_map,hx'] at hv;cases hv;simpa using hc'
theorem Ow.set {h:au}{base:Nat}{t:TypeId}{oa:Option Addr}{n c:Nat}{xs:List Value}(k:Ow h base t 1 oa n c xs){g i:Nat}(ha:oa=some ⟨g,0,none⟩) (hi:i<n) (u:Value) :
 Ow (dP h ⟨g,0+i*1,none⟩ u) base t 1 oa n c (xs.set i u):=by
 obtain⟨g',cur,ha',hb,hlt,hg,hs,ht⟩:=k.blk (by omega);rw[ha] at ha';cases ha';refine⟨⟨by simp[k.len],.inr ⟨g,c,cur.setIfInBounds (0+i*1) u,by rw[ha],hb,q9 hg u,k.le,k.cap,by simpa using hs,?_⟩⟩,by simp[k.len],k.le,k.cap⟩;rw[<-ht];simp[List.take_set]
theorem Ow.take {h:au}{base:Nat}{t:TypeId}{size:Nat}{oa:Option Addr}{n c:Nat}{xs:List Value}(k:Ow h base t size oa n c xs){m:Nat}(hm:m<=n) (sz:Nat) :
 aC h base t size (.slice (bQ oa 0 sz c) m c) m (xs.take (m*size)):=by
 have hp:bQ oa 0 sz c=oa:=by
  unfold bQ;split
  · rfl
  · cases oa<;>simp[Addr.add]
 rw[hp];refine⟨by rw[List.length_take,k.len];exact Nat.min_eq_left (Nat.mul_le_mul_right _ hm),?_⟩
 rcases k.own.2 with ⟨hv,h0⟩|⟨g,cap,cur,hv,hb,hg,hnc,hc,hs,ht⟩
 · cases hv;obtain rfl:m=0:=by omega
   exact .inl ⟨rfl,rfl⟩
 · cases hv;refine .inr ⟨g,c,cur,rfl,hb,hg,by omega,hc,hs,?_⟩;rw[<-ht,List.take_take,Nat.min_eq_left (Nat.mul_le_mul_right _ hm)]
theorem EJ (h:au) (us:List Value) (t:TypeId) (n:Nat) (hl:us.length=n) (hn:n<=maxLen) (base:Nat) (hb:base<=h.size) :
 aC (h.push (.cells us.toArray t)) base t 1 (.slice (some ⟨h.size,0,none⟩) n n) n us :=
 ⟨by simp[hl],.inr ⟨h.size,n,us.toArray,rfl,hb,by simp,Nat.le_refl _,hn,by simp[hl],by simp[<-hl]⟩⟩
theorem bF.nil (e:fF α) (h:au) (O:Nat->Prop):bF e h O (.slice none 0 0) [] :=
 ⟨none,0,0,rfl,rfl,Nat.le_refl _,by simp[maxLen],fun i x hx=>by simp at hx⟩
theorem bF.aq {α:Type}{e:fF α}{h h':au}{O:Nat->Prop}{v:Value}{xs:List α}(k:bF e h O v xs) (x:av h h'):bF e h' O v xs:=k.mv (Mv.aq x)
theorem aC.lt (k:aC h base t size v n xs) (hb:v.ownBlock=some b):base<=b/\b<h.size:=by
 rcases k.2 with ⟨rfl,_⟩|⟨g,cap,cur,rfl,hbg,hg,_⟩
 · simp[Value.ownBlock] at hb
 · simp[Value.ownBlock] at hb;subst hb;exact⟨hbg,(Array.getElem?_eq_some_iff.1 hg).1⟩
theorem Ext.own {h0:au}(e0:av h0 h) (k:aC h base t size v n xs) (hb:h0.size<=base) (e:Ext (cC v.ownBlock) h h'):av h0 h':=by
 refine⟨Nat.le_trans e0.size e.size,fun b hb' _=>?_⟩;rw[e.block b (Nat.lt_of_lt_of_le hb' e0.size) (fun hm=>by have:=(k.lt hm.symm).1;omega)];exact e0.block b hb' (fun k=>k)
def RQ (P:Program) (n:Nat) (ops:Array Oper) (i:Nat) (ρ:Env) (h:au) (N:Env->Prop):Prop :=
 ∀B a w,Fits n ρ a->At B h w->wpQuiet P ops (At B h) (fun a'=>∃ρ',Fits n ρ' a'/\N ρ') (ops.toList.drop i) a
section
variable {P:Program}{n:Nat}{ops:Array Oper}{i:Nat}{ρ:Env}{h:au}{N:Env->Prop}
theorem iJ {o:Oper}:∀{l:List Oper}{i:Nat},nth l i=some o->l.drop i=o::l.drop (i+1)
 | [],_,h=>by simp[nth] at h
 |a::l,0,h=>by simp[nth] at h;simp[h]
 |a::l,i+1,h=>by simpa using iJ (l:=l) (i:=i) (by simpa [nth] using h)
theorem RQ.an {o:Oper}(ho:nth ops.toList i=some o) (hw:bL ops ρ o=some true) (hod:o.dst=some d) (hd:Nat.blt d n=true) (k:ai P o ρ h v)
 (next:RQ P n ops (i+1) ((d,v)::ρ) h N):RQ P n ops i ρ h N:=by
 intro B a w hf ha;rw[iJ ho];simp only[wpQuiet];rw[cN hf hw,if_pos rfl];refine⟨v,fun w' hw'=>?_,?_⟩
 · unfold Oper.quietAt;rw[k n B a w' hf hw'];exact⟨rfl,rfl⟩
 · have:=next B (a.put o.dst v) w (by rw[hod];exact hf.put (dst:=some d) hd v) ha
   exact this
theorem RQ.Nc {o:Oper}{f:FuncId}{xs:Array Operand}{ts:Array TypeId}{vs:List Value}{fn:Func}(ho:nth ops.toList i=some o) (hop:o.op= .call ⟨.value (.func f),xs,ts⟩) (hw:bL ops ρ o=some true) (hod:o.dst=some d) (hd:Nat.blt d n=true)
 (hfn:P.funcs[f]? =some fn) (hb:fn.body.isSome=true) (hnm:(fn.name == "runtime.NumGoroutine")=false) (hvs:xs.toList.map (bE ρ)=vs.map some)
 (k:af P f vs.toArray h (bC fun u h'=>u=v/\h'=h))
 (next:RQ P n ops (i+1) ((d,v)::ρ) h N):RQ P n ops i ρ h N:=by
 intro B a w hf ha;rw[iJ ho];simp only[wpQuiet];rw[cN hf hw,if_pos rfl];refine⟨v,fun w' hw'=>?_,?_⟩
 · have hargs:xs.map a.eval=vs.toArray:=by
    apply Array.ext'
    simp only[Array.toList_map]
    have:∀(l:List Operand) (us:List Value),l.map (bE ρ)=us.map some->l.map a.eval=us:=by
     intro l
     induction l with
     |nil=>intro us hu;cases us<;>simp_all
     |cons x r ih =>
      intro us hu;cases us with
      |nil=>simp at hu
      |cons u us =>
       simp only[List.map_cons,List.cons.injEq] at hu ⊢;exact⟨hf.eval hu.1,ih us hu.2⟩
    exact this _ _ hvs
   have hrun:(execOp a.eval o).run P w'= .ok (.enter f vs.toArray) w':=by
    have hb':fn.body≠none:=by intro hbb;simp[hbb] at hb
    have hnm':¬fn.name= "runtime.NumGoroutine" :=by simpa using hnm
    simp[execOp,hop,resolve,Act.eval,Deferred.ofValue,invoke,callFunc,hfn,hnm',hb',hargs]
   unfold Oper.quietAt;rw[hrun];refine⟨rfl,(k B w' hw').mono ?_⟩;rintro e w'' ⟨h',ha',u,he,hu,hh⟩;subst he;subst hu;subst hh;exact⟨rfl,ha'⟩
 · have:=next B (a.put o.dst v) w (by rw[hod];exact hf.put (dst:=some d) hd v) ha
   exact this
theorem RQ.bD {o:Oper}(ho:nth ops.toList i=some o) (hw:bL ops ρ o=some false) (hod:o.dst=some d) (hd:Nat.blt d n=true)
 (next:RQ P n ops (i+1) ((d,undef)::ρ) h N):RQ P n ops i ρ h N:=by
 intro B a w hf ha;rw[iJ ho];simp only[wpQuiet];rw[cN hf hw,if_neg (by simp)];exact next B (a.put o.dst undef) w (by rw[hod];exact hf.put (dst:=some d) hd undef) ha
theorem RQ.done (hi:Nat.ble ops.size i=true) (next:N ρ):RQ P n ops i ρ h N:=by
 intro B a w hf ha;have:ops.size<=i:=Nat.le_of_ble_eq_true hi;rw[List.drop_eq_nil_of_le (by simpa using this)];exact⟨ρ,hf,next⟩
theorem tN {d:Nat}{b:Bool}(hb:ρ.at d=some (.bool b)) (ht:b=true->RQ P n ops i ((d,.bool true)::ρ) h N) (hn:b=false->RQ P n ops i ((d,.bool false)::ρ) h N):RQ P n ops i ρ h N:=by
 have key:∀a,Fits n ρ a->Fits n ((d,.bool b)::ρ) a:=fun a hf=>⟨hf.size,fun j v hv=>by
  rw[Env.iK] at hv;split at hv
  · rename_i e;subst e;cases hv;exact hf.ok d _ hb
  · exact hf.ok j v hv,hf.nd⟩
 cases b with
 |true=>exact fun B a w hf ha=>ht rfl B a w (key a hf) ha
 |false=>exact fun B a w hf ha=>hn rfl B a w (key a hf) ha
theorem RQ.b7 {b b':Bool}(hb:ρ.at d=some (.bool b)) (e:b=b') (next:RQ P n ops i ((d,.bool b')::ρ) h N):RQ P n ops i ρ h N:=by
 subst e;refine tN hb (fun e=>?_) (fun e=>?_)<;>(subst e;exact next)
end
section
variable {P:Program}{f:FuncId}{fn:Func}{k:List It}{ρ:Env}{h:au}{R:Ending->au->Prop}{p:List Nat}
theorem G.gG (hfn:P.funcs[f]? =some fn) (hm:P.follows .mixedOrders=true) (hk:kind (Lw.sub (aG fn) p)=6) (hB:Region.lexB .any (opsOf (Lw.sub (aG fn) p))=true)
 (next:RQ P fn.ntmps (opsOf (Lw.sub (aG fn) p)) 0 ρ h (fun ρ'=>G P f fn k ρ' h R)):G P f fn (.code p::k) ρ h R:=by
 refine qz (fun B a w hf ha=>?_) hfn;cases hc:Lw.sub (aG fn) p<;>simp[hc,kind] at hk;rename_i id ops d;cases d with
 |false=>simp at hk
 |true =>
  rw[hc] at next hB
  refine wp_region_quiet (C:=At B h) hm hB ha.drew ?_;have h1:=next B a w hf ha
  simp only[opsOf,List.drop_zero] at h1
  have hmono:∀(l:List Oper) (a:Act),wpQuiet P ops (At B h) (fun a'=>∃ρ',Fits fn.ntmps ρ' a'/\G P f fn k ρ' h R) l a ->
   wpQuiet P ops (At B h) (fun a'=>∀w',At B h w'->(∃ρ' h',Fits fn.ntmps ρ' a'/\At B h' w'/\G P f fn k ρ' h' R)) l a:=by
   intro l
   induction l with
   |nil=>exact fun a ⟨ρ',hf',hg⟩ w' ha'=>⟨ρ',h,hf',ha',hg⟩
   |cons o r ih =>
    intro a hq;simp only[wpQuiet] at hq ⊢
    by_cases hw:Region.wanted o (yielded ops a.tmps)=true
    · rw[if_pos hw] at hq ⊢;obtain⟨v,h2,h3⟩:=hq;exact⟨v,h2,ih _ h3⟩
    · rw[if_neg hw] at hq ⊢;exact ih _ hq
  exact hmono _ _ h1
theorem RQ.mono {ops:Array Oper}{i:Nat}{N N':Env->Prop}(k:RQ P n ops i ρ h N) (hm:∀ρ,N ρ->N' ρ):RQ P n ops i ρ h N':=by
 intro B a w hf ha
 have hmono:∀(l:List Oper) (a:Act),wpQuiet P ops (At B h) (fun a'=>∃ρ',Fits n ρ' a'/\N ρ') l a->wpQuiet P ops (At B h) (fun a'=>∃ρ',Fits n ρ' a'/\N' ρ') l a:=by
  intro l
  induction l with
  |nil=>exact fun a ⟨ρ',hf',hg⟩=>⟨ρ',hf',hm _ hg⟩
  |cons o r ih =>
   intro a hq;simp only[wpQuiet] at hq ⊢
   by_cases hw:Region.wanted o (yielded ops a.tmps)=true
   · rw[if_pos hw] at hq ⊢;obtain⟨v,h2,h3⟩:=hq;exact⟨v,h2,ih _ h3⟩
   · rw[if_neg hw] at hq ⊢;exact ih _ hq
 exact hmono _ _ (k B a w hf ha)
theorem G.lf (new keep:Env) (_:Sub keep ρ) (hfn:P.funcs[f]? =some fn) (hm:P.follows .mixedOrders=true) (hk:kind (Lw.sub (aG fn) p)=6) (hB:Region.lexB .any (opsOf (Lw.sub (aG fn) p))=true)
 (bB:RQ P fn.ntmps (opsOf (Lw.sub (aG fn) p)) 0 ρ h (fun ρ'=>h=h/\Sub (new++keep) ρ'))
 (next:G P f fn k (new++keep) h R):G P f fn (.code p::k) ρ h R :=
 G.gG hfn hm hk hB (bB.mono fun _ hs=>G.sub hs.2 next)
end
end
end Go.Lw
