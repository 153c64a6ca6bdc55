/- What the proof of the statement leans on (part 3). -/
import Derived.Laws.AppendOwn
import Derived.Deep.MidRow
import Derived.Laws.MakeOwn
import Derived.IntWalk
import Derived.Laws.Strings
import Derived.Test.YtckomlgchbkekaaGreatDoorQb

namespace Go.Lw
section
variable {t e yt:TypeId}{n b c d o sz base size:Nat}{x y lo hi:Operand}{v:Value}{oa:Option Addr}{s:ByteArray}{i j il jl:Int}{k k':IntKind}{cs xs:List Value}{M O:Nat->Prop}{h h':ai}{w:World}{a:Addr}{α:Type}
def bE (P:Program) (t:TypeId):Option Nat:=(P.info? t).map (·.size)
theorem run_sizeOf {P:Program}(h:bE P t=some n) (w:World):(sizeOf t).run P w= .ok n w:=by
 unfold bE at h;cases hi:P.info? t with
 |none=>simp[hi] at h
 |some i=>simp[hi] at h;simp[sizeOf,typeInfo,hi,h]
def aJ (P:Program) (t:TypeId):Option Bool:=(P.underlying t).map TypeDesc.isRow
theorem fY {P:Program}{b:Bool}(h:aJ P t=some b) (w:World):(isAgg t).run P w= .ok b w:=by
 unfold aJ at h;cases hi:P.underlying t with
 |none=>simp[hi] at h
 |some d =>
  simp[hi] at h;subst h;unfold isAgg;rw[Sem.run_bind,run_underlying hi w];cases d<;>simp[TypeDesc.isRow]
section
variable {P:Program}{ρ:Env}{h:ai}{dst:Option Nat}{ty:TypeId}{pos:String}{after:Array Edge}{guard:Option (Nat×Bool)}
theorem aD {x:Operand}{v:Value}(hx:aT ρ x=some v):an P ⟨dst,.move x,ty,pos,after,guard⟩ ρ h v:=by
 intro n B a w hf _;simp[execOp,hf.eval hx]
theorem an.assign {x:Operand}{v:Value}(hx:aT ρ x=some v):an P ⟨dst,.assign x,ty,pos,after,guard⟩ ρ h v:=by
 intro n B a w hf _;simp[execOp,hf.eval hx]
theorem an.J0 {c:Operand}(hc:aT ρ c=some (.bool true)) (hx:aT ρ x=some v):an P ⟨dst,.pick c x y,ty,pos,after,guard⟩ ρ h v:=by
 intro n B a w hf _;simp[execOp,hf.eval hc,hf.eval hx,asBool]
theorem an.DK {c:Operand}(hc:aT ρ c=some (.bool false)) (hy:aT ρ y=some v):an P ⟨dst,.pick c x y,ty,pos,after,guard⟩ ρ h v:=by
 intro n B a w hf _;simp[execOp,hf.eval hc,hf.eval hy,asBool]
theorem an.extract {x:Operand}{vs:Array Value}{i:Nat}{v:Value}(hx:aT ρ x=some (.tuple vs)) (hi:vs[i]? =some v):an P ⟨dst,.extract x i,ty,pos,after,guard⟩ ρ h v:=by
 intro n B a w hf _;simp[execOp,hf.eval hx,Instr.extract,hi]
theorem bh {x:Operand}{a:Addr}(hx:aT ρ x=some (.pointer (some a))):an P ⟨dst,.nilCheck x,ty,pos,after,guard⟩ ρ h (.pointer (some a)):=by
 intro n B a w hf _;simp[execOp,hf.eval hx]
theorem an.gO (hu:P.underlying t=some (.slice e)) (hx:aT ρ x=some (.slice oa n c)) :
 an P ⟨dst,.call ⟨.builtin .len,#[x],#[t]⟩,ty,pos,after,guard⟩ ρ h (.int .i64 n):=by
 intro _ B a w hf _;simp[execOp,resolve,invoke,builtin,Builtin.len_,run_underlying hu,hf.eval hx,goInt]
theorem an.vZ (hu:P.underlying t=some .string) (hx:aT ρ x=some (.string s)) :
 an P ⟨dst,.call ⟨.builtin .len,#[x],#[t]⟩,ty,pos,after,guard⟩ ρ h (.int .i64 s.size):=by
 intro _ B a w hf _;simp[execOp,resolve,invoke,builtin,Builtin.len_,run_underlying hu,hf.eval hx,goInt]
theorem an.GR (hu:P.underlying t=some (.array n e)) (hx:aT ρ x=some v) :
 an P ⟨dst,.call ⟨.builtin .len,#[x],#[t]⟩,ty,pos,after,guard⟩ ρ h (.int .i64 n):=by
 intro _ B a w hf _;simp[execOp,resolve,invoke,builtin,Builtin.len_,run_underlying hu,hf.eval hx,goInt]
theorem an.min2 {x y:Operand}{k k':IntKind}{i j:Int}{ts:Array TypeId}(hx:aT ρ x=some (.int k i)) (hy:aT ρ y=some (.int k' j)) :
 an P ⟨dst,.call ⟨.builtin .min,#[x,y],ts⟩,ty,pos,after,guard⟩ ρ h (.int k (if j<i then j else i)):=by
 intro _ B a w hf _;simp[execOp,resolve,invoke,builtin,Builtin.min_,Builtin.min2,hf.eval hx,hf.eval hy]
theorem an.max2 {x y:Operand}{k k':IntKind}{i j:Int}{ts:Array TypeId}(hx:aT ρ x=some (.int k i)) (hy:aT ρ y=some (.int k' j)) :
 an P ⟨dst,.call ⟨.builtin .max,#[x,y],ts⟩,ty,pos,after,guard⟩ ρ h (.int k (if i<j then j else i)):=by
 intro _ B a w hf _;simp[execOp,resolve,invoke,builtin,Builtin.max_,Builtin.max2,hf.eval hx,hf.eval hy]
theorem zi (i j:Int):(i ==j)=decide (i=j):=by
 rw[Bool.eq_iff_iff];simp
theorem wrap_i64 (hi : -9223372036854775808<=i/\i<=9223372036854775807):IntKind.i64.wrap i=i:=by
 have h64:(2:Int) ^ 64=18446744073709551616:=rfl;have h63:(2:Int) ^ (64-1)=9223372036854775808:=rfl;simp only[IntKind.wrap,IntKind.bits,IntKind.signed,h64,h63,Bool.true_and,decide_eq_true_eq];split<;>omega
theorem an.add {t yt:TypeId}{x y:Operand}{k:IntKind}{i j:Int}(hx:aT ρ x=some (.int k i)) (hy:aT ρ y=some (.int k j)) :
 an P ⟨dst,.binOp .add t x y yt,ty,pos,after,guard⟩ ρ h (.int k (k.wrap (i+j))):=by
 intro _ B a w hf _;simp[execOp,eqGuard,binOp,Op.intArith,hf.eval hx,hf.eval hy]
theorem an.sub {t yt:TypeId}{x y:Operand}{k:IntKind}{i j:Int}(hx:aT ρ x=some (.int k i)) (hy:aT ρ y=some (.int k j)) :
 an P ⟨dst,.binOp .sub t x y yt,ty,pos,after,guard⟩ ρ h (.int k (k.wrap (i-j))):=by
 intro _ B a w hf _;simp[execOp,eqGuard,binOp,Op.intArith,hf.eval hx,hf.eval hy]
theorem Eg {t yt:TypeId}{x y:Operand}{k:IntKind}{i j:Int}(hx:aT ρ x=some (.int k i)) (hy:aT ρ y=some (.int k j)) :
 an P ⟨dst,.binOp .mul t x y yt,ty,pos,after,guard⟩ ρ h (.int k (k.wrap (i*j))):=by
 intro _ B a w hf _;simp[execOp,eqGuard,binOp,Op.intArith,hf.eval hx,hf.eval hy]
theorem an.dZ (hx:aT ρ x=some (.int .i64 i)) (hy:aT ρ y=some (.int .i64 j)) (hb : -9223372036854775808<=i+j/\i+j<=9223372036854775807) :
 an P ⟨dst,.binOp .add t x y yt,ty,pos,after,guard⟩ ρ h (.int .i64 (i+j)):=by
 have:=an.add (P:=P) (h:=h) (dst:=dst) (ty:=ty) (pos:=pos) (after:=after) (guard:=guard) (t:=t) (yt:=yt) hx hy
 rwa [wrap_i64 hb] at this
theorem an.pQ (hx:aT ρ x=some (.int .i64 i)) (hy:aT ρ y=some (.int .i64 j)) (hb : -9223372036854775808<=i-j/\i-j<=9223372036854775807) :
 an P ⟨dst,.binOp .sub t x y yt,ty,pos,after,guard⟩ ρ h (.int .i64 (i-j)):=by
 have:=an.sub (P:=P) (h:=h) (dst:=dst) (ty:=ty) (pos:=pos) (after:=after) (guard:=guard) (t:=t) (yt:=yt) hx hy
 rwa [wrap_i64 hb] at this
theorem an.dK (hx:aT ρ x=some (.int .i64 i)) (hy:aT ρ y=some (.int .i64 j)) (hb : -9223372036854775808<=i*j/\i*j<=9223372036854775807) :
 an P ⟨dst,.binOp .mul t x y yt,ty,pos,after,guard⟩ ρ h (.int .i64 (i*j)):=by
 have:=Eg (P:=P) (h:=h) (dst:=dst) (ty:=ty) (pos:=pos) (after:=after) (guard:=guard) (t:=t) (yt:=yt) hx hy
 rwa [wrap_i64 hb] at this
theorem dh {t yt:TypeId}{x y:Operand}{k:IntKind}{i j:Int}(hx:aT ρ x=some (.int k i)) (hy:aT ρ y=some (.int k j)) (hj:j≠0) :
 an P ⟨dst,.binOp .quo t x y yt,ty,pos,after,guard⟩ ρ h (.int k (k.wrap (i.tdiv j))):=by
 intro _ B a w hf _;simp[execOp,eqGuard,binOp,Op.intDiv,hf.eval hx,hf.eval hy,hj]
theorem cI {t yt:TypeId}{x y:Operand}{k:IntKind}{i j:Int}(hx:aT ρ x=some (.int k i)) (hy:aT ρ y=some (.int k j)) (hj:j≠0) :
 an P ⟨dst,.binOp .rem t x y yt,ty,pos,after,guard⟩ ρ h (.int k (i.tmod j)):=by
 intro _ B a w hf _;simp[execOp,eqGuard,binOp,Op.intDiv,hf.eval hx,hf.eval hy,hj]
theorem zu {t yt:TypeId}{x y:Operand}{k:IntKind}{i j:Int}(hx:aT ρ x=some (.int k i)) (hy:aT ρ y=some (.int k j)) :
 an P ⟨dst,.binOp .lss t x y yt,ty,pos,after,guard⟩ ρ h (.bool (decide (i<j))):=by
 intro _ B a w hf _;simp[execOp,eqGuard,binOp,Op.intCmp,hf.eval hx,hf.eval hy]
theorem Jt {t yt:TypeId}{x y:Operand}{k:IntKind}{i j:Int}(hx:aT ρ x=some (.int k i)) (hy:aT ρ y=some (.int k j)) :
 an P ⟨dst,.binOp .leq t x y yt,ty,pos,after,guard⟩ ρ h (.bool (decide (i<=j))):=by
 intro _ B a w hf _;simp[execOp,eqGuard,binOp,Op.intCmp,hf.eval hx,hf.eval hy]
theorem ri {t yt:TypeId}{x y:Operand}{k:IntKind}{i j:Int}(hx:aT ρ x=some (.int k i)) (hy:aT ρ y=some (.int k j)) :
 an P ⟨dst,.binOp .gtr t x y yt,ty,pos,after,guard⟩ ρ h (.bool (decide (j<i))):=by
 intro _ B a w hf _;simp[execOp,eqGuard,binOp,Op.intCmp,hf.eval hx,hf.eval hy]
theorem Ju {t yt:TypeId}{x y:Operand}{k:IntKind}{i j:Int}(hx:aT ρ x=some (.int k i)) (hy:aT ρ y=some (.int k j)) :
 an P ⟨dst,.binOp .geq t x y yt,ty,pos,after,guard⟩ ρ h (.bool (decide (j<=i))):=by
 intro _ B a w hf _;simp[execOp,eqGuard,binOp,Op.intCmp,hf.eval hx,hf.eval hy]
theorem an.Hp (hx:aT ρ x=some (.int k i)) (hy:aT ρ y=some (.int k j)) :
 an P ⟨dst,.binOp .eql t x y yt,ty,pos,after,guard⟩ ρ h (.bool (decide (i=j))):=by
 intro _ B a w hf _;simp[execOp,eqGuard,binOp,Op.intCmp,hf.eval hx,hf.eval hy,zi]
theorem an.KW (hx:aT ρ x=some (.int k i)) (hy:aT ρ y=some (.int k j)) :
 an P ⟨dst,.binOp .neq t x y yt,ty,pos,after,guard⟩ ρ h (.bool (decide (¬i=j))):=by
 intro _ B a w hf _;simp[execOp,eqGuard,binOp,Op.intCmp,hf.eval hx,hf.eval hy,bne,zi]
theorem an.se {b:Bool}(hx:aT ρ x=some (.bool b)) :
 an P ⟨dst,.unOp .not t x,ty,pos,after,guard⟩ ρ h (.bool (!b)):=by
 intro _ B a w hf _;simp[execOp,Op.unary,hf.eval hx]
theorem an.D4 {s d:TypeId}{ds:TypeDesc}(hds:P.underlying s=some ds) (hd:P.underlying d=some (.int k')) (hx:aT ρ x=some (.int k i)) :
 an P ⟨dst,.convert s d x,ty,pos,after,guard⟩ ρ h (.int k' (k'.wrap i)):=by
 intro _ B a w hf _;simp[execOp,convert,run_underlying hd,run_underlying hds,Conv.intToInt,hf.eval hx]
theorem an.Hx {s d:TypeId}{ds:TypeDesc}(hds:P.underlying s=some ds) (hd:P.underlying d=some (.int k')) (hx:aT ρ x=some (.int k i)) (hw:k'.wrap i=i) :
 an P ⟨dst,.convert s d x,ty,pos,after,guard⟩ ρ h (.int k' i):=by
 have:=an.D4 (P:=P) (h:=h) (dst:=dst) (ty:=ty) (pos:=pos) (after:=after) (guard:=guard) hds hd hx
 rwa [hw] at this
theorem toList_eq (x y:ByteArray):(x.toList ==y.toList)=decide (x=y):=by
 rw[Bool.eq_iff_iff];simp only[beq_iff_eq,decide_eq_true_eq];constructor
 · intro hxy;rw[ByteArray.toList_eq,ByteArray.toList_eq] at hxy;cases x;cases y;simpa using hxy
 · rintro rfl;rfl
theorem an.Lb {i j:ByteArray}(hx:aT ρ x=some (.string i)) (hy:aT ρ y=some (.string j)) :
 an P ⟨dst,.binOp .eql t x y yt,ty,pos,after,guard⟩ ρ h (.bool (decide (i=j))):=by
 intro _ B a w hf _;simp[execOp,eqGuard,binOp,Op.stringOp,hf.eval hx,hf.eval hy,toList_eq]
theorem an.su {i j:ByteArray}(hx:aT ρ x=some (.string i)) (hy:aT ρ y=some (.string j)) :
 an P ⟨dst,.binOp .neq t x y yt,ty,pos,after,guard⟩ ρ h (.bool (decide (¬i=j))):=by
 intro _ B a w hf _;simp[execOp,eqGuard,binOp,Op.stringOp,hf.eval hx,hf.eval hy,toList_eq]
theorem an.bL {i j:ByteArray}(hx:aT ρ x=some (.string i)) (hy:aT ρ y=some (.string j)) (hb:i.size+j.size<=9223372036854775807) :
 an P ⟨dst,.binOp .add t x y yt,ty,pos,after,guard⟩ ρ h (.string (i++j)):=by
 intro _ B a w hf _;have:¬((9223372036854775807:Int)<(i.size+j.size:Nat)):=by omega
 simp[execOp,eqGuard,binOp,Op.stringOp,hf.eval hx,hf.eval hy,IntKind.max,IntKind.signed,IntKind.bits];omega
theorem an.sU {b:UInt8}(hu:P.underlying t=some .string) (hx:aT ρ x=some (.string s)) (hy:aT ρ y=some (.int k j)) (i:Nat) (hj:j=i) (hb:s.data[i]? =some b) :
 an P ⟨dst,.index t x y,ty,pos,after,guard⟩ ρ h (.int .u8 b.toNat):=by
 intro _ B a w hf _;subst hj
 have h1:s[i]? =some b:=by
  obtain⟨hlt,he⟩:=Array.getElem?_eq_some_iff.1 hb;rw[getElem?_pos s i hlt];exact congrArg some he
 simp[execOp,Instr.index,run_underlying hu,asIntOf,hf.eval hx,hf.eval hy,h1]
theorem an.nk (hu:P.underlying t=some (.slice e)) (hs:bE P e=some sz)
 (hx:aT ρ x=some (.slice oa n c)) (hy:aT ρ y=some (.int k j)) (i:Nat) (hj:j=i) (ha:oa=some ⟨b,o,none⟩) (hi:i<n) :
 an P ⟨dst,.indexAddr t x y,ty,pos,after,guard⟩ ρ h (.pointer (some ⟨b,o+i*sz,none⟩)):=by
 intro _ B a' w hf _;subst ha;subst hj;simp[execOp,Instr.indexAt,run_underlying hu,asIntOf,hf.eval hx,hf.eval hy,run_sizeOf hs,hi,Addr.add_mid]
theorem an.G3 (hu:P.underlying t=some (.array n e)) (hs:bE P e=some sz)
 (hx:aT ρ x=some (.pointer (some ⟨b,o,none⟩))) (hy:aT ρ y=some (.int k j)) (i:Nat) (hj:j=i) (hi:i<n) :
 an P ⟨dst,.indexAddr t x y,ty,pos,after,guard⟩ ρ h (.pointer (some ⟨b,o+i*sz,none⟩)):=by
 intro _ B a' w hf _;subst hj;simp[execOp,Instr.indexAt,run_underlying hu,asIntOf,hf.eval hx,hf.eval hy,run_sizeOf hs,hi,Instr.sureAddr,Addr.add_mid]
theorem bn {t:TypeId}{x:Operand}{p:Addr}{v:Value}(hr:aJ P t=some false) (hx:aT ρ x=some (.pointer (some p))) (hc:cellAt h p=some v) :
 an P ⟨dst,.load t x,ty,pos,after,guard⟩ ρ h v:=by
 intro _ B a w hf ha;simp[execOp,Instr.loadAt,Instr.sureAddr,loadVar,fY hr,hf.eval hx,ha.cell,hc]
def rowAt (h:ai) (b o:Nat) (cs:List Value):Prop:=∀j v,cs[j]? =some v->cellAt h ⟨b,o+j,none⟩=some v
theorem an.IQ (hr:aJ P t=some true) (hs:bE P t=some cs.length) (hx:aT ρ x=some (.pointer (some ⟨b,o,none⟩))) (hc:rowAt h b o cs) :
 an P ⟨dst,.load t x,ty,pos,after,guard⟩ ρ h (.agg cs.toArray):=by
 intro _ B a w hf ha;unfold aJ at hr;cases hu:P.underlying t with
 |none=>simp[hu] at hr
 |some d =>
  simp[hu] at hr;have:=run_loadAt_mid (P:=P) w b o t cs d (fun j v hv=>by rw[ha.cell];exact hc j v hv) hu hr (by simpa [bE] using hs);simp only[execOp,hf.eval hx,Sem.run_bind,this,Result.andThen_ok,Sem.run_pure]
theorem aM {t:TypeId}{fs:Array Field}{fd:Field}{x:Operand}{i b o off:Nat}{k:Nat}(hu:P.underlying t=some (.struct fs)) (hfd:fs[i]? =some fd) (hoff:fd.offset=off) (hs:bE P fd.type=some (k+1)) (hx:aT ρ x=some (.pointer (some ⟨b,o,none⟩))) :
 an P ⟨dst,.fieldAddr t x i,ty,pos,after,guard⟩ ρ h (.pointer (some ⟨b,o+off,none⟩)):=by
 intro _ B a w hf _;simp[execOp,Instr.fieldAt,run_underlying hu,hfd,Instr.sureAddr,fieldPlace,run_sizeOf hs,hf.eval hx,hoff,Addr.add_mid]
theorem an.nN (hu:P.underlying t=some .string) (hx:aT ρ x=some (.string s)) (hl:aT ρ lo=some (.int k il)) (i:Nat) (hil:il=i) (hh:aT ρ hi=some (.int k' jl)) (j:Nat) (hjl:jl=j) (hij:i<=j) (hj:j<=s.size) :
 an P ⟨dst,.slice t x (some lo) (some hi) none,ty,pos,after,guard⟩ ρ h (.string (s.extract i j)):=by
 intro _ B a w hf _;subst hil;subst hjl;simp[execOp,Instr.sliceAt,Instr.slice,Instr.sliceBounds,Instr.sliceBound,run_underlying hu,asIntOf,hf.eval hx,hf.eval hl,hf.eval hh,hij,hj]
theorem an.dB (hu:P.underlying t=some .string) (hx:aT ρ x=some (.string s)) (hl:aT ρ lo=some (.int k il)) (i:Nat) (hil:il=i) (hij:i<=s.size) :
 an P ⟨dst,.slice t x (some lo) none none,ty,pos,after,guard⟩ ρ h (.string (s.extract i s.size)):=by
 intro _ B a w hf _;subst hil;simp[execOp,Instr.sliceAt,Instr.slice,Instr.sliceBounds,Instr.sliceBound,run_underlying hu,asIntOf,hf.eval hx,hf.eval hl,hij]
theorem an.jM (hu:P.underlying t=some .string) (hx:aT ρ x=some (.string s)) (hh:aT ρ hi=some (.int k jl)) (j:Nat) (hjl:jl=j) (hj:j<=s.size) :
 an P ⟨dst,.slice t x none (some hi) none,ty,pos,after,guard⟩ ρ h (.string (s.extract 0 j)):=by
 intro _ B a w hf _;subst hjl;simp[execOp,Instr.sliceAt,Instr.slice,Instr.sliceBounds,Instr.sliceBound,run_underlying hu,asIntOf,hf.eval hx,hf.eval hh,hj]
def aP (oa:Option Addr) (i sz m:Nat):Option Addr:=if m=i then oa else oa.map (·.add (i*sz))
theorem an.jN (hu:P.underlying t=some (.slice e)) (hs:bE P e=some sz) (hx:aT ρ x=some (.slice oa n c)) (hl:aT ρ lo=some (.int k il)) (i:Nat) (hil:il=i) (hh:aT ρ hi=some (.int k' jl)) (j:Nat) (hjl:jl=j) (hij:i<=j) (hj:j<=c) :
 an P ⟨dst,.slice t x (some lo) (some hi) none,ty,pos,after,guard⟩ ρ h (.slice (aP oa i sz c) (j-i) (c-i)):=by
 intro _ B a w hf _;subst hil;subst hjl;simp[execOp,Instr.sliceAt,Instr.slice,Instr.sliceBounds,Instr.sliceBound,run_underlying hu,asIntOf,hf.eval hx,hf.eval hl,hf.eval hh,hij,hj,run_sizeOf hs,aP]
theorem an.fI (hu:P.underlying t=some (.slice e)) (hs:bE P e=some sz) (hx:aT ρ x=some (.slice oa n c)) (hl:aT ρ lo=some (.int k il)) (i:Nat) (hil:il=i) (hij:i<=n) :
 an P ⟨dst,.slice t x (some lo) none none,ty,pos,after,guard⟩ ρ h (.slice (aP oa i sz c) (n-i) (c-i)):=by
 intro _ B a w hf _;subst hil;simp[execOp,Instr.sliceAt,Instr.slice,Instr.sliceBounds,Instr.sliceBound,run_underlying hu,asIntOf,hf.eval hx,hf.eval hl,hij,run_sizeOf hs,aP]
theorem an.ie (hu:P.underlying t=some (.slice e)) (hs:bE P e=some sz) (hx:aT ρ x=some (.slice oa n c)) (hh:aT ρ hi=some (.int k' jl)) (j:Nat) (hjl:jl=j) (hj:j<=c) :
 an P ⟨dst,.slice t x none (some hi) none,ty,pos,after,guard⟩ ρ h (.slice (aP oa 0 sz c) j c):=by
 intro _ B a w hf _;subst hjl;simp[execOp,Instr.sliceAt,Instr.slice,Instr.sliceBounds,Instr.sliceBound,run_underlying hu,asIntOf,hf.eval hx,hf.eval hh,hj,run_sizeOf hs,aP]
theorem bu {f:FuncId}{xs:Array Operand}{ts:Array TypeId}{vs:List Value}{fn:Func}{Φ:Value->ai->Prop}{X:List PanicEntry->ai->Prop}
 (hfn:P.funcs[f]? =some fn) (hb:fn.body.isSome=true) (hnm:(fn.name == "runtime.NumGoroutine")=false) (hvs:xs.toList.map (aT ρ)=vs.map some) (k:aj P f vs.toArray h (fun e h'=>match e with|.returned v=>Φ v h'|.panicked c=>X c h'|.outgrown=>False)) :
 aH P ⟨dst,.call ⟨.value (.func f),xs,ts⟩,ty,pos,after,guard⟩ ρ h Φ X:=by
 intro n B a w hf ha next Q hn hq
 have hargs:xs.map a.eval=vs.toArray:=by
  apply Array.ext'
  simp only[Array.toList_map]
  have:∀(l:List Operand) (us:List Value),l.map (aT ρ)=us.map some->l.map a.eval=us:=by
   intro l
   induction l with
   |nil=>intro us hu;cases us<;>simp_all
   |cons x r ih =>
    intro us hu;cases us with
    |nil=>simp at hu
    |cons u us =>
     simp only[List.map_cons,List.cons.injEq] at hu ⊢;exact⟨hf.eval hu.1,ih us hu.2⟩
  exact this _ _ hvs
 have hrun:(execOp a.eval ⟨dst,.call ⟨.value (.func f),xs,ts⟩,ty,pos,after,guard⟩).run P w= .ok (.enter f vs.toArray) w:=by
  have hb':fn.body≠none:=by intro hbb;simp[hbb] at hb
  have hnm':¬fn.name= "runtime.NumGoroutine" :=by simpa using hnm
  simp[execOp,resolve,Act.eval,Deferred.ofValue,invoke,callFunc,hfn,hnm',hb',hargs]
 unfold Oper.wp;rw[hrun];refine(k B w ha).mono fun e w' ⟨h',ha',hr⟩=>?_
 cases e with
 |returned v=>exact hn v h' w' ha' hr
 |panicked c=>exact hq c h' w' ha' hr
 |outgrown=>exact hr.elim
end
abbrev ah (h h':ai):Prop:=Ext (fun _=>False) h h'
theorem Ext.push (M:Nat->Prop) (h:ai) (o:Obj):Ext M h (h.push o) :=
 ⟨by simp,fun b hb _=>by simp[Array.getElem?_push,Nat.ne_of_lt hb]⟩
theorem ah.of (e:ah h h'):Ext M h h':=e.mono fun _ _ k=>k.elim
theorem Ext.rowAt {M:Nat->Prop}{h h':ai}(e:Ext M h h'){b o:Nat}{cs:List Value}(hm:¬M b) (k:rowAt h b o cs):rowAt h' b o cs :=
 fun j v hv=>e.cell hm (k j v hv)
theorem qF (h:ai) (cs:Array Value) (t:TypeId) (fr:Nat×Nat) (i:Nat) (v:Value) (hv:cs[i]? =some v):cellAt (h.push (.cells cs t fr)) ⟨h.size,i,none⟩=some v:=by
 simp[cellAt,hv]
def dD (h:ai) (a:Addr) (v:Value):ai :=
 h.modify a.block fun
  |.cells c elem frozen=>.cells (if a.spot.isSome then c else c.setIfInBounds a.off v) elem frozen
  |o=>o
theorem At.dD {B:World}{h:ai}{w:World}(k:At B h w) (a:Addr) (v:Value):At B (dD h a v) (w.setCell a v):=by
 refine⟨?_,k.os,k.tape,k.output⟩;rw[<-k.heap];rfl
theorem iz (h:ai) (a:Addr) (v:Value):(dD h a v).size=h.size:=by simp[dD]
theorem Ext.dD {M:Nat->Prop}(h:ai) (a:Addr) (v:Value) (hm:M a.block):Ext M h (dD h a v) :=
 ⟨by simp[iz],fun b _ hb=>by
  have hne:¬a.block=b:=fun e=>hb (e▸hm)
  unfold Lw.dD;rw[Array.getElem?_modify,if_neg hne]⟩
theorem rK {cs:Array Value}{fr:Nat×Nat}(hb:h[b]? =some (.cells cs t fr)) (v:Value):(dD h ⟨b,o,none⟩ v)[b]? =some (.cells (cs.setIfInBounds o v) t fr):=by
 simp[dD,Array.getElem?_modify,hb]
section
variable {P:Program}{ρ:Env}{h:ai}{dst:Option Nat}{ty:TypeId}{pos:String}{after:Array Edge}{guard:Option (Nat×Bool)}{X:List PanicEntry->ai->Prop}
theorem aH.sd {o:Oper}(k:∀n B a w,Fits n ρ a->At B h w->∃w',(execOp a.eval o).run P w= .ok (.value v) w'/\At B h' w'):aH P o ρ h (fun u g=>u=v/\g=h') X:=by
 intro n B a w hf ha next Q hn _
 obtain⟨w',hr,ha'⟩:=k n B a w hf ha;unfold Oper.wp;rw[hr];exact hn v h' w' ha' ⟨rfl,rfl⟩
theorem aH.box {t:TypeId}{x:Operand}{v:Value}(hx:aT ρ x=some v) :
 aH P ⟨dst,.box t x,ty,pos,after,guard⟩ ρ h (fun u g=>u= .pointer (some ⟨h.size,0,none⟩)/\g=h.push (.cells v.cells t)) X:=by
 refine aH.sd fun n B a w hf ha=>⟨{ w with heap:=w.heap.push (.cells v.cells t) },?_,?_⟩
 · simp[execOp,Instr.box,newVar,newRow,hf.eval hx,ha.heap]
 · rw[ha.heap];exact ha.nP _
theorem aH.alloc {t:TypeId}{z:Value}(hz:(P.info? t).bind (·.zero)=some z) :
 aH P ⟨dst,.alloc t,ty,pos,after,guard⟩ ρ h (fun u g=>u= .pointer (some ⟨h.size,0,none⟩)/\g=h.push (.cells z.cells t)) X:=by
 refine aH.sd fun n B a w hf ha=>⟨{ w with heap:=w.heap.push (.cells z.cells t) },?_,?_⟩
 · cases hi:P.info? t with
   |none=>simp[hi] at hz
   |some i =>
    simp[hi] at hz;have e:=ha.heap;subst e;simp[execOp,Instr.alloc,zeroValue,typeInfo,hi,hz,newVar,newRow]
 · rw[ha.heap];exact ha.nP _
theorem bW {t:TypeId}{x y:Operand}{p:Addr}{u v:Value}(hs:bE P t=some 1) (hx:aT ρ x=some (.pointer (some p))) (hy:aT ρ y=some v) (h1:v.oneCell'=true) (hc:cellAt h p=some u) (hfz:frozenAt h p=false) :
 aH P ⟨dst,.store t x y,ty,pos,after,guard⟩ ρ h (fun u g=>u=undef/\g=dD h p v) X:=by
 intro n B a w hf ha next Q hn _
 have hcells:v.cells= #[v]:=by cases v<;>simp[Value.oneCell'] at h1<;>rfl
 have hrun:(execOp a.eval ⟨dst,.store t x y,ty,pos,after,guard⟩).run P w= .ok .skip (w.setCell p v):=by
  simp[execOp,Instr.storeAt,Instr.sureAddr,storeVar,run_sizeOf hs,hf.eval hx,hf.eval hy,hcells,storeCells,run_store P w p v .plain h1,ha.cell,hc,ha.frozen,hfz,Addr.add]
 unfold Oper.wp;rw[hrun];exact hn undef _ _ (ha.dD p v) ⟨rfl,rfl⟩
end
def ay (h:ai) (base:Nat) (e:TypeId) (size:Nat) (v:Value) (n:Nat) (xs:List Value):Prop :=
 xs.length=n*size /\
 ((v= .slice none 0 0/\n=0) \/
  ∃g cap cur,v= .slice (some ⟨g,0,none⟩) n cap/\base<=g/\h[g]? =some (.cells cur e (0,0))/\n<=cap/\cap<=maxLen/\cur.size=cap*size/\cur.toList.take (n*size)=xs)
theorem At.own {B:World}(k:At B h w):w.ownsRow base e size v n xs↔ay h base e size v n xs:=by
 rw[<-k.heap];rfl
def b8 (r:Option Nat):Nat->Prop:=fun b=>some b=r
theorem ir {w':World}{r:Option Nat}(g:w.grownBy w' r):Ext (b8 r) w.heap w'.heap:=⟨g.size,fun b hb hm=>g.block b hb hm⟩
theorem At.grown {B:World}{w':World}{r:Option Nat}(k:At B h w) (g:w.grownBy w' r):At B w'.heap w':=⟨rfl,g.os.trans k.os,g.tape.trans k.tape,g.output.trans k.output⟩
theorem ay.ext (x:Ext M h h') (k:ay h base e size v n xs) (hm:∀b,v.ownBlock=some b->¬M b):ay h' base e size v n xs:=by
 refine⟨k.1,?_⟩
 rcases k.2 with hn|⟨g,cap,cur,rfl,hb,hgg,rest⟩
 · exact .inl hn
 · refine .inr ⟨g,cap,cur,rfl,hb,?_,rest⟩;rw[x.block g (Array.getElem?_eq_some_iff.1 hgg).1 (hm g rfl)];exact hgg
theorem ay.nil (h:ai) (base:Nat) (e:TypeId) (size:Nat):ay h base e size (.slice none 0 0) 0 []:=⟨by simp,.inl ⟨rfl,rfl⟩⟩
theorem ay.lower {base':Nat}(k:ay h base e size v n xs) (hb:base'<=base):ay h base' e size v n xs:=by
 refine⟨k.1,?_⟩
 rcases k.2 with hn|⟨g,cap,cur,hv,h1,rest⟩
 · exact .inl hn
 · exact .inr ⟨g,cap,cur,hv,Nat.le_trans hb h1,rest⟩
section
variable {P:Program}{ρ:Env}{h:ai}{dst:Option Nat}{ty:TypeId}{pos:String}{after:Array Edge}{guard:Option (Nat×Bool)}{X:List PanicEntry->ai->Prop}
structure cD (P:Program) (e:TypeId) (size bytes:Nat):Prop where
 ex:∃i z,P.info? e=some i/\i.zero=some z/\i.size=size/\i.bytes=bytes/\z.cells.size=size
 pos:0<size
theorem qD (w:World) (base:Nat) (t ty e:TypeId) (size bytes:Nat) (ht:P.underlying t=some (.slice e)) (he:cD P e size bytes)
 (v:Value) (n:Nat) (xs:List Value) (hown:w.ownsRow base e size v n xs)
 (a:Addr) (m c:Nat) (news:List Value) (hl:news.length=m*size) (hnews:∀j u,news[j]? =some u->w.cell? (a.add j)=some u) (h1:∀u∈news,u.oneCell'=true)
 (h63:n+m<=maxLen) (hbytes:(n+m)*bytes<=140737488355328) (hbase:base<=w.heap.size) :
 ∃v' w',(Builtin.append_ #[t,t] ty #[v,.slice (some a) m c]).run P w= .ok v' w'/\w'.ownsRow base e size v' (n+m) (xs++news)/\w.grownBy w' v.ownBlock /\
  (v'= .slice none 0 0↔v= .slice none 0 0/\m=0)/\(∀b,v'.ownBlock=some b->v.ownBlock=some b\/w.heap.size<=b):=by
 obtain⟨⟨i,z,hi,hz,rfl,rfl,hzs⟩,hsz⟩:=he;have hsmall:n+m<=9223372036854775807:=by simp only[maxLen] at h63;omega
 have hlen:(xs++news).length=(n+m)*i.size:=by rw[List.length_append,hown.1,hl,Nat.add_mul]
 have grown:∀(old:Nat),old<n+m->∀(row:Option Nat),
  (w.drew.alloc (.cells (xs.toArray++news.toArray++Builtin.zeroCells z.cells (grownCap w (n+m) old e-(n+m))) e)).ownsRow base e i.size
   (.slice (some ⟨w.heap.size,0,none⟩) (n+m) (grownCap w (n+m) old e)) (n+m) (xs++news) /\
  w.grownBy (w.drew.alloc (.cells (xs.toArray++news.toArray++Builtin.zeroCells z.cells (grownCap w (n+m) old e-(n+m))) e)) row:=by
  intro old ho row;have hge:=grownCap_ge w (n+m) old e;have hcm:grownCap w (n+m) old e<=maxLen:=grownCap_le_maxLen w (n+m) old e h63;refine⟨⟨hlen,.inr ⟨w.heap.size,_,_,rfl,hbase,heap_alloc_new w.drew _,hge,hcm,?_,?_⟩⟩,⟨rfl,rfl,rfl,by simp,fun k hk _=>heap_alloc_old w.drew _ k hk⟩⟩
  · simp only[Array.size_append,List.size_toArray,size_zeroCells,hzs,hown.1,hl,<-Nat.add_mul]
    congr 1
    omega
  · simp only[Array.toList_append,List.append_assoc];rw[<-List.append_assoc,<-hlen];exact List.take_left
 rcases hown.2 with ⟨rfl,rfl⟩|⟨g,cap,cur,rfl,hbg,hg,hnc,hcm,hcs,htake⟩
 · have hx:xs=[]:=List.eq_nil_of_length_eq_zero (by simpa using hown.1);subst hx
   by_cases hm:m=0
   · subst hm;have hn:news=[]:=List.eq_nil_of_length_eq_zero (by simpa using hl);subst hn;refine⟨.slice none 0 0,w,?_,World.ownsRow_nil w base e i.size,⟨rfl,rfl,rfl,Nat.le_refl _,fun _ _ _=>rfl⟩,by simp,by simp[Value.ownBlock]⟩;simp[Builtin.append_,run_underlying ht,sizeOf,typeInfo,hi,Builtin.lenOf,Builtin.firstCells,loadCells,loadCellsFrom]
   · have hr:=run_append_nil (P:=P) w t ty e i z ht hi hz a m c news hl hnews (by omega) (by omega) (by have hb:=hbytes;simp only[Nat.zero_add] at hb;omega);have hgr:=grown 0 (by omega) (Value.ownBlock (.slice none 0 0));simp only[Nat.zero_add,List.nil_append,Array.empty_append] at hgr ⊢;exact⟨_,_,hr,hgr.1,hgr.2,by simp[hm],fun b hb=>.inr (by simp[Value.ownBlock] at hb;omega)⟩
 · by_cases hroom:n+m<=cap
   · have hfit:n*i.size+news.length<=cur.size:=by rw[hl,hcs,<-Nat.add_mul];exact Nat.mul_le_mul_right _ hroom
     have hr:=run_append_room (P:=P) w t ty e i ht hi g n cap cur hg a m c news hl hnews h1 hroom hfit;refine⟨_,_,hr,⟨hlen,.inr ⟨g,cap,_,rfl,hbg,setRow_heap w g cur _ e _ hg,hroom,hcm,?_,?_⟩⟩,⟨rfl,rfl,rfl,by simp,fun k _ hk=>setRow_other w g k _ (fun e=>hk (by simp[Value.ownBlock,e]))⟩,by simp,fun b hb=>.inl hb⟩
     · simp only[List.size_toArray,List.length_append,List.length_take,List.length_drop,Array.length_toList];omega
     · rw[htake,<-hlen];exact List.take_left
   · have holds:∀j u,xs[j]? =some u->w.cell? ((⟨g,0,none⟩:Addr).add j)=some u:=hown.cells (g:=g) rfl;have hr:=run_append_grow (P:=P) w t ty e i z ht hi hz ⟨g,0,none⟩ n cap xs hown.1 holds a m c news hl hnews (by omega) (by omega) (growslice_fits (by omega) hbytes);have hgr:=grown cap (by omega) (Value.ownBlock (.slice (some ⟨g,0,none⟩) n cap));exact⟨_,_,hr,hgr.1,hgr.2,by simp,fun b hb=>.inr (by simp[Value.ownBlock] at hb;omega)⟩
theorem bR {t e:TypeId}{size bytes:Nat}{x y:Operand}{v:Value}{n:Nat}{xs news:List Value}{oa:Option Addr}{m c base:Nat}(ht:P.underlying t=some (.slice e)) (he:cD P e size bytes)
 (hx:aT ρ x=some v) (hy:aT ρ y=some (.slice oa m c)) (hown:ay h base e size v n xs) (hl:news.length=m*size)
 (hnews:m=0\/∃b o,oa=some ⟨b,o,none⟩/\rowAt h b o news) (h1:∀u∈news,u.oneCell'=true)
 (h63:n+m<=maxLen) (hbytes:(n+m)*bytes<=140737488355328) (hbase:base<=h.size) :
 aH P ⟨dst,.call ⟨.builtin .append,#[x,y],#[t,t]⟩,ty,pos,after,guard⟩ ρ h (fun v' h'=>ay h' base e size v' (n+m) (xs++news)/\Ext (b8 v.ownBlock) h h'/\(v'= .slice none 0 0↔v= .slice none 0 0/\m=0)/\(∀b,v'.ownBlock=some b->v.ownBlock=some b\/h.size<=b)) X:=by
 intro nn B a w hf ha next Q hn _
 have hw:w.ownsRow base e size v n xs:=ha.own.2 hown
 rcases hnews with rfl|⟨b,o,rfl,hrow⟩
 · have hn0:news=[]:=List.eq_nil_of_length_eq_zero (by simpa using hl);subst hn0
   have hrun:(execOp a.eval ⟨dst,.call ⟨.builtin .append,#[x,y],#[t,t]⟩,ty,pos,after,guard⟩).run P w= .ok (.value v) w:=by
    obtain⟨⟨i,z,hi,hz,hsz,hby,hzs⟩,hpos⟩:=he
    rcases hown.2 with ⟨rfl,rfl⟩|⟨g,cap,cur,rfl,hb,hgg,hle,rest⟩<;>cases oa
    · simp[execOp,resolve,invoke,builtin,hf.eval hx,hf.eval hy,Builtin.append_,run_underlying ht,sizeOf,typeInfo,hi,Builtin.lenOf,Builtin.firstCells]
    · simp[execOp,resolve,invoke,builtin,hf.eval hx,hf.eval hy,Builtin.append_,run_underlying ht,sizeOf,typeInfo,hi,Builtin.lenOf,Builtin.firstCells,loadCells,loadCellsFrom]
    · simp[execOp,resolve,invoke,builtin,hf.eval hx,hf.eval hy,Builtin.append_,run_underlying ht,sizeOf,typeInfo,hi,Builtin.lenOf,Builtin.firstCells,hle,storeCells]
    · simp[execOp,resolve,invoke,builtin,hf.eval hx,hf.eval hy,Builtin.append_,run_underlying ht,sizeOf,typeInfo,hi,Builtin.lenOf,Builtin.firstCells,loadCells,loadCellsFrom,hle,storeCells]
   unfold Oper.wp;rw[hrun];exact hn v h w ha ⟨by simpa using hown,av _ _,by simp,fun b hb=>.inl hb⟩
 · obtain⟨v',w',hr,h2,h3,h4,h5⟩:=qD (P:=P) w base t ty e size bytes ht he v n xs hw ⟨b,o,none⟩ m c news hl (fun j u hu=>by rw[Addr.add_mid,ha.cell];exact hrow j u hu) h1 h63 hbytes (by rw[ha.heap];exact hbase);unfold Oper.wp execOp;simp only[resolve,invoke,builtin,Sem.run_bind,Sem.run_pure,Result.andThen_ok,List.map_toArray,List.map_cons,List.map_nil,hf.eval hx,hf.eval hy,hr];refine hn v' w'.heap w' (ha.grown h3) ⟨(At.own (ha.grown h3)).1 h2,?_,h4,?_⟩
   · rw[<-ha.heap];exact ir h3
   · rw[<-ha.heap];exact h5
theorem vU {ρ:Env}{a:Act}(hf:Fits n ρ a){ps:Array (Nat×Operand)}{vs:List (Nat×Value)}(h:ps.toList.map (fun p=>(p.1,aT ρ p.2))=vs.map (fun p=>(p.1,some p.2))) :
 (ps.map fun(i,x)=>(i,a.eval x))=vs.toArray:=by
 apply Array.ext'
 simp only[Array.toList_map];generalize ps.toList=l at h
 revert vs
 induction l with
 |nil=>intro vs h;cases vs<;>simp_all
 |cons p r ih =>
  intro vs h;cases vs with
  |nil=>simp at h
  |cons q us =>
   obtain⟨i,x⟩:=p;obtain⟨j,v⟩:=q;simp only[List.map_cons,List.cons.injEq,Prod.mk.injEq] at h ⊢;exact⟨⟨h.1.1,hf.eval h.1.2⟩,ih h.2⟩
theorem aH.buildSlice {t e:TypeId}{size bytes len:Nat}{ps:Array (Nat×Operand)}{vs:List (Nat×Value)}{cells:Array Value}(ht:P.underlying t=some (.slice e)) (he:cD P e size bytes)
 (hps:ps.toList.map (fun p=>(p.1,aT ρ p.2))=vs.map (fun p=>(p.1,some p.2))) (hlen:len*size<=16777216)
 (hfill:∀z:Array Value,z.size=size->Instr.fill (fun i=>some (i*size,size)) ((Array.range (len*size)).map (z[· %z.size]!)) vs=some cells) :
 aH P ⟨dst,.buildSlice t len ps,ty,pos,after,guard⟩ ρ h (fun u g=>u= .slice (some ⟨h.size,0,none⟩) len len/\g=h.push (.cells cells e)) X:=by
 obtain⟨⟨i,z,hi,hz,rfl,rfl,hzs⟩,hsz⟩:=he;refine aH.sd fun n B a w hf ha=>?_
 have e:=ha.heap;subst e;refine⟨{ w with heap:=w.heap.push (.cells cells _) },?_,ha.nP _⟩;have hmp:=vU hf hps;have hle:¬(len*i.size>2 ^ 24):=by omega
 by_cases h0:len*i.size=0
 · have hf0:=hfill z.cells hzs;rw[h0] at hf0;have hr0:∀f:Nat->Value,(Array.range 0).map f= #[]:=fun f=>by apply Array.ext';simp
   have hf1:Instr.fill (fun j=>some (j*i.size,i.size)) #[] vs=some cells:=by rw[hr0] at hf0;exact hf0
   simp only[execOp,hmp,Instr.buildSlice,Sem.run_bind,run_underlying ht,Result.andThen_ok,sizeOf,typeInfo,run_program,hi,Sem.run_pure,if_neg hle];simp[h0,hr0,hf1,newRow]
 · simp only[execOp,hmp,Instr.buildSlice,Sem.run_bind,run_underlying ht,Result.andThen_ok,sizeOf,typeInfo,run_program,hi,Sem.run_pure,if_neg hle,if_neg h0];have hf0:=hfill z.cells hzs;simp[zeroValue,typeInfo,hi,hz,hf0,newRow]
theorem wq:∀(us:List Value),(∀u∈us,u.oneCell'=true)->∀(k:Nat) (pre:List Value) (tl:List Value),pre.length=k->tl.length=us.length ->
 Instr.fill (fun i=>some (i*1,1)) (pre++tl).toArray (us.zipIdx k |>.map fun p=>(p.2,p.1))=some (pre++us).toArray
 | [],_,k,pre,tl,_,hl=>by
  have:tl=[]:=List.eq_nil_of_length_eq_zero (by simpa using hl);subst this;simp[Instr.fill]
 |u::us,h1,k,pre,tl,hp,hl=>by
  cases tl with
  |nil=>simp at hl
  |cons t tl =>
   have hu:u.cells= #[u]:=by have:=h1 u (by simp);cases u<;>simp[Value.oneCell'] at this<;>rfl
   have ih:=wq us (fun v hv=>h1 v (by simp[hv])) (k+1) (pre++[u]) tl (by simp[hp]) (by simpa using hl);simp only[List.zipIdx_cons,List.map_cons,Instr.fill,hu,Nat.mul_one];have h2:¬((#[u]:Array Value).size≠1\/k+(#[u]:Array Value).size>(pre++t::tl).toArray.size):=by simp;omega
   simp only[List.append_assoc,List.singleton_append,Nat.mul_one] at ih
   have hset:(pre++t::tl).toArray.setIfInBounds k u=(pre++u::tl).toArray:=by
    subst hp;simp[List.set_append_right]
   simp[hset,ih];omega
theorem aH.pq {bytes len:Nat}{ps:Array (Nat×Operand)}{us:List Value}(ht:P.underlying t=some (.slice e)) (he:cD P e 1 bytes)
 (hps:ps.toList.map (fun p=>(p.1,aT ρ p.2))=(us.zipIdx.map fun p=>(p.2,p.1)).map (fun p=>(p.1,some p.2))) (hl:us.length=len) (hlen:len<=16777216) (h1:∀u∈us,u.oneCell'=true) :
 aH P ⟨dst,.buildSlice t len ps,ty,pos,after,guard⟩ ρ h (fun u g=>u= .slice (some ⟨h.size,0,none⟩) len len/\g=h.push (.cells us.toArray e)) X:=by
 refine aH.buildSlice ht he hps (by omega) fun z hz=>?_
 have:=wq us h1 0 [] ((List.range (len*1)).map (fun j=>z[j%z.size]!)) rfl (by simp[hl]);simp only[List.nil_append] at this;rw[<-this]
 congr 1
 apply Array.ext'
 simp
end
structure Mv (O O':Nat->Prop) (h h':ai):Prop where
 size:h.size<=h'.size
 block:∀b,b<h.size->¬O b->h'[b]? =h[b]? /\¬O' b
theorem Mv.dI {O':Nat->Prop}(e:Ext M h h') (hm:∀b,b<h.size->¬O b->¬M b/\¬O' b):Mv O O' h h' :=
 ⟨e.size,fun b hb ho=>⟨e.block b hb (hm b hb ho).1,(hm b hb ho).2⟩⟩
theorem Mv.af (e:ah h h'):Mv O O h h':=⟨e.size,fun b hb ho=>⟨e.block b hb (fun k=>k),ho⟩⟩
theorem Mv.cell {O':Nat->Prop}(m:Mv O O' h h') (ho:¬O a.block) (k:cellAt h a=some v):cellAt h' a=some v:=by
 have:=(m.block a.block (ck k) ho).1;unfold cellAt at *;rw[this];exact k
theorem Mv.rowAt {O O':Nat->Prop}{h h':ai}(m:Mv O O' h h'){b o:Nat}{cs:List Value}(ho:¬O b) (k:rowAt h b o cs):rowAt h' b o cs:=fun j v hv=>m.cell ho (k j v hv)
theorem bS (k:rowAt h b o cs) (hne:cs≠[]):b<h.size:=by
 cases cs with
 |nil=>exact absurd rfl hne
 |cons v r=>exact ck (k 0 v rfl)
structure fS (α:Type) where
 sz:Nat
 pos:0<sz
 R:ai->(Nat->Prop)->List Value->α->Prop
 len:∀{h O cs x},R h O cs x->cs.length=sz
 one:∀{h O cs x},R h O cs x->∀v∈cs,v.oneCell'=true
 mv:∀{h O h' O' cs x},R h O cs x->Mv O O' h h'->R h' O' cs x
def fS.flat {α:Type}(enc:α->Value) (h1:∀x,(enc x).oneCell'=true):fS α where
 sz:=1
 pos:=Nat.one_pos
 R:=fun _ _ cs x=>cs=[enc x]
 len:=fun h=>by subst h;rfl
 one:=fun h v hv=>by subst h;simp at hv;subst hv;exact h1 _
 mv:=fun h _=>h
def fS.int (k:IntKind):fS Int:=.flat (.int k) fun _=>rfl
def fS.bool:fS Bool:=.flat .bool fun _=>rfl
def fS.byte:fS UInt8:=.flat (fun b=>.int .u8 b.toNat) fun _=>rfl
def aR {α:Type}(e:fS α) (h:ai) (O:Nat->Prop) (v:Value) (xs:List α):Prop :=
 ∃oa n c,v= .slice oa n c/\xs.length=n/\n<=c/\c<=maxLen /\
  ∀i x,xs[i]? =some x->∃b o cs,oa=some ⟨b,o,none⟩/\¬O b/\rowAt h b (o+i*e.sz) cs/\e.R h O cs x
theorem aR.mv {α:Type}{e:fS α}{h h':ai}{O O':Nat->Prop}{v:Value}{xs:List α}(k:aR e h O v xs) (m:Mv O O' h h'):aR e h' O' v xs:=by
 obtain⟨oa,n,c,hv,hl,hnc,hc,k⟩:=k;refine⟨oa,n,c,hv,hl,hnc,hc,fun i x hx=>?_⟩;obtain⟨b,o,cs,h1,h2,h3,h4⟩:=k i x hx;have hne:cs≠[]:=by intro e0;have:=e.len h4;have:=e.pos;subst e0;simp at *;omega
 exact⟨b,o,cs,h1,(m.block b (bS h3 hne) h2).2,m.rowAt h2 h3,e.mv h4 m⟩
structure Sl {α:Type}(e:fS α) (h:ai) (O:Nat->Prop) (oa:Option Addr) (n c:Nat) (xs:List α):Prop where
 len:xs.length=n
 le:n<=c
 cap:c<=maxLen
 get:∀i x,xs[i]? =some x->∃b o cs,oa=some ⟨b,o,none⟩/\¬O b/\rowAt h b (o+i*e.sz) cs/\e.R h O cs x
theorem aR.open {e:fS α}{xs:List α}(k:aR e h O v xs):∃oa n c,v= .slice oa n c/\Sl e h O oa n c xs:=by
 obtain⟨oa,n,c,hv,hl,hnc,hc,k⟩:=k;exact⟨oa,n,c,hv,hl,hnc,hc,k⟩
theorem Sl.shut {e:fS α}{xs:List α}(k:Sl e h O oa n c xs):aR e h O (.slice oa n c) xs:=⟨oa,n,c,rfl,k.len,k.le,k.cap,k.get⟩
theorem Sl.mv {α:Type}{e:fS α}{h h':ai}{O O':Nat->Prop}{oa:Option Addr}{n c:Nat}{xs:List α}(k:Sl e h O oa n c xs) (m:Mv O O' h h'):Sl e h' O' oa n c xs:=by
 obtain⟨oa',n',c',hv,k'⟩:=(k.shut.mv m).open;cases hv;exact k'
theorem Sl.at {enc:α->Value} {h1:∀x,(enc x).oneCell'=true}{xs:List α}(k:Sl (.flat enc h1) h O oa n c xs){i:Nat}(hi:i<n) :
 ∃b o x,oa=some ⟨b,o,none⟩/\¬O b/\xs[i]? =some x/\cellAt h ⟨b,o+i*1,none⟩=some (enc x):=by
 have hl:i<xs.length:=by rw[k.len];exact hi
 obtain⟨b,o,cs,ha,ho,hr,hR⟩:=k.get i xs[i] (List.getElem?_eq_getElem hl);refine⟨b,o,xs[i],ha,ho,List.getElem?_eq_getElem hl,?_⟩;have hcs:cs=[enc xs[i]]:=hR;subst hcs;have:=hr 0 _ rfl;simpa [fS.flat] using this
theorem ay.shut {enc:α->Value} {h1:∀x,(enc x).oneCell'=true}{xs:List α}(k:ay h base t 1 v n (xs.map enc)) (ho:∀b,base<=b->¬O b):aR (.flat enc h1) h O v xs:=by
 have hl:xs.length=n:=by have:=k.1;simpa using this
 rcases k.2 with ⟨rfl,rfl⟩|⟨g,cap,cur,rfl,hb,hg,hnc,hc,hs,ht⟩
 · exact⟨none,0,0,rfl,hl,Nat.le_refl _,by simp[maxLen],fun i x hx=>by
    have:xs=[]:=List.eq_nil_of_length_eq_zero hl;subst this;simp at hx⟩
 · refine⟨some ⟨g,0,none⟩,n,cap,rfl,hl,hnc,hc,fun i x hx=>⟨g,0,[enc x],rfl,ho g hb,?_,rfl⟩⟩;intro j u hj;have hj0:j=0:=by cases j with|zero=>rfl|succ j=>simp at hj
   subst hj0;simp at hj;subst hj
   have hi:i<n:=by
    rcases Nat.lt_or_ge i n with h|h
    · exact h
    · rw[List.getElem?_eq_none (by omega)] at hx;cases hx
   have h2:(cur.toList.take (n*1))[i]? =some (enc x):=by rw[ht];simp[hx]
   rw[List.getElem?_take,if_pos (by omega)] at h2;simpa [cellAt,hg,fS.flat] using h2
theorem ak {ρ:Env}{i:Nat}{b b':Bool}(h:ρ.at i=some (.bool b)) (e:b=b'):ρ.at i=some (.bool b'):=by rw[h,e]
theorem Ext.old (e:Ext (fun b=>h.size<=b) h h') (k:cellAt h a=some v):cellAt h' a=some v:=e.cell (Nat.not_le.2 (ck k)) k
theorem Ext.lK (e:Ext (fun b=>h.size<=b) h h') (k:Lw.rowAt h b o cs):Lw.rowAt h' b o cs:=fun j v hv=>e.old (k j v hv)
theorem fO (e:Ext (b8 none) h h'):ah h h':=e.mono fun _ _ k=>by cases k
structure Ow (h:ai) (base:Nat) (t:TypeId) (size:Nat) (oa:Option Addr) (n c:Nat) (xs:List Value):Prop where
 own:ay h base t size (.slice oa n c) n xs
 len:xs.length=n*size
 le:n<=c
 cap:c<=maxLen
theorem ay.open (k:ay h base t size v n xs):∃oa c,v= .slice oa n c/\Ow h base t size oa n c xs:=by
 rcases k.2 with ⟨rfl,rfl⟩|⟨g,cap,cur,rfl,hb,hg,hnc,hc,rest⟩
 · exact⟨none,0,rfl,k,k.1,Nat.le_refl _,by simp[maxLen]⟩
 · exact⟨_,cap,rfl,k,k.1,hnc,hc⟩
theorem Ow.blk (k:Ow h base t size oa n c xs) (hn:0<n) :
 ∃g cur,oa=some ⟨g,0,none⟩/\base<=g/\g<h.size/\h[g]? =some (.cells cur t (0,0))/\cur.size=c*size/\cur.toList.take (n*size)=xs:=by
 rcases k.own.2 with ⟨_,h0⟩|⟨g,cap,cur,hv,hb,hg,hnc,hc,hs,ht⟩
 · omega
 · cases hv;exact⟨g,cur,rfl,hb,(Array.getElem?_eq_some_iff.1 hg).1,hg,hs,ht⟩
theorem Ow.at {h:ai}{base:Nat}{t:TypeId}{oa:Option Addr}{n c:Nat}{xs:List Value}(k:Ow h base t 1 oa n c xs){i:Nat}{x:Value}(hx:xs[i]? =some x) :
 ∃g,oa=some ⟨g,0,none⟩/\base<=g/\g<h.size/\cellAt h ⟨g,0+i*1,none⟩=some x/\frozenAt h ⟨g,0+i*1,none⟩=false:=by
 have hi:i<n:=by
  rcases Nat.lt_or_ge i n with h1|h1
  · exact h1
  · rw[List.getElem?_eq_none (by have:=k.len;omega)] at hx;cases hx
 obtain⟨g,cur,ha,hb,hlt,hg,hs,ht⟩:=k.blk (by omega);refine⟨g,ha,hb,hlt,?_,by simp[frozenAt,hg]⟩;have h2:(cur.toList.take (n*1))[i]? =some x:=by rw[ht];exact hx
 rw[List.getElem?_take,if_pos (by omega)] at h2;simpa [cellAt,hg] using h2
theorem Ow.row (k:Ow h base t size oa n c xs):n=0\/∃b o,oa=some ⟨b,o,none⟩/\rowAt h b o xs:=by
 rcases Nat.eq_zero_or_pos n with h0|h0
 · exact .inl h0
 · obtain⟨g,cur,ha,hb,hlt,hg,hs,ht⟩:=k.blk h0;refine .inr ⟨g,0,ha,fun j v hv=>?_⟩;rw[<-ht,List.getElem?_take] at hv;split at hv
   · simpa [cellAt,hg] using hv
   · cases hv
theorem Sl.part {e:fS α}{xs:List α}(k:Sl e h O oa n c xs){i j:Nat}(hij:i<=j) (hj:j<=n):Sl e h O (aP oa i e.sz c) (j-i) (c-i) ((xs.take j).drop i):=by
 have hl:=k.len;have hle:=k.le;have hc:=k.cap;refine⟨by simp;omega,by omega,by omega,fun m x hx=>?_⟩
 have hm:m<((xs.take j).drop i).length:=by
  rcases Nat.lt_or_ge m ((xs.take j).drop i).length with h1|h1
  · exact h1
  · rw[List.getElem?_eq_none h1] at hx;cases hx
 simp at hm;rw[List.getElem?_drop,List.getElem?_take,if_pos (by omega)] at hx;obtain⟨b,o,cs,ha,ho,hr,hR⟩:=k.get (i+m) x hx;refine⟨b,o+i*e.sz,cs,?_,ho,?_,hR⟩
 · unfold aP;rw[if_neg (by omega),ha];simp[Addr.add_mid]
 · rw[Nat.add_assoc,<-Nat.add_mul];exact hr
theorem Sl.row {enc:α->Value} {h1:∀x,(enc x).oneCell'=true}{xs:List α}(k:Sl (.flat enc h1) h O oa n c xs):n=0\/∃b o,oa=some ⟨b,o,none⟩/\rowAt h b o (xs.map enc):=by
 rcases Nat.eq_zero_or_pos n with h0|h0
 · exact .inl h0
 · obtain⟨b,o,x,ha,_,_,_⟩:=k.at h0;refine .inr ⟨b,o,ha,fun j v hv=>?_⟩
   have hj:j<n:=by
    rcases Nat.lt_or_ge j n with h2|h2
    · exact h2
    · rw[List.getElem?_eq_none (by simpa [k.len] using h2)] at hv;cases hv
   obtain⟨b',o',x',ha',_,hx',hc'⟩:=k.at hj;rw[ha] at ha';cases ha';rw[List.getElem?_map,hx'] at hv;cases hv;simpa using hc'
theorem Ow.set {h:ai}{base:Nat}{t:TypeId}{oa:Option Addr}{n c:Nat}{xs:List Value}(k:Ow h base t 1 oa n c xs){g i:Nat}(ha:oa=some ⟨g,0,none⟩) (hi:i<n) (u:Value) :
 Ow (dD h ⟨g,0+i*1,none⟩ u) base t 1 oa n c (xs.set i u):=by
 obtain⟨g',cur,ha',hb,hlt,hg,hs,ht⟩:=k.blk (by omega);rw[ha] at ha';cases ha';refine⟨⟨by simp[k.len],.inr ⟨g,c,cur.setIfInBounds (0+i*1) u,by rw[ha],hb,rK hg u,k.le,k.cap,by simpa using hs,?_⟩⟩,by simp[k.len],k.le,k.cap⟩;rw[<-ht];simp[List.take_set]
theorem Ow.take {h:ai}{base:Nat}{t:TypeId}{size:Nat}{oa:Option Addr}{n c:Nat}{xs:List Value}(k:Ow h base t size oa n c xs){m:Nat}(hm:m<=n) (sz:Nat) :
 ay h base t size (.slice (aP oa 0 sz c) m c) m (xs.take (m*size)):=by
 have hp:aP oa 0 sz c=oa:=by
  unfold aP;split
  · rfl
  · cases oa<;>simp[Addr.add]
 rw[hp];refine⟨by rw[List.length_take,k.len];exact Nat.min_eq_left (Nat.mul_le_mul_right _ hm),?_⟩
 rcases k.own.2 with ⟨hv,h0⟩|⟨g,cap,cur,hv,hb,hg,hnc,hc,hs,ht⟩
 · cases hv;obtain rfl:m=0:=by omega
   exact .inl ⟨rfl,rfl⟩
 · cases hv;refine .inr ⟨g,c,cur,rfl,hb,hg,by omega,hc,hs,?_⟩;rw[<-ht,List.take_take,Nat.min_eq_left (Nat.mul_le_mul_right _ hm)]
theorem FD (h:ai) (us:List Value) (t:TypeId) (n:Nat) (hl:us.length=n) (hn:n<=maxLen) (base:Nat) (hb:base<=h.size) :
 ay (h.push (.cells us.toArray t)) base t 1 (.slice (some ⟨h.size,0,none⟩) n n) n us :=
 ⟨by simp[hl],.inr ⟨h.size,n,us.toArray,rfl,hb,by simp,Nat.le_refl _,hn,by simp[hl],by simp[<-hl]⟩⟩
theorem aR.nil (e:fS α) (h:ai) (O:Nat->Prop):aR e h O (.slice none 0 0) [] :=
 ⟨none,0,0,rfl,rfl,Nat.le_refl _,by simp[maxLen],fun i x hx=>by simp at hx⟩
theorem aR.af {α:Type}{e:fS α}{h h':ai}{O:Nat->Prop}{v:Value}{xs:List α}(k:aR e h O v xs) (x:ah h h'):aR e h' O v xs:=k.mv (Mv.af x)
theorem Gj (h:ai) (us:List Value) (t:TypeId):Lw.rowAt (h.push (.cells us.toArray t)) h.size 0 us:=fun j v hv=>by
 simpa [cellAt] using hv
theorem ay.lt (k:ay h base t size v n xs) (hb:v.ownBlock=some b):base<=b/\b<h.size:=by
 rcases k.2 with ⟨rfl,_⟩|⟨g,cap,cur,rfl,hbg,hg,_⟩
 · simp[Value.ownBlock] at hb
 · simp[Value.ownBlock] at hb;subst hb;exact⟨hbg,(Array.getElem?_eq_some_iff.1 hg).1⟩
theorem Ext.own {h0:ai}(e0:ah h0 h) (k:ay h base t size v n xs) (hb:h0.size<=base) (e:Ext (b8 v.ownBlock) h h'):ah h0 h':=by
 refine⟨Nat.le_trans e0.size e.size,fun b hb' _=>?_⟩;rw[e.block b (Nat.lt_of_lt_of_le hb' e0.size) (fun hm=>by have:=(k.lt hm.symm).1;omega)];exact e0.block b hb' (fun k=>k)
theorem ah.set {h0:ai}(e:ah h0 h) (ha:h0.size<=a.block) (v:Value):ah h0 (dD h a v) :=
 ⟨by rw[iz];exact e.size,fun b hb hm=>by
  rw[(Ext.dD (M:=fun i=>i=a.block) h a v rfl).block b (Nat.lt_of_lt_of_le hb e.size) (by omega)];exact e.block b hb hm⟩
def RQ (P:Program) (n:Nat) (ops:Array Oper) (i:Nat) (ρ:Env) (h:ai) (N:Env->Prop):Prop :=
 ∀B a w,Fits n ρ a->At B h w->wpQuiet P ops (At B h) (fun a'=>∃ρ',Fits n ρ' a'/\N ρ') (ops.toList.drop i) a
section
variable {P:Program}{n:Nat}{ops:Array Oper}{i:Nat}{ρ:Env}{h:ai}{N:Env->Prop}
theorem iV {o:Oper}:∀{l:List Oper}{i:Nat},nth l i=some o->l.drop i=o::l.drop (i+1)
 | [],_,h=>by simp[nth] at h
 |a::l,0,h=>by simp[nth] at h;simp[h]
 |a::l,i+1,h=>by simpa using iV (l:=l) (i:=i) (by simpa [nth] using h)
theorem RQ.aB {o:Oper}(ho:nth ops.toList i=some o) (hw:aK ops ρ o=some true) (hod:o.dst=some d) (hd:Nat.blt d n=true) (k:an P o ρ h v)
 (next:RQ P n ops (i+1) ((d,v)::ρ) h N):RQ P n ops i ρ h N:=by
 intro B a w hf ha;rw[iV ho];simp only[wpQuiet];rw[cE hf hw,if_pos rfl];refine⟨v,fun w' hw'=>?_,?_⟩
 · unfold Oper.quietAt;rw[k n B a w' hf hw'];exact⟨rfl,rfl⟩
 · have:=next B (a.put o.dst v) w (by rw[hod];exact hf.put (dst:=some d) hd v) ha
   exact this
theorem RQ.NC {o:Oper}{f:FuncId}{xs:Array Operand}{ts:Array TypeId}{vs:List Value}{fn:Func}(ho:nth ops.toList i=some o) (hop:o.op= .call ⟨.value (.func f),xs,ts⟩) (hw:aK ops ρ o=some true) (hod:o.dst=some d) (hd:Nat.blt d n=true)
 (hfn:P.funcs[f]? =some fn) (hb:fn.body.isSome=true) (hnm:(fn.name == "runtime.NumGoroutine")=false) (hvs:xs.toList.map (aT ρ)=vs.map some)
 (k:aj P f vs.toArray h (aN fun u h'=>u=v/\h'=h))
 (next:RQ P n ops (i+1) ((d,v)::ρ) h N):RQ P n ops i ρ h N:=by
 intro B a w hf ha;rw[iV ho];simp only[wpQuiet];rw[cE hf hw,if_pos rfl];refine⟨v,fun w' hw'=>?_,?_⟩
 · have hargs:xs.map a.eval=vs.toArray:=by
    apply Array.ext'
    simp only[Array.toList_map]
    have:∀(l:List Operand) (us:List Value),l.map (aT ρ)=us.map some->l.map a.eval=us:=by
     intro l
     induction l with
     |nil=>intro us hu;cases us<;>simp_all
     |cons x r ih =>
      intro us hu;cases us with
      |nil=>simp at hu
      |cons u us =>
       simp only[List.map_cons,List.cons.injEq] at hu ⊢;exact⟨hf.eval hu.1,ih us hu.2⟩
    exact this _ _ hvs
   have hrun:(execOp a.eval o).run P w'= .ok (.enter f vs.toArray) w':=by
    have hb':fn.body≠none:=by intro hbb;simp[hbb] at hb
    have hnm':¬fn.name= "runtime.NumGoroutine" :=by simpa using hnm
    simp[execOp,hop,resolve,Act.eval,Deferred.ofValue,invoke,callFunc,hfn,hnm',hb',hargs]
   unfold Oper.quietAt;rw[hrun];refine⟨rfl,(k B w' hw').mono ?_⟩;rintro e w'' ⟨h',ha',u,he,hu,hh⟩;subst he;subst hu;subst hh;exact⟨rfl,ha'⟩
 · have:=next B (a.put o.dst v) w (by rw[hod];exact hf.put (dst:=some d) hd v) ha
   exact this
theorem RQ.mG {o:Oper}(ho:nth ops.toList i=some o) (hw:aK ops ρ o=some false) (hod:o.dst=some d) (hd:Nat.blt d n=true)
 (next:RQ P n ops (i+1) ((d,undef)::ρ) h N):RQ P n ops i ρ h N:=by
 intro B a w hf ha;rw[iV ho];simp only[wpQuiet];rw[cE hf hw,if_neg (by simp)];exact next B (a.put o.dst undef) w (by rw[hod];exact hf.put (dst:=some d) hd undef) ha
theorem qZ (hi:Nat.ble ops.size i=true) (next:N ρ):RQ P n ops i ρ h N:=by
 intro B a w hf ha;have:ops.size<=i:=Nat.le_of_ble_eq_true hi;rw[List.drop_eq_nil_of_le (by simpa using this)];exact⟨ρ,hf,next⟩
theorem BL {d:Nat}{b:Bool}(hb:ρ.at d=some (.bool b)) (ht:b=true->RQ P n ops i ((d,.bool true)::ρ) h N) (hn:b=false->RQ P n ops i ((d,.bool false)::ρ) h N):RQ P n ops i ρ h N:=by
 have key:∀a,Fits n ρ a->Fits n ((d,.bool b)::ρ) a:=fun a hf=>⟨hf.size,fun j v hv=>by
  rw[Env.dY] at hv;split at hv
  · rename_i e;subst e;cases hv;exact hf.ok d _ hb
  · exact hf.ok j v hv,hf.nd⟩
 cases b with
 |true=>exact fun B a w hf ha=>ht rfl B a w (key a hf) ha
 |false=>exact fun B a w hf ha=>hn rfl B a w (key a hf) ha
theorem RQ.aO {b b':Bool}(hb:ρ.at d=some (.bool b)) (e:b=b') (next:RQ P n ops i ((d,.bool b')::ρ) h N):RQ P n ops i ρ h N:=by
 subst e;refine BL hb (fun e=>?_) (fun e=>?_)<;>(subst e;exact next)
end
section
variable {P:Program}{f:FuncId}{fn:Func}{k:List It}{ρ:Env}{h:ai}{R:Ending->ai->Prop}{p:List Nat}
theorem G.Ht (hfn:P.funcs[f]? =some fn) (hm:P.follows .mixedOrders=true) (hk:kind (Lw.sub (aq fn) p)=6) (hB:Region.lexB .any (opsOf (Lw.sub (aq fn) p))=true)
 (next:RQ P fn.ntmps (opsOf (Lw.sub (aq fn) p)) 0 ρ h (fun ρ'=>G P f fn k ρ' h R)):G P f fn (.code p::k) ρ h R:=by
 refine rm (fun B a w hf ha=>?_) hfn;cases hc:Lw.sub (aq fn) p<;>simp[hc,kind] at hk;rename_i id ops d;cases d with
 |false=>simp at hk
 |true =>
  rw[hc] at next hB
  refine wp_region_quiet (C:=At B h) hm hB ha.drew ?_;have h1:=next B a w hf ha
  simp only[opsOf,List.drop_zero] at h1
  have hmono:∀(l:List Oper) (a:Act),wpQuiet P ops (At B h) (fun a'=>∃ρ',Fits fn.ntmps ρ' a'/\G P f fn k ρ' h R) l a ->
   wpQuiet P ops (At B h) (fun a'=>∀w',At B h w'->(∃ρ' h',Fits fn.ntmps ρ' a'/\At B h' w'/\G P f fn k ρ' h' R)) l a:=by
   intro l
   induction l with
   |nil=>exact fun a ⟨ρ',hf',hg⟩ w' ha'=>⟨ρ',h,hf',ha',hg⟩
   |cons o r ih =>
    intro a hq;simp only[wpQuiet] at hq ⊢
    by_cases hw:Region.wanted o (yielded ops a.tmps)=true
    · rw[if_pos hw] at hq ⊢;obtain⟨v,h2,h3⟩:=hq;exact⟨v,h2,ih _ h3⟩
    · rw[if_neg hw] at hq ⊢;exact ih _ hq
  exact hmono _ _ h1
theorem RQ.mono {ops:Array Oper}{i:Nat}{N N':Env->Prop}(k:RQ P n ops i ρ h N) (hm:∀ρ,N ρ->N' ρ):RQ P n ops i ρ h N':=by
 intro B a w hf ha
 have hmono:∀(l:List Oper) (a:Act),wpQuiet P ops (At B h) (fun a'=>∃ρ',Fits n ρ' a'/\N ρ') l a->wpQuiet P ops (At B h) (fun a'=>∃ρ',Fits n ρ' a'/\N' ρ') l a:=by
  intro l
  induction l with
  |nil=>exact fun a ⟨ρ',hf',hg⟩=>⟨ρ',hf',hm _ hg⟩
  |cons o r ih =>
   intro a hq;simp only[wpQuiet] at hq ⊢
   by_cases hw:Region.wanted o (yielded ops a.tmps)=true
   · rw[if_pos hw] at hq ⊢;obtain⟨v,h2,h3⟩:=hq;exact⟨v,h2,ih _ h3⟩
   · rw[if_neg hw] at hq ⊢;exact ih _ hq
 exact hmono _ _ (k B a w hf ha)
theorem G.eB (new keep:Env) (_:Sub keep ρ) (hfn:P.funcs[f]? =some fn) (hm:P.follows .mixedOrders=true) (hk:kind (Lw.sub (aq fn) p)=6) (hB:Region.lexB .any (opsOf (Lw.sub (aq fn) p))=true)
 (eE:RQ P fn.ntmps (opsOf (Lw.sub (aq fn) p)) 0 ρ h (fun ρ'=>h=h/\Sub (new++keep) ρ'))
 (next:G P f fn k (new++keep) h R):G P f fn (.code p::k) ρ h R :=
 G.Ht hfn hm hk hB (eE.mono fun _ hs=>G.sub hs.2 next)
end
end
end Go.Lw
