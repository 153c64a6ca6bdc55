/- Part 3. -/
import Derived.Laws.AppendOwn
import Derived.Deep.MidRow
import Derived.Laws.MakeOwn
import Derived.IntWalk
import Derived.Laws.Strings
import Derived.Test.YtnjahnbpnpkmhaaGreatDoorQb

namespace Go.Lw
section
variable {t e yt:TypeId}{n b c d o sz base size:Nat}{x y lo:Operand}{v:Value}{oa:Option Addr}{s:ByteArray}{i j il:Int}{k k':IntKind}{cs xs:List Value}{M O:Nat->Prop}{h h' h0:aq}{w:World}{a:Addr}{α:Type}
def cK (P:Program) (t:TypeId):Option Nat:=(P.info? t).map (·.size)
theorem run_sizeOf {P:Program}(h:cK P t=some n) (w:World):(sizeOf t).run P w= .ok n w:=by
 unfold cK at h;cases hi:P.info? t with
 |none=>simp[hi] at h
 |some i=>simp[hi] at h;simp[sizeOf,typeInfo,hi,h]
def aX (P:Program) (t:TypeId):Option Bool:=(P.underlying t).map TypeDesc.isRow
theorem kf {P:Program}{b:Bool}(h:aX P t=some b) (w:World):(isAgg t).run P w= .ok b w:=by
 unfold aX at h;cases hi:P.underlying t with
 |none=>simp[hi] at h
 |some d =>
  simp[hi] at h;subst h;unfold isAgg;rw[Sem.run_bind,run_underlying hi w];cases d<;>simp[TypeDesc.isRow]
section
variable {P:Program}{ρ:Env}{h:aq}{dst:Option Nat}{ty:TypeId}{pos:String}{after:Array Edge}{guard:Option (Nat×Bool)}
theorem fu {x:Operand}{v:Value}(I:bp ρ x=some v):az P ⟨dst,.move x,ty,pos,after,guard⟩ ρ h v:=by
 intro n B a w J _;simp[execOp,J.eval I]
theorem az.assign {x:Operand}{v:Value}(I:bp ρ x=some v):az P ⟨dst,.assign x,ty,pos,after,guard⟩ ρ h v:=by
 intro n B a w J _;simp[execOp,J.eval I]
theorem az.N0 {c:Operand}(hc:bp ρ c=some (.bool true)) (J:bp ρ x=some v):az P ⟨dst,.pick c x y,ty,pos,after,guard⟩ ρ h v:=by
 intro n B a w I _;simp[execOp,I.eval hc,I.eval J,asBool]
theorem az.N1 {c:Operand}(hc:bp ρ c=some (.bool false)) (J:bp ρ y=some v):az P ⟨dst,.pick c x y,ty,pos,after,guard⟩ ρ h v:=by
 intro n B a w I _;simp[execOp,I.eval hc,I.eval J,asBool]
theorem az.extract {x:Operand}{vs:Array Value}{i:Nat}{v:Value}(I:bp ρ x=some (.tuple vs)) (hi:vs[i]? =some v):az P ⟨dst,.extract x i,ty,pos,after,guard⟩ ρ h v:=by
 intro n B a w J _;simp[execOp,J.eval I,Instr.extract,hi]
theorem tn {x:Operand}{a:Addr}(I:bp ρ x=some (.pointer (some a))):az P ⟨dst,.nilCheck x,ty,pos,after,guard⟩ ρ h (.pointer (some a)):=by
 intro n B a w J _;simp[execOp,J.eval I]
theorem az.mL (hu:P.underlying t=some (.slice e)) (I:bp ρ x=some (.slice oa n c)) :
 az P ⟨dst,.call ⟨.builtin .len,#[x],#[t]⟩,ty,pos,after,guard⟩ ρ h (.int .i64 n):=by
 intro _ B a w J _;simp[execOp,resolve,invoke,builtin,Builtin.len_,run_underlying hu,J.eval I,goInt]
theorem az.mK (hu:P.underlying t=some .string) (I:bp ρ x=some (.string s)) :
 az P ⟨dst,.call ⟨.builtin .len,#[x],#[t]⟩,ty,pos,after,guard⟩ ρ h (.int .i64 s.size):=by
 intro _ B a w J _;simp[execOp,resolve,invoke,builtin,Builtin.len_,run_underlying hu,J.eval I,goInt]
theorem az.Jm (hu:P.underlying t=some (.array n e)) (I:bp ρ x=some v) :
 az P ⟨dst,.call ⟨.builtin .len,#[x],#[t]⟩,ty,pos,after,guard⟩ ρ h (.int .i64 n):=by
 intro _ B a w J _;simp[execOp,resolve,invoke,builtin,Builtin.len_,run_underlying hu,J.eval I,goInt]
theorem Kl {x y:Operand}{k k':IntKind}{i j:Int}{ts:Array TypeId}(U:bp ρ x=some (.int k i)) (J:bp ρ y=some (.int k' j)) :
 az P ⟨dst,.call ⟨.builtin .min,#[x,y],ts⟩,ty,pos,after,guard⟩ ρ h (.int k (if j<i then j else i)):=by
 intro _ B a w I _;simp[execOp,resolve,invoke,builtin,Builtin.min_,Builtin.min2,I.eval U,I.eval J]
theorem Km {x y:Operand}{k k':IntKind}{i j:Int}{ts:Array TypeId}(U:bp ρ x=some (.int k i)) (J:bp ρ y=some (.int k' j)) :
 az P ⟨dst,.call ⟨.builtin .max,#[x,y],ts⟩,ty,pos,after,guard⟩ ρ h (.int k (if i<j then j else i)):=by
 intro _ B a w I _;simp[execOp,resolve,invoke,builtin,Builtin.max_,Builtin.max2,I.eval U,I.eval J]
theorem BR (i j:Int):(i ==j)=decide (i=j):=by
 rw[Bool.eq_iff_iff];simp
theorem wrap_i64 (hi : -9223372036854775808<=i/\i<=9223372036854775807):IntKind.i64.wrap i=i:=by
 have I:(2:Int) ^ 64=18446744073709551616:=rfl;have J:(2:Int) ^ (64-1)=9223372036854775808:=rfl;simp only[IntKind.wrap,IntKind.bits,IntKind.signed,I,J,Bool.true_and,decide_eq_true_eq];split<;>omega
theorem az.add {t yt:TypeId}{x y:Operand}{k:IntKind}{i j:Int}(U:bp ρ x=some (.int k i)) (J:bp ρ y=some (.int k j)) :
 az P ⟨dst,.binOp .add t x y yt,ty,pos,after,guard⟩ ρ h (.int k (k.wrap (i+j))):=by
 intro _ B a w I _;simp[execOp,eqGuard,binOp,Op.intArith,I.eval U,I.eval J]
theorem az.sub {t yt:TypeId}{x y:Operand}{k:IntKind}{i j:Int}(U:bp ρ x=some (.int k i)) (J:bp ρ y=some (.int k j)) :
 az P ⟨dst,.binOp .sub t x y yt,ty,pos,after,guard⟩ ρ h (.int k (k.wrap (i-j))):=by
 intro _ B a w I _;simp[execOp,eqGuard,binOp,Op.intArith,I.eval U,I.eval J]
theorem Gj {t yt:TypeId}{x y:Operand}{k:IntKind}{i j:Int}(U:bp ρ x=some (.int k i)) (J:bp ρ y=some (.int k j)) :
 az P ⟨dst,.binOp .mul t x y yt,ty,pos,after,guard⟩ ρ h (.int k (k.wrap (i*j))):=by
 intro _ B a w I _;simp[execOp,eqGuard,binOp,Op.intArith,I.eval U,I.eval J]
theorem az.ow (J:bp ρ x=some (.int .i64 i)) (I:bp ρ y=some (.int .i64 j)) (U : -9223372036854775808<=i+j/\i+j<=9223372036854775807) :
 az P ⟨dst,.binOp .add t x y yt,ty,pos,after,guard⟩ ρ h (.int .i64 (i+j)):=by
 have:=az.add (P:=P) (h:=h) (dst:=dst) (ty:=ty) (pos:=pos) (after:=after) (guard:=guard) (t:=t) (yt:=yt) J I
 rwa [wrap_i64 U] at this
theorem az.LQ (J:bp ρ x=some (.int .i64 i)) (I:bp ρ y=some (.int .i64 j)) (U : -9223372036854775808<=i-j/\i-j<=9223372036854775807) :
 az P ⟨dst,.binOp .sub t x y yt,ty,pos,after,guard⟩ ρ h (.int .i64 (i-j)):=by
 have:=az.sub (P:=P) (h:=h) (dst:=dst) (ty:=ty) (pos:=pos) (after:=after) (guard:=guard) (t:=t) (yt:=yt) J I
 rwa [wrap_i64 U] at this
theorem az.Jg (J:bp ρ x=some (.int .i64 i)) (I:bp ρ y=some (.int .i64 j)) (U : -9223372036854775808<=i*j/\i*j<=9223372036854775807) :
 az P ⟨dst,.binOp .mul t x y yt,ty,pos,after,guard⟩ ρ h (.int .i64 (i*j)):=by
 have:=Gj (P:=P) (h:=h) (dst:=dst) (ty:=ty) (pos:=pos) (after:=after) (guard:=guard) (t:=t) (yt:=yt) J I
 rwa [wrap_i64 U] at this
theorem gw {t yt:TypeId}{x y:Operand}{k:IntKind}{i j:Int}(U:bp ρ x=some (.int k i)) (J:bp ρ y=some (.int k j)) (Y:j≠0) :
 az P ⟨dst,.binOp .quo t x y yt,ty,pos,after,guard⟩ ρ h (.int k (k.wrap (i.tdiv j))):=by
 intro _ B a w I _;simp[execOp,eqGuard,binOp,Op.intDiv,I.eval U,I.eval J,Y]
theorem iB {t yt:TypeId}{x y:Operand}{k:IntKind}{i j:Int}(U:bp ρ x=some (.int k i)) (J:bp ρ y=some (.int k j)) (Y:j≠0) :
 az P ⟨dst,.binOp .rem t x y yt,ty,pos,after,guard⟩ ρ h (.int k (i.tmod j)):=by
 intro _ B a w I _;simp[execOp,eqGuard,binOp,Op.intDiv,I.eval U,I.eval J,Y]
theorem Lp {t yt:TypeId}{x y:Operand}{k:IntKind}{i j:Int}(U:bp ρ x=some (.int k i)) (J:bp ρ y=some (.int k j)) :
 az P ⟨dst,.binOp .lss t x y yt,ty,pos,after,guard⟩ ρ h (.bool (decide (i<j))):=by
 intro _ B a w I _;simp[execOp,eqGuard,binOp,Op.intCmp,I.eval U,I.eval J]
theorem Lq {t yt:TypeId}{x y:Operand}{k:IntKind}{i j:Int}(U:bp ρ x=some (.int k i)) (J:bp ρ y=some (.int k j)) :
 az P ⟨dst,.binOp .leq t x y yt,ty,pos,after,guard⟩ ρ h (.bool (decide (i<=j))):=by
 intro _ B a w I _;simp[execOp,eqGuard,binOp,Op.intCmp,I.eval U,I.eval J]
theorem Lr {t yt:TypeId}{x y:Operand}{k:IntKind}{i j:Int}(U:bp ρ x=some (.int k i)) (J:bp ρ y=some (.int k j)) :
 az P ⟨dst,.binOp .gtr t x y yt,ty,pos,after,guard⟩ ρ h (.bool (decide (j<i))):=by
 intro _ B a w I _;simp[execOp,eqGuard,binOp,Op.intCmp,I.eval U,I.eval J]
theorem Ls {t yt:TypeId}{x y:Operand}{k:IntKind}{i j:Int}(U:bp ρ x=some (.int k i)) (J:bp ρ y=some (.int k j)) :
 az P ⟨dst,.binOp .geq t x y yt,ty,pos,after,guard⟩ ρ h (.bool (decide (j<=i))):=by
 intro _ B a w I _;simp[execOp,eqGuard,binOp,Op.intCmp,I.eval U,I.eval J]
theorem az.MT (U:bp ρ x=some (.int k i)) (J:bp ρ y=some (.int k j)) :
 az P ⟨dst,.binOp .eql t x y yt,ty,pos,after,guard⟩ ρ h (.bool (decide (i=j))):=by
 intro _ B a w I _;simp[execOp,eqGuard,binOp,Op.intCmp,I.eval U,I.eval J,BR]
theorem az.MJ (U:bp ρ x=some (.int k i)) (J:bp ρ y=some (.int k j)) :
 az P ⟨dst,.binOp .neq t x y yt,ty,pos,after,guard⟩ ρ h (.bool (decide (¬i=j))):=by
 intro _ B a w I _;simp[execOp,eqGuard,binOp,Op.intCmp,I.eval U,I.eval J,bne,BR]
theorem az.MH {b:Bool}(I:bp ρ x=some (.bool b)) :
 az P ⟨dst,.unOp .not t x,ty,pos,after,guard⟩ ρ h (.bool (!b)):=by
 intro _ B a w J _;simp[execOp,Op.unary,J.eval I]
theorem az.F5 {s d:TypeId}{ds:TypeDesc}(I:P.underlying s=some ds) (Y:P.underlying d=some (.int k')) (J:bp ρ x=some (.int k i)) :
 az P ⟨dst,.convert s d x,ty,pos,after,guard⟩ ρ h (.int k' (k'.wrap i)):=by
 intro _ B a w U _;simp[execOp,convert,run_underlying Y,run_underlying I,Conv.intToInt,U.eval J]
theorem az.M0 {s d:TypeId}{ds:TypeDesc}(I:P.underlying s=some ds) (U:P.underlying d=some (.int k')) (J:bp ρ x=some (.int k i)) (hw:k'.wrap i=i) :
 az P ⟨dst,.convert s d x,ty,pos,after,guard⟩ ρ h (.int k' i):=by
 have:=az.F5 (P:=P) (h:=h) (dst:=dst) (ty:=ty) (pos:=pos) (after:=after) (guard:=guard) I U J
 rwa [hw] at this
theorem toList_eq (x y:ByteArray):(x.toList ==y.toList)=decide (x=y):=by
 rw[Bool.eq_iff_iff];simp only[beq_iff_eq,decide_eq_true_eq];constructor
 · intro I;rw[ByteArray.toList_eq,ByteArray.toList_eq] at I;cases x;cases y;simpa using I
 · rintro rfl;rfl
theorem az.MS {i j:ByteArray}(U:bp ρ x=some (.string i)) (J:bp ρ y=some (.string j)) :
 az P ⟨dst,.binOp .eql t x y yt,ty,pos,after,guard⟩ ρ h (.bool (decide (i=j))):=by
 intro _ B a w I _;simp[execOp,eqGuard,binOp,Op.stringOp,I.eval U,I.eval J,toList_eq]
theorem az.Jc {i j:ByteArray}(U:bp ρ x=some (.string i)) (J:bp ρ y=some (.string j)) :
 az P ⟨dst,.binOp .neq t x y yt,ty,pos,after,guard⟩ ρ h (.bool (decide (¬i=j))):=by
 intro _ B a w I _;simp[execOp,eqGuard,binOp,Op.stringOp,I.eval U,I.eval J,toList_eq]
theorem az.bS {i j:ByteArray}(U:bp ρ x=some (.string i)) (J:bp ρ y=some (.string j)) (hb:i.size+j.size<=9223372036854775807) :
 az P ⟨dst,.binOp .add t x y yt,ty,pos,after,guard⟩ ρ h (.string (i++j)):=by
 intro _ B a w I _;have:¬((9223372036854775807:Int)<(i.size+j.size:Nat)):=by omega
 simp[execOp,eqGuard,binOp,Op.stringOp,I.eval U,I.eval J,IntKind.max,IntKind.signed,IntKind.bits];omega
theorem az.Du {b:UInt8}(hu:P.underlying t=some .string) (Y:bp ρ x=some (.string s)) (U:bp ρ y=some (.int k j)) (i:Nat) (Z:j=i) (hb:s.data[i]? =some b) :
 az P ⟨dst,.index t x y,ty,pos,after,guard⟩ ρ h (.int .u8 b.toNat):=by
 intro _ B a w J _;subst Z
 have h1:s[i]? =some b:=by
  obtain⟨I,he⟩:=Array.getElem?_eq_some_iff.1 hb;rw[getElem?_pos s i I];exact congrArg some he
 simp[execOp,Instr.index,run_underlying hu,asIntOf,J.eval Y,J.eval U,h1]
theorem az.iS (hu:P.underlying t=some (.slice e)) (hs:cK P e=some sz)
 (U:bp ρ x=some (.slice oa n c)) (J:bp ρ y=some (.int k j)) (i:Nat) (Y:j=i) (Z:oa=some ⟨b,o,none⟩) (hi:i<n) :
 az P ⟨dst,.indexAddr t x y,ty,pos,after,guard⟩ ρ h (.pointer (some ⟨b,o+i*sz,none⟩)):=by
 intro _ B a' w I _;subst Z;subst Y;simp[execOp,Instr.indexAt,run_underlying hu,asIntOf,I.eval U,I.eval J,run_sizeOf hs,hi,Addr.add_mid]
theorem az.JC (hu:P.underlying t=some (.array n e)) (hs:cK P e=some sz)
 (U:bp ρ x=some (.pointer (some ⟨b,o,none⟩))) (J:bp ρ y=some (.int k j)) (i:Nat) (Y:j=i) (hi:i<n) :
 az P ⟨dst,.indexAddr t x y,ty,pos,after,guard⟩ ρ h (.pointer (some ⟨b,o+i*sz,none⟩)):=by
 intro _ B a' w I _;subst Y;simp[execOp,Instr.indexAt,run_underlying hu,asIntOf,I.eval U,I.eval J,run_sizeOf hs,hi,Instr.sureAddr,Addr.add_mid]
theorem eB {t:TypeId}{x:Operand}{p:Addr}{v:Value}(hr:aX P t=some false) (I:bp ρ x=some (.pointer (some p))) (hc:cellAt h p=some v) :
 az P ⟨dst,.load t x,ty,pos,after,guard⟩ ρ h v:=by
 intro _ B a w J U;simp[execOp,Instr.loadAt,Instr.sureAddr,loadVar,kf hr,J.eval I,U.cell,hc]
def rowAt (h:aq) (b o:Nat) (cs:List Value):Prop:=∀j v,cs[j]? =some v->cellAt h ⟨b,o+j,none⟩=some v
theorem az.KT (hr:aX P t=some true) (hs:cK P t=some cs.length) (I:bp ρ x=some (.pointer (some ⟨b,o,none⟩))) (hc:rowAt h b o cs) :
 az P ⟨dst,.load t x,ty,pos,after,guard⟩ ρ h (.agg cs.toArray):=by
 intro _ B a w U Y;unfold aX at hr;cases hu:P.underlying t with
 |none=>simp[hu] at hr
 |some d =>
  simp[hu] at hr;have:=run_loadAt_mid (P:=P) w b o t cs d (λj v J=>by rw[Y.cell];exact hc j v J) hu hr (by simpa [cK] using hs);simp only[execOp,U.eval I,Sem.run_bind,this,Result.andThen_ok,Sem.run_pure]
theorem gm {t:TypeId}{U:Array Field}{fd:Field}{x:Operand}{i b o off:Nat}{k:Nat}(hu:P.underlying t=some (.struct U)) (J:U[i]? =some fd) (I:fd.offset=off) (hs:cK P fd.type=some (k+1)) (Y:bp ρ x=some (.pointer (some ⟨b,o,none⟩))) :
 az P ⟨dst,.fieldAddr t x i,ty,pos,after,guard⟩ ρ h (.pointer (some ⟨b,o+off,none⟩)):=by
 intro _ B a w Z _;simp[execOp,Instr.fieldAt,run_underlying hu,J,Instr.sureAddr,fieldPlace,run_sizeOf hs,Z.eval Y,I,Addr.add_mid]
theorem az.oK {hi:Operand}{Z:Int}(hu:P.underlying t=some .string) (hx:bp ρ x=some (.string s)) (hl:bp ρ lo=some (.int k il)) (i:Nat) (J:il=i) (hh:bp ρ hi=some (.int k' Z)) (j:Nat) (I:Z=j) (U:i<=j) (hj:j<=s.size) :
 az P ⟨dst,.slice t x (some lo) (some hi) none,ty,pos,after,guard⟩ ρ h (.string (s.extract i j)):=by
 intro _ B a w Y _;subst J;subst I;simp[execOp,Instr.sliceAt,Instr.slice,Instr.sliceBounds,Instr.sliceBound,run_underlying hu,asIntOf,Y.eval hx,Y.eval hl,Y.eval hh,U,hj]
theorem az.iN (hu:P.underlying t=some .string) (Y:bp ρ x=some (.string s)) (hl:bp ρ lo=some (.int k il)) (i:Nat) (I:il=i) (J:i<=s.size) :
 az P ⟨dst,.slice t x (some lo) none none,ty,pos,after,guard⟩ ρ h (.string (s.extract i s.size)):=by
 intro _ B a w U _;subst I;simp[execOp,Instr.sliceAt,Instr.slice,Instr.sliceBounds,Instr.sliceBound,run_underlying hu,asIntOf,U.eval Y,U.eval hl,J]
def dm (oa:Option Addr) (i sz m:Nat):Option Addr:=if m=i then oa else oa.map (·.add (i*sz))
theorem az.A1 (hu:P.underlying t=some (.slice e)) (hs:cK P e=some sz) (Y:bp ρ x=some (.slice oa n c)) (hl:bp ρ lo=some (.int k il)) (i:Nat) (I:il=i) (J:i<=n) :
 az P ⟨dst,.slice t x (some lo) none none,ty,pos,after,guard⟩ ρ h (.slice (dm oa i sz c) (n-i) (c-i)):=by
 intro _ B a w U _;subst I;simp[execOp,Instr.sliceAt,Instr.slice,Instr.sliceBounds,Instr.sliceBound,run_underlying hu,asIntOf,U.eval Y,U.eval hl,J,run_sizeOf hs,dm]
theorem az.rZ {hi:Operand}{J:Int}(hu:P.underlying t=some (.slice e)) (hs:cK P e=some sz) (Y:bp ρ x=some (.slice oa n c)) (hh:bp ρ hi=some (.int k' J)) (j:Nat) (I:J=j) (Z:j<=c) :
 az P ⟨dst,.slice t x none (some hi) none,ty,pos,after,guard⟩ ρ h (.slice (dm oa 0 sz c) j c):=by
 intro _ B a w U _;subst I;simp[execOp,Instr.sliceAt,Instr.slice,Instr.sliceBounds,Instr.sliceBound,run_underlying hu,asIntOf,U.eval Y,U.eval hh,Z,run_sizeOf hs,dm]
theorem kO {f:FuncId}{xs:Array Operand}{ts:Array TypeId}{vs:List Value}{fn:Func}{Φ:Value->aq->Prop}{X:List PanicEntry->aq->Prop}
 (ab:P.funcs[f]? =some fn) (hb:fn.body.isSome=true) (aa:(fn.name == "runtime.NumGoroutine")=false) (Z:xs.toList.map (bp ρ)=vs.map some) (k:au P f vs.toArray h (λe h'=>match e with|.returned v=>Φ v h'|.panicked c=>X c h'|.outgrown=>False)) :
 aV P ⟨dst,.call ⟨.value (.func f),xs,ts⟩,ty,pos,after,guard⟩ ρ h Φ X:=by
 intro n B a w hf ha next Q hn hq
 have I:xs.map a.eval=vs.toArray:=by
  apply Array.ext'
  simp only[Array.toList_map]
  have:∀(l:List Operand) (us:List Value),l.map (bp ρ)=us.map some->l.map a.eval=us:=by
   intro l
   induction l with
   |nil=>intro us hu;cases us<;>simp_all
   |cons x r ih =>
    intro us hu;cases us with
    |nil=>simp at hu
    |cons u us =>
     simp only[List.map_cons,List.cons.injEq] at hu ⊢;exact⟨hf.eval hu.1,ih us hu.2⟩
  exact this _ _ Z
 have J:(execOp a.eval ⟨dst,.call ⟨.value (.func f),xs,ts⟩,ty,pos,after,guard⟩).run P w= .ok (.enter f vs.toArray) w:=by
  have ad:fn.body≠none:=by intro ac;simp[ac] at hb
  have U:¬fn.name= "runtime.NumGoroutine" :=by simpa using aa
  simp[execOp,resolve,Act.eval,Deferred.ofValue,invoke,callFunc,ab,U,ad,I]
 unfold Oper.wp;rw[J];refine(k B w ha).mono λe w' ⟨h',Y,hr⟩=>?_
 cases e with
 |returned v=>exact hn v h' w' Y hr
 |panicked c=>exact hq c h' w' Y hr
 |outgrown=>exact hr.elim
end
abbrev aj (h h':aq):Prop:=Ext (λ_=>False) h h'
theorem Ext.push (M:Nat->Prop) (h:aq) (o:Obj):Ext M h (h.push o) :=
 ⟨by simp,λb I _=>by simp[Array.getElem?_push,Nat.ne_of_lt I]⟩
theorem aj.of (e:aj h h'):Ext M h h':=e.mono λ_ _ k=>k.elim
theorem Ext.rowAt {M:Nat->Prop}{h h':aq}(e:Ext M h h'){b o:Nat}{cs:List Value}(hm:¬M b) (k:rowAt h b o cs):rowAt h' b o cs :=
 λj v I=>e.cell hm (k j v I)
theorem vD (h:aq) (cs:Array Value) (t:TypeId) (fr:Nat×Nat) (i:Nat) (v:Value) (I:cs[i]? =some v):cellAt (h.push (.cells cs t fr)) ⟨h.size,i,none⟩=some v:=by
 simp[cellAt,I]
def dx (h:aq) (a:Addr) (v:Value):aq :=
 h.modify a.block fun
  |.cells c elem frozen=>.cells (if a.spot.isSome then c else c.setIfInBounds a.off v) elem frozen
  |o=>o
theorem At.dx {B:World}{h:aq}{w:World}(k:At B h w) (a:Addr) (v:Value):At B (dx h a v) (w.setCell a v):=by
 refine⟨?_,k.os,k.tape,k.output⟩;rw[<-k.heap];rfl
theorem iP (h:aq) (a:Addr) (v:Value):(dx h a v).size=h.size:=by simp[dx]
theorem Ext.dx {M:Nat->Prop}(h:aq) (a:Addr) (v:Value) (hm:M a.block):Ext M h (dx h a v) :=
 ⟨by simp[iP],λb _ J=>by
  have I:¬a.block=b:=λe=>J (e▸hm)
  unfold Lw.dx;rw[Array.getElem?_modify,if_neg I]⟩
theorem si {cs:Array Value}{fr:Nat×Nat}(I:h[b]? =some (.cells cs t fr)) (v:Value):(dx h ⟨b,o,none⟩ v)[b]? =some (.cells (cs.setIfInBounds o v) t fr):=by
 simp[dx,Array.getElem?_modify,I]
section
variable {P:Program}{ρ:Env}{h:aq}{dst:Option Nat}{ty:TypeId}{pos:String}{after:Array Edge}{guard:Option (Nat×Bool)}{X:List PanicEntry->aq->Prop}
theorem aV.FT {o:Oper}(k:∀n B a w,Fits n ρ a->At B h w->∃w',(execOp a.eval o).run P w= .ok (.value v) w'/\At B h' w'):aV P o ρ h (λu g=>u=v/\g=h') X:=by
 intro n B a w U Y next Q J _
 obtain⟨w',hr,I⟩:=k n B a w U Y;unfold Oper.wp;rw[hr];exact J v h' w' I ⟨rfl,rfl⟩
theorem B2 {t:TypeId}{x:Operand}{v:Value}(J:bp ρ x=some v) :
 aV P ⟨dst,.box t x,ty,pos,after,guard⟩ ρ h (λu g=>u= .pointer (some ⟨h.size,0,none⟩)/\g=h.push (.cells v.cells t)) X:=by
 refine aV.FT λn B a w U I=>⟨{ w with heap:=w.heap.push (.cells v.cells t) },?_,?_⟩
 · simp[execOp,Instr.box,newVar,newRow,U.eval J,I.heap]
 · rw[I.heap];exact I.A3 _
theorem aV.alloc {t:TypeId}{z:Value}(I:(P.info? t).bind (·.zero)=some z) :
 aV P ⟨dst,.alloc t,ty,pos,after,guard⟩ ρ h (λu g=>u= .pointer (some ⟨h.size,0,none⟩)/\g=h.push (.cells z.cells t)) X:=by
 refine aV.FT λn B a w hf J=>⟨{ w with heap:=w.heap.push (.cells z.cells t) },?_,?_⟩
 · cases hi:P.info? t with
   |none=>simp[hi] at I
   |some i =>
    simp[hi] at I;have e:=J.heap;subst e;simp[execOp,Instr.alloc,zeroValue,typeInfo,hi,I,newVar,newRow]
 · rw[J.heap];exact J.A3 _
theorem bf {t:TypeId}{x y:Operand}{p:Addr}{u v:Value}(hs:cK P t=some 1) (hx:bp ρ x=some (.pointer (some p))) (hy:bp ρ y=some v) (h1:v.oneCell'=true) (hc:cellAt h p=some u) (U:frozenAt h p=false) :
 aV P ⟨dst,.store t x y,ty,pos,after,guard⟩ ρ h (λu g=>u=undef/\g=dx h p v) X:=by
 intro n B a w Z Y next Q hn _
 have I:v.cells= #[v]:=by cases v<;>simp[Value.oneCell'] at h1<;>rfl
 have J:(execOp a.eval ⟨dst,.store t x y,ty,pos,after,guard⟩).run P w= .ok .skip (w.setCell p v):=by
  simp[execOp,Instr.storeAt,Instr.sureAddr,storeVar,run_sizeOf hs,Z.eval hx,Z.eval hy,I,storeCells,run_store P w p v .plain h1,Y.cell,hc,Y.frozen,U,Addr.add]
 unfold Oper.wp;rw[J];exact hn undef _ _ (Y.dx p v) ⟨rfl,rfl⟩
end
def aB (h:aq) (base:Nat) (e:TypeId) (size:Nat) (v:Value) (n:Nat) (xs:List Value):Prop :=
 xs.length=n*size /\
 ((v= .slice none 0 0/\n=0) \/
  ∃g cap cur,v= .slice (some ⟨g,0,none⟩) n cap/\base<=g/\h[g]? =some (.cells cur e (0,0))/\n<=cap/\cap<=maxLen/\cur.size=cap*size/\cur.toList.take (n*size)=xs)
theorem At.own {B:World}(k:At B h w):w.ownsRow base e size v n xs↔aB h base e size v n xs:=by
 rw[<-k.heap];rfl
def bU (r:Option Nat):Nat->Prop:=λb=>some b=r
theorem nL {w':World}{r:Option Nat}(g:w.grownBy w' r):Ext (bU r) w.heap w'.heap:=⟨g.size,λb I hm=>g.block b I hm⟩
theorem At.grown {B:World}{w':World}{r:Option Nat}(k:At B h w) (g:w.grownBy w' r):At B w'.heap w':=⟨rfl,g.os.trans k.os,g.tape.trans k.tape,g.output.trans k.output⟩
theorem aB.ext (x:Ext M h h') (k:aB h base e size v n xs) (hm:∀b,v.ownBlock=some b->¬M b):aB h' base e size v n xs:=by
 refine⟨k.1,?_⟩
 rcases k.2 with J|⟨g,cap,cur,rfl,U,I,rest⟩
 · exact .inl J
 · refine .inr ⟨g,cap,cur,rfl,U,?_,rest⟩;rw[x.block g (Array.getElem?_eq_some_iff.1 I).1 (hm g rfl)];exact I
theorem aB.nil (h:aq) (base:Nat) (e:TypeId) (size:Nat):aB h base e size (.slice none 0 0) 0 []:=⟨by simp,.inl ⟨rfl,rfl⟩⟩
theorem iX {I:Nat}(k:aB h base e size v n xs) (Y:I<=base):aB h I e size v n xs:=by
 refine⟨k.1,?_⟩
 rcases k.2 with U|⟨g,cap,cur,J,h1,rest⟩
 · exact .inl U
 · exact .inr ⟨g,cap,cur,J,Nat.le_trans Y h1,rest⟩
section
variable {P:Program}{ρ:Env}{h:aq}{dst:Option Nat}{ty:TypeId}{pos:String}{after:Array Edge}{guard:Option (Nat×Bool)}{X:List PanicEntry->aq->Prop}
structure dS (P:Program) (e:TypeId) (size bytes:Nat):Prop where
 ex:∃i z,P.info? e=some i/\i.zero=some z/\i.size=size/\i.bytes=bytes/\z.cells.size=size
 pos:0<size
theorem vv (w:World) (base:Nat) (t ty e:TypeId) (size bytes:Nat) (ht:P.underlying t=some (.slice e)) (he:dS P e size bytes)
 (v:Value) (n:Nat) (xs:List Value) (I:w.ownsRow base e size v n xs)
 (a:Addr) (m c:Nat) (news:List Value) (hl:news.length=m*size) (U:∀j u,news[j]? =some u->w.cell? (a.add j)=some u) (h1:∀u∈news,u.oneCell'=true)
 (ae:n+m<=maxLen) (Y:(n+m)*bytes<=140737488355328) (ac:base<=w.heap.size) :
 ∃v' w',(Builtin.append_ #[t,t] ty #[v,.slice (some a) m c]).run P w= .ok v' w'/\w'.ownsRow base e size v' (n+m) (xs++news)/\w.grownBy w' v.ownBlock /\
  (v'= .slice none 0 0↔v= .slice none 0 0/\m=0)/\(∀b,v'.ownBlock=some b->v.ownBlock=some b\/w.heap.size<=b):=by
 obtain⟨⟨i,z,hi,hz,rfl,rfl,ag⟩,hsz⟩:=he;have hsmall:n+m<=9223372036854775807:=by simp only[maxLen] at ae;omega
 have hlen:(xs++news).length=(n+m)*i.size:=by rw[List.length_append,I.1,hl,Nat.add_mul]
 have grown:∀(old:Nat),old<n+m->∀(row:Option Nat),
  (w.drew.alloc (.cells (xs.toArray++news.toArray++Builtin.zeroCells z.cells (grownCap w (n+m) old e-(n+m))) e)).ownsRow base e i.size
   (.slice (some ⟨w.heap.size,0,none⟩) (n+m) (grownCap w (n+m) old e)) (n+m) (xs++news) /\
  w.grownBy (w.drew.alloc (.cells (xs.toArray++news.toArray++Builtin.zeroCells z.cells (grownCap w (n+m) old e-(n+m))) e)) row:=by
  intro old ho row;have ak:=grownCap_ge w (n+m) old e;have ab:grownCap w (n+m) old e<=maxLen:=grownCap_le_maxLen w (n+m) old e ae;refine⟨⟨hlen,.inr ⟨w.heap.size,_,_,rfl,ac,heap_alloc_new w.drew _,ak,ab,?_,?_⟩⟩,⟨rfl,rfl,rfl,by simp,λk hk _=>heap_alloc_old w.drew _ k hk⟩⟩
  · simp only[Array.size_append,List.size_toArray,size_zeroCells,ag,I.1,hl,<-Nat.add_mul]
    congr 1
    omega
  · simp only[Array.toList_append,List.append_assoc];rw[<-List.append_assoc,<-hlen];exact List.take_left
 rcases I.2 with ⟨rfl,rfl⟩|⟨g,cap,cur,rfl,am,hg,hnc,ab,al,aa⟩
 · have hx:xs=[]:=List.eq_nil_of_length_eq_zero (by simpa using I.1);subst hx
   by_cases hm:m=0
   · subst hm;have hn:news=[]:=List.eq_nil_of_length_eq_zero (by simpa using hl);subst hn;refine⟨.slice none 0 0,w,?_,World.ownsRow_nil w base e i.size,⟨rfl,rfl,rfl,Nat.le_refl _,λ_ _ _=>rfl⟩,by simp,by simp[Value.ownBlock]⟩;simp[Builtin.append_,run_underlying ht,sizeOf,typeInfo,hi,Builtin.lenOf,Builtin.firstCells,loadCells,loadCellsFrom]
   · have hr:=run_append_nil (P:=P) w t ty e i z ht hi hz a m c news hl U (by omega) (by omega) (by have hb:=Y;simp only[Nat.zero_add] at hb;omega);have Z:=grown 0 (by omega) (Value.ownBlock (.slice none 0 0));simp only[Nat.zero_add,List.nil_append,Array.empty_append] at Z ⊢;exact⟨_,_,hr,Z.1,Z.2,by simp[hm],λb hb=>.inr (by simp[Value.ownBlock] at hb;omega)⟩
 · by_cases J:n+m<=cap
   · have ad:n*i.size+news.length<=cur.size:=by rw[hl,al,<-Nat.add_mul];exact Nat.mul_le_mul_right _ J
     have hr:=run_append_room (P:=P) w t ty e i ht hi g n cap cur hg a m c news hl U h1 J ad;refine⟨_,_,hr,⟨hlen,.inr ⟨g,cap,_,rfl,am,setRow_heap w g cur _ e _ hg,J,ab,?_,?_⟩⟩,⟨rfl,rfl,rfl,by simp,λk _ hk=>setRow_other w g k _ (λe=>hk (by simp[Value.ownBlock,e]))⟩,by simp,λb hb=>.inl hb⟩
     · simp only[List.size_toArray,List.length_append,List.length_take,List.length_drop,Array.length_toList];omega
     · rw[aa,<-hlen];exact List.take_left
   · have holds:∀j u,xs[j]? =some u->w.cell? ((⟨g,0,none⟩:Addr).add j)=some u:=I.cells (g:=g) rfl;have hr:=run_append_grow (P:=P) w t ty e i z ht hi hz ⟨g,0,none⟩ n cap xs I.1 holds a m c news hl U (by omega) (by omega) (growslice_fits (by omega) Y);have Z:=grown cap (by omega) (Value.ownBlock (.slice (some ⟨g,0,none⟩) n cap));exact⟨_,_,hr,Z.1,Z.2,by simp,λb hb=>.inr (by simp[Value.ownBlock] at hb;omega)⟩
theorem aV.append {t e:TypeId}{size bytes:Nat}{x y:Operand}{v:Value}{n:Nat}{xs news:List Value}{oa:Option Addr}{m c base:Nat}(ht:P.underlying t=some (.slice e)) (he:dS P e size bytes)
 (hx:bp ρ x=some v) (hy:bp ρ y=some (.slice oa m c)) (I:aB h base e size v n xs) (hl:news.length=m*size)
 (Z:m=0\/∃b o,oa=some ⟨b,o,none⟩/\rowAt h b o news) (h1:∀u∈news,u.oneCell'=true)
 (ae:n+m<=maxLen) (U:(n+m)*bytes<=140737488355328) (aa:base<=h.size) :
 aV P ⟨dst,.call ⟨.builtin .append,#[x,y],#[t,t]⟩,ty,pos,after,guard⟩ ρ h (λv' h'=>aB h' base e size v' (n+m) (xs++news)/\Ext (bU v.ownBlock) h h'/\(v'= .slice none 0 0↔v= .slice none 0 0/\m=0)/\(∀b,v'.ownBlock=some b->v.ownBlock=some b\/h.size<=b)) X:=by
 intro nn B a w J Y next Q hn _
 have hw:w.ownsRow base e size v n xs:=Y.own.2 I
 rcases Z with rfl|⟨b,o,rfl,ac⟩
 · have ad:news=[]:=List.eq_nil_of_length_eq_zero (by simpa using hl);subst ad
   have ab:(execOp a.eval ⟨dst,.call ⟨.builtin .append,#[x,y],#[t,t]⟩,ty,pos,after,guard⟩).run P w= .ok (.value v) w:=by
    obtain⟨⟨i,z,hi,hz,hsz,hby,hzs⟩,hpos⟩:=he
    rcases I.2 with ⟨rfl,rfl⟩|⟨g,cap,cur,rfl,hb,hgg,hle,rest⟩<;>cases oa
    · simp[execOp,resolve,invoke,builtin,J.eval hx,J.eval hy,Builtin.append_,run_underlying ht,sizeOf,typeInfo,hi,Builtin.lenOf,Builtin.firstCells]
    · simp[execOp,resolve,invoke,builtin,J.eval hx,J.eval hy,Builtin.append_,run_underlying ht,sizeOf,typeInfo,hi,Builtin.lenOf,Builtin.firstCells,loadCells,loadCellsFrom]
    · simp[execOp,resolve,invoke,builtin,J.eval hx,J.eval hy,Builtin.append_,run_underlying ht,sizeOf,typeInfo,hi,Builtin.lenOf,Builtin.firstCells,hle,storeCells]
    · simp[execOp,resolve,invoke,builtin,J.eval hx,J.eval hy,Builtin.append_,run_underlying ht,sizeOf,typeInfo,hi,Builtin.lenOf,Builtin.firstCells,loadCells,loadCellsFrom,hle,storeCells]
   unfold Oper.wp;rw[ab];exact hn v h w Y ⟨by simpa using I,Ext.refl _ _,by simp,λb hb=>.inl hb⟩
 · obtain⟨v',w',hr,h2,h3,h4,h5⟩:=vv (P:=P) w base t ty e size bytes ht he v n xs hw ⟨b,o,none⟩ m c news hl (λj u hu=>by rw[Addr.add_mid,Y.cell];exact ac j u hu) h1 ae U (by rw[Y.heap];exact aa);unfold Oper.wp execOp;simp only[resolve,invoke,builtin,Sem.run_bind,Sem.run_pure,Result.andThen_ok,List.map_toArray,List.map_cons,List.map_nil,J.eval hx,J.eval hy,hr];refine hn v' w'.heap w' (Y.grown h3) ⟨(At.own (Y.grown h3)).1 h2,?_,h4,?_⟩
   · rw[<-Y.heap];exact nL h3
   · rw[<-Y.heap];exact h5
theorem zZ {ρ:Env}{a:Act}(J:Fits n ρ a){ps:Array (Nat×Operand)}{vs:List (Nat×Value)}(h:ps.toList.map (λp=>(p.1,bp ρ p.2))=vs.map (λp=>(p.1,some p.2))) :
 (ps.map fun(i,x)=>(i,a.eval x))=vs.toArray:=by
 apply Array.ext'
 simp only[Array.toList_map];generalize ps.toList=l at h
 revert vs
 induction l with
 |nil=>intro vs h;cases vs<;>simp_all
 |cons p r I =>
  intro vs h;cases vs with
  |nil=>simp at h
  |cons q us =>
   obtain⟨i,x⟩:=p;obtain⟨j,v⟩:=q;simp only[List.map_cons,List.cons.injEq,Prod.mk.injEq] at h ⊢;exact⟨⟨h.1.1,J.eval h.1.2⟩,I h.2⟩
theorem kP {t e:TypeId}{size bytes len:Nat}{ps:Array (Nat×Operand)}{vs:List (Nat×Value)}{cells:Array Value}(ht:P.underlying t=some (.slice e)) (he:dS P e size bytes)
 (aa:ps.toList.map (λp=>(p.1,bp ρ p.2))=vs.map (λp=>(p.1,some p.2))) (hlen:len*size<=16777216)
 (I:∀z:Array Value,z.size=size->Instr.fill (λi=>some (i*size,size)) ((Array.range (len*size)).map (z[· %z.size]!)) vs=some cells) :
 aV P ⟨dst,.buildSlice t len ps,ty,pos,after,guard⟩ ρ h (λu g=>u= .slice (some ⟨h.size,0,none⟩) len len/\g=h.push (.cells cells e)) X:=by
 obtain⟨⟨i,z,hi,hz,rfl,rfl,U⟩,hsz⟩:=he;refine aV.FT λn B a w hf ha=>?_
 have e:=ha.heap;subst e;refine⟨{ w with heap:=w.heap.push (.cells cells _) },?_,ha.A3 _⟩;have Z:=zZ hf aa;have hle:¬(len*i.size>2 ^ 24):=by omega
 by_cases h0:len*i.size=0
 · have J:=I z.cells U;rw[h0] at J;have Y:∀f:Nat->Value,(Array.range 0).map f= #[]:=λf=>by apply Array.ext';simp
   have ab:Instr.fill (λj=>some (j*i.size,i.size)) #[] vs=some cells:=by rw[Y] at J;exact J
   simp only[execOp,Z,Instr.buildSlice,Sem.run_bind,run_underlying ht,Result.andThen_ok,sizeOf,typeInfo,run_program,hi,Sem.run_pure,if_neg hle];simp[h0,Y,ab,newRow]
 · simp only[execOp,Z,Instr.buildSlice,Sem.run_bind,run_underlying ht,Result.andThen_ok,sizeOf,typeInfo,run_program,hi,Sem.run_pure,if_neg hle,if_neg h0];have J:=I z.cells U;simp[zeroValue,typeInfo,hi,hz,J,newRow]
theorem Am:∀(us:List Value),(∀u∈us,u.oneCell'=true)->∀(k:Nat) (pre:List Value) (I:List Value),pre.length=k->I.length=us.length ->
 Instr.fill (λi=>some (i*1,1)) (pre++I).toArray (us.zipIdx k |>.map λp=>(p.2,p.1))=some (pre++us).toArray
 | [],_,k,pre,I,_,hl=>by
  have:I=[]:=List.eq_nil_of_length_eq_zero (by simpa using hl);subst this;simp[Instr.fill]
 |u::us,h1,k,pre,I,Y,hl=>by
  cases I with
  |nil=>simp at hl
  |cons t I =>
   have hu:u.cells= #[u]:=by have:=h1 u (by simp);cases u<;>simp[Value.oneCell'] at this<;>rfl
   have U:=Am us (λv Z=>h1 v (by simp[Z])) (k+1) (pre++[u]) I (by simp[Y]) (by simpa using hl);simp only[List.zipIdx_cons,List.map_cons,Instr.fill,hu,Nat.mul_one];have h2:¬((#[u]:Array Value).size≠1\/k+(#[u]:Array Value).size>(pre++t::I).toArray.size):=by simp;omega
   simp only[List.append_assoc,List.singleton_append,Nat.mul_one] at U
   have J:(pre++t::I).toArray.setIfInBounds k u=(pre++u::I).toArray:=by
    subst Y;simp[List.set_append_right]
   simp[J,U];omega
theorem aV.uf {bytes len:Nat}{ps:Array (Nat×Operand)}{us:List Value}(J:P.underlying t=some (.slice e)) (he:dS P e 1 bytes)
 (I:ps.toList.map (λp=>(p.1,bp ρ p.2))=(us.zipIdx.map λp=>(p.2,p.1)).map (λp=>(p.1,some p.2))) (hl:us.length=len) (hlen:len<=16777216) (h1:∀u∈us,u.oneCell'=true) :
 aV P ⟨dst,.buildSlice t len ps,ty,pos,after,guard⟩ ρ h (λu g=>u= .slice (some ⟨h.size,0,none⟩) len len/\g=h.push (.cells us.toArray e)) X:=by
 refine kP J he I (by omega) λz hz=>?_
 have:=Am us h1 0 [] ((List.range (len*1)).map (λj=>z[j%z.size]!)) rfl (by simp[hl]);simp only[List.nil_append] at this;rw[<-this]
 congr 1
 apply Array.ext'
 simp
end
structure Mv (O O':Nat->Prop) (h h':aq):Prop where
 size:h.size<=h'.size
 block:∀b,b<h.size->¬O b->h'[b]? =h[b]? /\¬O' b
theorem Mv.bY {O':Nat->Prop}(e:Ext M h h') (hm:∀b,b<h.size->¬O b->¬M b/\¬O' b):Mv O O' h h' :=
 ⟨e.size,λb I J=>⟨e.block b I (hm b I J).1,(hm b I J).2⟩⟩
theorem Mv.ah (e:aj h h'):Mv O O h h':=⟨e.size,λb J I=>⟨e.block b J (λk=>k),I⟩⟩
theorem Mv.cell {O':Nat->Prop}(m:Mv O O' h h') (I:¬O a.block) (k:cellAt h a=some v):cellAt h' a=some v:=by
 have:=(m.block a.block (eu k) I).1;unfold cellAt at *;rw[this];exact k
theorem Mv.rowAt {O O':Nat->Prop}{h h':aq}(m:Mv O O' h h'){b o:Nat}{cs:List Value}(J:¬O b) (k:rowAt h b o cs):rowAt h' b o cs:=λj v I=>m.cell J (k j v I)
theorem eT (k:rowAt h b o cs) (I:cs≠[]):b<h.size:=by
 cases cs with
 |nil=>exact absurd rfl I
 |cons v r=>exact eu (k 0 v rfl)
structure gW (α:Type) where
 sz:Nat
 pos:0<sz
 R:aq->(Nat->Prop)->List Value->α->Prop
 len:∀{h O cs x},R h O cs x->cs.length=sz
 one:∀{h O cs x},R h O cs x->∀v∈cs,v.oneCell'=true
 mv:∀{h O h' O' cs x},R h O cs x->Mv O O' h h'->R h' O' cs x
def gW.flat {α:Type}(enc:α->Value) (h1:∀x,(enc x).oneCell'=true):gW α where
 sz:=1
 pos:=Nat.one_pos
 R:=λ_ _ cs x=>cs=[enc x]
 len:=λh=>by subst h;rfl
 one:=λh v hv=>by subst h;simp at hv;subst hv;exact h1 _
 mv:=λh _=>h
def gW.int (k:IntKind):gW Int:=.flat (.int k) λ_=>rfl
def gW.bool:gW Bool:=.flat .bool λ_=>rfl
def gW.byte:gW UInt8:=.flat (λb=>.int .u8 b.toNat) λ_=>rfl
def aL {α:Type}(e:gW α) (h:aq) (O:Nat->Prop) (v:Value) (xs:List α):Prop :=
 ∃oa n c,v= .slice oa n c/\xs.length=n/\n<=c/\c<=maxLen /\
  ∀i x,xs[i]? =some x->∃b o cs,oa=some ⟨b,o,none⟩/\¬O b/\rowAt h b (o+i*e.sz) cs/\e.R h O cs x
theorem aL.mv {α:Type}{e:gW α}{h h':aq}{O O':Nat->Prop}{v:Value}{xs:List α}(k:aL e h O v xs) (m:Mv O O' h h'):aL e h' O' v xs:=by
 obtain⟨oa,n,c,hv,hl,J,hc,k⟩:=k;refine⟨oa,n,c,hv,hl,J,hc,λi x hx=>?_⟩;obtain⟨b,o,cs,h1,Z,Y,U⟩:=k i x hx;have I:cs≠[]:=by intro e0;have:=e.len U;have:=e.pos;subst e0;simp at *;omega
 exact⟨b,o,cs,h1,(m.block b (eT Y I) Z).2,m.rowAt Z Y,e.mv U m⟩
structure Sl {α:Type}(e:gW α) (h:aq) (O:Nat->Prop) (oa:Option Addr) (n c:Nat) (xs:List α):Prop where
 len:xs.length=n
 le:n<=c
 cap:c<=maxLen
 get:∀i x,xs[i]? =some x->∃b o cs,oa=some ⟨b,o,none⟩/\¬O b/\rowAt h b (o+i*e.sz) cs/\e.R h O cs x
theorem aL.open {e:gW α}{xs:List α}(k:aL e h O v xs):∃oa n c,v= .slice oa n c/\Sl e h O oa n c xs:=by
 obtain⟨oa,n,c,J,hl,I,hc,k⟩:=k;exact⟨oa,n,c,J,hl,I,hc,k⟩
theorem Sl.shut {e:gW α}{xs:List α}(k:Sl e h O oa n c xs):aL e h O (.slice oa n c) xs:=⟨oa,n,c,rfl,k.len,k.le,k.cap,k.get⟩
theorem Sl.mv {α:Type}{e:gW α}{h h':aq}{O O':Nat->Prop}{oa:Option Addr}{n c:Nat}{xs:List α}(k:Sl e h O oa n c xs) (m:Mv O O' h h'):Sl e h' O' oa n c xs:=by
 obtain⟨oa',n',c',I,k'⟩:=(k.shut.mv m).open;cases I;exact k'
theorem Sl.at {enc:α->Value} {h1:∀x,(enc x).oneCell'=true}{xs:List α}(k:Sl (.flat enc h1) h O oa n c xs){i:Nat}(hi:i<n) :
 ∃b o x,oa=some ⟨b,o,none⟩/\¬O b/\xs[i]? =some x/\cellAt h ⟨b,o+i*1,none⟩=some (enc x):=by
 have hl:i<xs.length:=by rw[k.len];exact hi
 obtain⟨b,o,cs,U,J,hr,Y⟩:=k.get i xs[i] (List.getElem?_eq_getElem hl);refine⟨b,o,xs[i],U,J,List.getElem?_eq_getElem hl,?_⟩;have I:cs=[enc xs[i]]:=Y;subst I;have:=hr 0 _ rfl;simpa [gW.flat] using this
theorem aB.shut {enc:α->Value} {h1:∀x,(enc x).oneCell'=true}{xs:List α}(k:aB h base t 1 v n (xs.map enc)) (ho:∀b,base<=b->¬O b):aL (.flat enc h1) h O v xs:=by
 have hl:xs.length=n:=by have:=k.1;simpa using this
 rcases k.2 with ⟨rfl,rfl⟩|⟨g,cap,cur,rfl,hb,hg,J,hc,hs,ht⟩
 · exact⟨none,0,0,rfl,hl,Nat.le_refl _,by simp[maxLen],λi x I=>by
    have:xs=[]:=List.eq_nil_of_length_eq_zero hl;subst this;simp at I⟩
 · refine⟨some ⟨g,0,none⟩,n,cap,rfl,hl,J,hc,λi x I=>⟨g,0,[enc x],rfl,ho g hb,?_,rfl⟩⟩;intro j u Y;have U:j=0:=by cases j with|zero=>rfl|succ j=>simp at Y
   subst U;simp at Y;subst Y
   have hi:i<n:=by
    rcases Nat.lt_or_ge i n with h|h
    · exact h
    · rw[List.getElem?_eq_none (by omega)] at I;cases I
   have Z:(cur.toList.take (n*1))[i]? =some (enc x):=by rw[ht];simp[I]
   rw[List.getElem?_take,if_pos (by omega)] at Z;simpa [cellAt,hg,gW.flat] using Z
theorem ai {ρ:Env}{i:Nat}{b b':Bool}(h:ρ.at i=some (.bool b)) (e:b=b'):ρ.at i=some (.bool b'):=by rw[h,e]
theorem Ext.old (e:Ext (λb=>h.size<=b) h h') (k:cellAt h a=some v):cellAt h' a=some v:=e.cell (Nat.not_le.2 (eu k)) k
theorem Ext.Bk (e:Ext (λb=>h.size<=b) h h') (k:Lw.rowAt h b o cs):Lw.rowAt h' b o cs:=λj v I=>e.old (k j v I)
theorem sL (e:Ext (bU none) h h'):aj h h':=e.mono λ_ _ k=>by cases k
structure Ow (h:aq) (base:Nat) (t:TypeId) (size:Nat) (oa:Option Addr) (n c:Nat) (xs:List Value):Prop where
 own:aB h base t size (.slice oa n c) n xs
 len:xs.length=n*size
 le:n<=c
 cap:c<=maxLen
theorem aB.open (k:aB h base t size v n xs):∃oa c,v= .slice oa n c/\Ow h base t size oa n c xs:=by
 rcases k.2 with ⟨rfl,rfl⟩|⟨g,cap,cur,rfl,hb,hg,I,hc,rest⟩
 · exact⟨none,0,rfl,k,k.1,Nat.le_refl _,by simp[maxLen]⟩
 · exact⟨_,cap,rfl,k,k.1,I,hc⟩
theorem Ow.blk (k:Ow h base t size oa n c xs) (hn:0<n) :
 ∃g cur,oa=some ⟨g,0,none⟩/\base<=g/\g<h.size/\h[g]? =some (.cells cur t (0,0))/\cur.size=c*size/\cur.toList.take (n*size)=xs:=by
 rcases k.own.2 with ⟨_,h0⟩|⟨g,cap,cur,J,Y,I,hnc,hc,hs,U⟩
 · omega
 · cases J;exact⟨g,cur,rfl,Y,(Array.getElem?_eq_some_iff.1 I).1,I,hs,U⟩
theorem Ow.at {h:aq}{base:Nat}{t:TypeId}{oa:Option Addr}{n c:Nat}{xs:List Value}(k:Ow h base t 1 oa n c xs){i:Nat}{x:Value}(I:xs[i]? =some x) :
 ∃g,oa=some ⟨g,0,none⟩/\base<=g/\g<h.size/\cellAt h ⟨g,0+i*1,none⟩=some x/\frozenAt h ⟨g,0+i*1,none⟩=false:=by
 have hi:i<n:=by
  rcases Nat.lt_or_ge i n with h1|h1
  · exact h1
  · rw[List.getElem?_eq_none (by have:=k.len;omega)] at I;cases I
 obtain⟨g,cur,ha,hb,J,U,hs,Z⟩:=k.blk (by omega);refine⟨g,ha,hb,J,?_,by simp[frozenAt,U]⟩;have Y:(cur.toList.take (n*1))[i]? =some x:=by rw[Z];exact I
 rw[List.getElem?_take,if_pos (by omega)] at Y;simpa [cellAt,U] using Y
theorem Sl.part {e:gW α}{xs:List α}(k:Sl e h O oa n c xs){i j:Nat}(hij:i<=j) (hj:j<=n):Sl e h O (dm oa i e.sz c) (j-i) (c-i) ((xs.take j).drop i):=by
 have hl:=k.len;have hle:=k.le;have hc:=k.cap;refine⟨by simp;omega,by omega,by omega,λm x I=>?_⟩
 have hm:m<((xs.take j).drop i).length:=by
  rcases Nat.lt_or_ge m ((xs.take j).drop i).length with h1|h1
  · exact h1
  · rw[List.getElem?_eq_none h1] at I;cases I
 simp at hm;rw[List.getElem?_drop,List.getElem?_take,if_pos (by omega)] at I;obtain⟨b,o,cs,U,J,hr,Y⟩:=k.get (i+m) x I;refine⟨b,o+i*e.sz,cs,?_,J,?_,Y⟩
 · unfold dm;rw[if_neg (by omega),U];simp[Addr.add_mid]
 · rw[Nat.add_assoc,<-Nat.add_mul];exact hr
theorem Sl.row {enc:α->Value} {h1:∀x,(enc x).oneCell'=true}{xs:List α}(k:Sl (.flat enc h1) h O oa n c xs):n=0\/∃b o,oa=some ⟨b,o,none⟩/\rowAt h b o (xs.map enc):=by
 rcases Nat.eq_zero_or_pos n with h0|h0
 · exact .inl h0
 · obtain⟨b,o,x,ha,_,_,_⟩:=k.at h0;refine .inr ⟨b,o,ha,λj v J=>?_⟩
   have hj:j<n:=by
    rcases Nat.lt_or_ge j n with Z|Z
    · exact Z
    · rw[List.getElem?_eq_none (by simpa [k.len] using Z)] at J;cases J
   obtain⟨b',o',x',I,_,U,Y⟩:=k.at hj;rw[ha] at I;cases I;rw[List.getElem?_map,U] at J;cases J;simpa using Y
theorem Ow.set {h:aq}{base:Nat}{t:TypeId}{oa:Option Addr}{n c:Nat}{xs:List Value}(k:Ow h base t 1 oa n c xs){g i:Nat}(J:oa=some ⟨g,0,none⟩) (hi:i<n) (u:Value) :
 Ow (dx h ⟨g,0+i*1,none⟩ u) base t 1 oa n c (xs.set i u):=by
 obtain⟨g',cur,I,Z,hlt,Y,hs,U⟩:=k.blk (by omega);rw[J] at I;cases I;refine⟨⟨by simp[k.len],.inr ⟨g,c,cur.setIfInBounds (0+i*1) u,by rw[J],Z,si Y u,k.le,k.cap,by simpa using hs,?_⟩⟩,by simp[k.len],k.le,k.cap⟩;rw[<-U];simp[List.take_set]
theorem Ow.take {h:aq}{base:Nat}{t:TypeId}{size:Nat}{oa:Option Addr}{n c:Nat}{xs:List Value}(k:Ow h base t size oa n c xs){m:Nat}(hm:m<=n) (sz:Nat) :
 aB h base t size (.slice (dm oa 0 sz c) m c) m (xs.take (m*size)):=by
 have U:dm oa 0 sz c=oa:=by
  unfold dm;split
  · rfl
  · cases oa<;>simp[Addr.add]
 rw[U];refine⟨by rw[List.length_take,k.len];exact Nat.min_eq_left (Nat.mul_le_mul_right _ hm),?_⟩
 rcases k.own.2 with ⟨I,h0⟩|⟨g,cap,cur,I,Z,Y,hnc,hc,hs,J⟩
 · cases I;obtain rfl:m=0:=by omega
   exact .inl ⟨rfl,rfl⟩
 · cases I;refine .inr ⟨g,c,cur,rfl,Z,Y,by omega,hc,hs,?_⟩;rw[<-J,List.take_take,Nat.min_eq_left (Nat.mul_le_mul_right _ hm)]
theorem HS (h:aq) (us:List Value) (t:TypeId) (n:Nat) (hl:us.length=n) (I:n<=maxLen) (base:Nat) (J:base<=h.size) :
 aB (h.push (.cells us.toArray t)) base t 1 (.slice (some ⟨h.size,0,none⟩) n n) n us :=
 ⟨by simp[hl],.inr ⟨h.size,n,us.toArray,rfl,J,by simp,Nat.le_refl _,I,by simp[hl],by simp[<-hl]⟩⟩
theorem aL.nil (e:gW α) (h:aq) (O:Nat->Prop):aL e h O (.slice none 0 0) [] :=
 ⟨none,0,0,rfl,rfl,Nat.le_refl _,by simp[maxLen],λi x I=>by simp at I⟩
theorem aL.ah {α:Type}{e:gW α}{h h':aq}{O:Nat->Prop}{v:Value}{xs:List α}(k:aL e h O v xs) (x:aj h h'):aL e h' O v xs:=k.mv (Mv.ah x)
theorem aB.lt (k:aB h base t size v n xs) (J:v.ownBlock=some b):base<=b/\b<h.size:=by
 rcases k.2 with ⟨rfl,_⟩|⟨g,cap,cur,rfl,I,U,_⟩
 · simp[Value.ownBlock] at J
 · simp[Value.ownBlock] at J;subst J;exact⟨I,(Array.getElem?_eq_some_iff.1 U).1⟩
theorem Ext.own (J:aj h0 h) (k:aB h base t size v n xs) (hb:h0.size<=base) (e:Ext (bU v.ownBlock) h h'):aj h0 h':=by
 refine⟨Nat.le_trans J.size e.size,λb I _=>?_⟩;rw[e.block b (Nat.lt_of_lt_of_le I J.size) (λhm=>by have:=(k.lt hm.symm).1;omega)];exact J.block b I (λk=>k)
theorem aj.set (e:aj h0 h) (ha:h0.size<=a.block) (v:Value):aj h0 (dx h a v) :=
 ⟨by rw[iP];exact e.size,λb I hm=>by
  rw[(Ext.dx (M:=λi=>i=a.block) h a v rfl).block b (Nat.lt_of_lt_of_le I e.size) (by omega)];exact e.block b I hm⟩
theorem HW (e:aj h0 h) (k:Ext (λb=>h0.size<=b) h h'):aj h0 h' :=
 ⟨Nat.le_trans e.size k.size,λb I hm=>(k.block b (Nat.lt_of_lt_of_le I e.size) (by omega)).trans (e.block b I hm)⟩
structure Wr {α:Type}(enc:α->Value) (h1:∀x,(enc x).oneCell'=true) (h:aq) (base:Nat) (oa:Option Addr) (n c:Nat) (xs:List α):Prop where
 sl:Sl (.flat enc h1) h (λb=>b<base) oa n c xs
 nf:∀b o i,oa=some ⟨b,o,none⟩->i<n->frozenAt h ⟨b,o+i*1,none⟩=false
def RQ (P:Program) (n:Nat) (ops:Array Oper) (i:Nat) (ρ:Env) (h:aq) (N:Env->Prop):Prop :=
 ∀B a w,Fits n ρ a->At B h w->wpQuiet P ops (At B h) (λa'=>∃ρ',Fits n ρ' a'/\N ρ') (ops.toList.drop i) a
section
variable {P:Program}{n:Nat}{ops:Array Oper}{i:Nat}{ρ:Env}{h:aq}{N:Env->Prop}
theorem lK {o:Oper}:∀{l:List Oper}{i:Nat},nth l i=some o->l.drop i=o::l.drop (i+1)
 | [],_,h=>by simp[nth] at h
 |a::l,0,h=>by simp[nth] at h;simp[h]
 |a::l,i+1,h=>by simpa using lK (l:=l) (i:=i) (by simpa [nth] using h)
theorem RQ.cC {o:Oper}(Y:nth ops.toList i=some o) (hw:aW ops ρ o=some true) (J:o.dst=some d) (Z:Nat.blt d n=true) (k:az P o ρ h v)
 (next:RQ P n ops (i+1) ((d,v)::ρ) h N):RQ P n ops i ρ h N:=by
 intro B a w U ha;rw[lK Y];simp only[wpQuiet];rw[fy U hw,if_pos rfl];refine⟨v,λw' I=>?_,?_⟩
 · unfold Oper.quietAt;rw[k n B a w' U I];exact⟨rfl,rfl⟩
 · have:=next B (a.put o.dst v) w (by rw[J];exact U.put (dst:=some d) Z v) ha
   exact this
theorem RQ.OE {o:Oper}{f:FuncId}{xs:Array Operand}{ts:Array TypeId}{vs:List Value}{fn:Func}(ho:nth ops.toList i=some o) (aa:o.op= .call ⟨.value (.func f),xs,ts⟩) (hw:aW ops ρ o=some true) (ab:o.dst=some d) (hd:Nat.blt d n=true)
 (ad:P.funcs[f]? =some fn) (hb:fn.body.isSome=true) (ac:(fn.name == "runtime.NumGoroutine")=false) (Z:xs.toList.map (bp ρ)=vs.map some)
 (k:au P f vs.toArray h (bK λu h'=>u=v/\h'=h))
 (next:RQ P n ops (i+1) ((d,v)::ρ) h N):RQ P n ops i ρ h N:=by
 intro B a w hf ha;rw[lK ho];simp only[wpQuiet];rw[fy hf hw,if_pos rfl];refine⟨v,λw' Y=>?_,?_⟩
 · have I:xs.map a.eval=vs.toArray:=by
    apply Array.ext'
    simp only[Array.toList_map]
    have:∀(l:List Operand) (us:List Value),l.map (bp ρ)=us.map some->l.map a.eval=us:=by
     intro l
     induction l with
     |nil=>intro us hu;cases us<;>simp_all
     |cons x r ih =>
      intro us hu;cases us with
      |nil=>simp at hu
      |cons u us =>
       simp only[List.map_cons,List.cons.injEq] at hu ⊢;exact⟨hf.eval hu.1,ih us hu.2⟩
    exact this _ _ Z
   have J:(execOp a.eval o).run P w'= .ok (.enter f vs.toArray) w':=by
    have ag:fn.body≠none:=by intro ae;simp[ae] at hb
    have U:¬fn.name= "runtime.NumGoroutine" :=by simpa using ac
    simp[execOp,aa,resolve,Act.eval,Deferred.ofValue,invoke,callFunc,ad,U,ag,I]
   unfold Oper.quietAt;rw[J];refine⟨rfl,(k B w' Y).mono ?_⟩;rintro e w'' ⟨h',ak,u,he,hu,hh⟩;subst he;subst hu;subst hh;exact⟨rfl,ak⟩
 · have:=next B (a.put o.dst v) w (by rw[ab];exact hf.put (dst:=some d) hd v) ha
   exact this
theorem RQ.wq {o:Oper}(U:nth ops.toList i=some o) (hw:aW ops ρ o=some false) (I:o.dst=some d) (Y:Nat.blt d n=true)
 (next:RQ P n ops (i+1) ((d,undef)::ρ) h N):RQ P n ops i ρ h N:=by
 intro B a w J Z;rw[lK U];simp only[wpQuiet];rw[fy J hw,if_neg (by simp)];exact next B (a.put o.dst undef) w (by rw[I];exact J.put (dst:=some d) Y undef) Z
theorem Ln (hi:Nat.ble ops.size i=true) (next:N ρ):RQ P n ops i ρ h N:=by
 intro B a w I ha;have:ops.size<=i:=Nat.le_of_ble_eq_true hi;rw[List.drop_eq_nil_of_le (by simpa using this)];exact⟨ρ,I,next⟩
theorem D0 {d:Nat}{b:Bool}(hb:ρ.at d=some (.bool b)) (Y:b=true->RQ P n ops i ((d,.bool true)::ρ) h N) (Z:b=false->RQ P n ops i ((d,.bool false)::ρ) h N):RQ P n ops i ρ h N:=by
 have key:∀a,Fits n ρ a->Fits n ((d,.bool b)::ρ) a:=λa I=>⟨I.size,λj v J=>by
  rw[Env.fS] at J;split at J
  · rename_i e;subst e;cases J;exact I.ok d _ hb
  · exact I.ok j v J,I.nd⟩
 cases b with
 |true=>exact λB a w I U=>Y rfl B a w (key a I) U
 |false=>exact λB a w I U=>Z rfl B a w (key a I) U
theorem RQ.bw {b b':Bool}(I:ρ.at d=some (.bool b)) (e:b=b') (next:RQ P n ops i ((d,.bool b')::ρ) h N):RQ P n ops i ρ h N:=by
 subst e;refine D0 I (λe=>?_) (λe=>?_)<;>(subst e;exact next)
end
section
variable {P:Program}{f:FuncId}{fn:Func}{k:List It}{ρ:Env}{h:aq}{R:Ending->aq->Prop}{p:List Nat}
theorem G.Ma (U:P.funcs[f]? =some fn) (hm:P.follows .mixedOrders=true) (hk:kind (Lw.sub (ax fn) p)=6) (hB:Region.lexB .any (opsOf (Lw.sub (ax fn) p))=true)
 (next:RQ P fn.ntmps (opsOf (Lw.sub (ax fn) p)) 0 ρ h (λρ'=>G P f fn k ρ' h R)):G P f fn (.code p::k) ρ h R:=by
 refine vY (λB a w hf ha=>?_) U;cases hc:Lw.sub (ax fn) p<;>simp[hc,kind] at hk;rename_i id ops d;cases d with
 |false=>simp at hk
 |true =>
  rw[hc] at next hB
  refine wp_region_quiet (C:=At B h) hm hB ha.drew ?_;have h1:=next B a w hf ha
  simp only[opsOf,List.drop_zero] at h1
  have I:∀(l:List Oper) (a:Act),wpQuiet P ops (At B h) (λa'=>∃ρ',Fits fn.ntmps ρ' a'/\G P f fn k ρ' h R) l a ->
   wpQuiet P ops (At B h) (λa'=>∀w',At B h w'->(∃ρ' h',Fits fn.ntmps ρ' a'/\At B h' w'/\G P f fn k ρ' h' R)) l a:=by
   intro l
   induction l with
   |nil=>exact λa ⟨ρ',Y,hg⟩ w' Z=>⟨ρ',h,Y,Z,hg⟩
   |cons o r ih =>
    intro a J;simp only[wpQuiet] at J ⊢
    by_cases hw:Region.wanted o (yielded ops a.tmps)=true
    · rw[if_pos hw] at J ⊢;obtain⟨v,h2,h3⟩:=J;exact⟨v,h2,ih _ h3⟩
    · rw[if_neg hw] at J ⊢;exact ih _ J
  exact I _ _ h1
end
end
end Go.Lw
