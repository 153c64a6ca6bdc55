/- Part 15. -/
import Derived.Lib.MakeNoZero
import Derived.Laws.CopyOwn
import Derived.Test.YtnjahnbpnpkmhaaGreatDoorRows
import Derived.Test.YtnjahnbpnpkmhaaGreatDoorQn

namespace Go.Lw
open Go.RowKit
section
variable {P:Program}{ρ:Env}{h:aq}{dst:Option Nat}{ty:TypeId}{pos:String}{after:Array Edge}{guard:Option (Nat×Bool)}{X:List PanicEntry->aq->Prop}
theorem az.DO {t e:TypeId}{x:Operand}{oa:Option Addr}{n c:Nat}(hu:P.underlying t=some (.slice e)) (I:bp ρ x=some (.slice oa n c)) :
 az P ⟨dst,.call ⟨.builtin .cap,#[x],#[t]⟩,ty,pos,after,guard⟩ ρ h (.int .i64 c):=by
 intro _ B a w J _;simp[execOp,resolve,invoke,builtin,Builtin.cap_,run_underlying hu,J.eval I,goInt]
theorem az.JV {t t' e:TypeId}{x y:Operand}{oa J:Option Addr}{n c m d:Nat}(hu:P.underlying t=some (.slice e)) (hs:(P.info? e).map (·.size)=some 1) (Z:bp ρ x=some (.slice oa n c)) (Y:bp ρ y=some (.slice J m d)) (h0:Nat.min m n=0) :
 az P ⟨dst,.call ⟨.builtin .copy,#[x,y],#[t,t']⟩,ty,pos,after,guard⟩ ρ h (.int .i64 0):=by
 intro _ B a w U _;have I:=run_copy_none (P:=P) w t t' ty e oa J n c m d hu hs h0;simp[execOp,resolve,invoke,builtin,U.eval Z,U.eval Y,I,goInt]
theorem yP {f:FuncId}{fn:Func}{x:Operand}{ts ps:Array TypeId}{t e:TypeId}{i:Int}(hf:P.funcs[f]? =some fn) (I:(fn.name == "runtime.NumGoroutine")=false)
 (hb:fn.body.isNone=true) (hn:Extern.findNext fn=none) (he:Extern.find fn=some (Extern.BytealgMakeNoZero.makeNoZero ps #[t])) (ht:P.underlying t=some (.slice e)) (Z:bp ρ x=some (.int .i64 i)) (n:Nat) (hi:i=n) (hle:n<=1000000000) :
 aV P ⟨dst,.call ⟨.value (.func f),#[x],ts⟩,ty,pos,after,guard⟩ ρ h (λv g=>∃cs:Array Value,v= .slice (some ⟨h.size,0,none⟩) n cs.size/\g=h.push (.cells cs e)/\n<=cs.size/\cs.size<=maxLen) X:=by
 intro nn B a w U Y next Q hq _
 subst hi;obtain⟨cs,hr,h1,h2⟩:=Lib.run_makeNoZero (P:=P) w ps t e ht n (by omega);have hc:=run_callFunc_extern (P:=P) hf I hb hn he #[.int .i64 n] w;rw[hr] at hc
 have J:(execOp a.eval ⟨dst,.call ⟨.value (.func f),#[x],ts⟩,ty,pos,after,guard⟩).run P w= .ok (.value (.slice (some ⟨w.heap.size,0,none⟩) n cs.size)) (w.drew.drew.alloc (.cells cs e)):=by
  simp only[execOp,resolve,Act.eval,Deferred.ofValue,invoke];simp[U.eval Z,hc]
 unfold Oper.wp;rw[J];refine hq _ (w.heap.push (.cells cs e)) _ ⟨rfl,Y.os,Y.tape,Y.output⟩ ⟨cs,by rw[Y.heap],by rw[Y.heap],h1,h2 (by simp only[maxLen];omega)⟩
end
end Go.Lw
namespace Go.Lw
class kN (P:Program) (t:TypeId) (d:outParam TypeDesc):Prop where e:P.underlying t=some d
class lX (P:Program) (t:TypeId) (n:outParam Nat):Prop where e:cK P t=some n
class jV (P:Program) (t:TypeId) (b:outParam Bool):Prop where e:aX P t=some b
class Ay (P:Program) (t:TypeId) (s b:outParam Nat):Prop where e:dS P t s b
class BX (P:Program) (t:TypeId) (z:outParam Value):Prop where e:(P.info? t).bind (·.zero)=some z
class bI (P:Program) (f:FuncId) (fn:outParam Func):Prop where e:P.funcs[f]? =some fn
class Lu (P:Program):Prop where e:(P.funcs.toList.all λfn=> !(fn.name == "runtime.NumGoroutine"))=true
class M9 (P:Program):Prop where e:P.follows .mixedOrders=true
class QK (P:Program) (t:TypeId):Prop where e:P.concrete t=true
class jg (P:Program) (t:TypeId) (i:Nat) (off:outParam Nat):Prop where
 e:∃fs fd k,P.underlying t=some (.struct fs)/\fs[i]? =some fd/\fd.offset=off/\cK P fd.type=some (k+1)
class Rl (P:Program) (t:TypeId) (i:Nat) (off:outParam Nat):Prop where
 e:∃fs fd,P.underlying t=some (.struct fs)/\fs[i]? =some fd/\fd.offset=off/\aX P fd.type=some false
section
variable {f:FuncId}{fn:Func}{t e s:TypeId}{x y:Operand}{i b sz n d bytes:Nat}{o:Oper}{v:Value}{cs vs:List Value}{k:IntKind}{j:Int}{xs:Array Operand}{ts:Array TypeId}{Φ:Value->aq->Prop}{h0:aq}{ρ1:Env}{ops:Array Oper}{σ:Type}{rs:List ResultVar}
theorem Lu.at {P:Program}[g:Lu P] (h:P.funcs[f]? =some fn):(fn.name == "runtime.NumGoroutine")=false:=by
 have:=List.all_eq_true.1 g.e fn (by simpa using Array.mem_of_getElem? h);simpa using this
section
variable {P:Program}{ρ:Env}{h:aq}{dst:Option Nat}{ty:TypeId}{pos:String}{after:Array Edge}{guard:Option (Nat×Bool)}{X:List PanicEntry->aq->Prop}
theorem QX {o off:Nat}[c:jg P t i off] (I:bp ρ x=some (.pointer (some ⟨b,o,none⟩)):=by exact rfl) :
 az P ⟨dst,.fieldAddr t x i,ty,pos,after,guard⟩ ρ h (.pointer (some ⟨b,o+off,none⟩)):=by
 obtain⟨fs,fd,k,h1,Y,U,J⟩:=c.e;exact gm h1 Y U J I
theorem aA {p:Addr}(I:bp ρ x=some (.pointer (some p))) (hc:cellAt h p=some v) [c:jV P t false] :
 az P ⟨dst,.load t x,ty,pos,after,guard⟩ ρ h v:=eB c.e I hc
theorem cj {o:Nat}(I:bp ρ x=some (.pointer (some ⟨b,o,none⟩))) (hc:rowAt h b o cs) [c:jV P t true] [d:lX P t sz]
 (J:cs.length=sz:=by first|exact rfl|(simp;done)|(simp;omega)):az P ⟨dst,.load t x,ty,pos,after,guard⟩ ρ h (.agg cs.toArray):=az.kD c.e d.e I hc J
theorem bZ {oa:Option Addr}{o c:Nat}[u:kN P t (.slice e)] [s:lX P e sz] (J:bp ρ x=some (.slice oa n c)) (I:bp ρ y=some (.int k j)) (i:Nat) (U:j=i) (Y:oa=some ⟨b,o,none⟩) (hi:i<n:=by omega) :
 az P ⟨dst,.indexAddr t x y,ty,pos,after,guard⟩ ρ h (.pointer (some ⟨b,o+i*sz,none⟩)):=az.iS u.e s.e J I i U Y hi
theorem y8 {o:Nat}[u:kN P t (.array n e)] [s:lX P e sz] (J:bp ρ x=some (.pointer (some ⟨b,o,none⟩))) (I:bp ρ y=some (.int k j)) (i:Nat) (U:j=i:=by exact rfl) (hi:i<n:=by first|decide|omega) :
 az P ⟨dst,.indexAddr t x y,ty,pos,after,guard⟩ ρ h (.pointer (some ⟨b,o+i*sz,none⟩)):=az.JC u.e s.e J I i U hi
theorem tq {s:ByteArray}{b:UInt8}[u:kN P t .string] (J:bp ρ x=some (.string s)) (I:bp ρ y=some (.int k j)) (i:Nat) (U:j=i) (Y:s.data[i]? =some b) :
 az P ⟨dst,.index t x y,ty,pos,after,guard⟩ ρ h (.int .u8 b.toNat):=az.Du u.e J I i U Y
def Oe:TypeDesc->Option Value->Option Value
 |.slice _,some (.slice _ n _)=>some (.int .i64 (n:Nat))
 |.string,some (.string s)=>some (.int .i64 (s.size:Nat))
 |.array n _,some _=>some (.int .i64 (n:Nat))
 |_,_=>none
theorem QV {d:TypeDesc}[u:kN P t d] (e:Oe d (bp ρ x)=some v:=by exact rfl):az P ⟨dst,.call ⟨.builtin .len,#[x],#[t]⟩,ty,pos,after,guard⟩ ρ h v:=by
 unfold Oe at e;split at e<;>cases e
 · rename_i hx;exact az.mL u.e hx
 · rename_i hx;exact az.mK u.e hx
 · rename_i hx;exact az.Jm u.e hx
theorem QT {off:Nat}{cs:Array Value}[c:Rl P t i off]
 (I:bp ρ x=some (.agg cs):=by exact rfl) (J:cs[off]? =some v:=by exact rfl):az P ⟨dst,.field t x i,ty,pos,after,guard⟩ ρ h v:=by
 obtain⟨fs,fd,h1,Z,Y,U⟩:=c.e;exact HT h1 Z Y U I J
theorem QY {yt:TypeId}{i j:Bool}[u:kN P t .bool] (J:bp ρ x=some (.bool i):=by exact rfl) (I:bp ρ y=some (.bool j):=by exact rfl) :
 az P ⟨dst,.binOp .eql t x y yt,ty,pos,after,guard⟩ ρ h (.bool (i ==j)):=az.K5 u.e J I
theorem QU {d:TypeId}{ds:TypeDesc}{k':IntKind}{i:Int}[u:kN P s ds] [w:kN P d (.int k')] (I:bp ρ x=some (.int k i):=by exact rfl) :
 az P ⟨dst,.convert s d x,ty,pos,after,guard⟩ ρ h (.int k' (k'.wrap i)):=az.F5 u.e w.e I
theorem AA {d:TypeId}{ds:TypeDesc}{k':IntKind}{i:Int}[u:kN P s ds] [w:kN P d (.int k')] (I:bp ρ x=some (.int k i)) (hw:k'.wrap i=i) :
 az P ⟨dst,.convert s d x,ty,pos,after,guard⟩ ρ h (.int k' i):=az.M0 u.e w.e I hw
theorem Ml {d:TypeId}{O:Nat->Prop}{l:List UInt8}[a:kN P s (.slice e)] [b:kN P e (.int .u8)] [c:kN P d .string] (I:bp ρ x=some v) (J:aL .byte h O v l) :
 az P ⟨dst,.convert s d x,ty,pos,after,guard⟩ ρ h (.string ⟨l.toArray⟩):=az.HD a.e b.e c.e I J
theorem QW [c:QK P t] (I:bp ρ x=some v:=by exact rfl):az P ⟨dst,.makeInterface t x,ty,pos,after,guard⟩ ρ h (.iface t v):=lM c.e I
def yE (ρ:Env):List Operand->Option (List Value)
 | []=>some []
 |x::r=>match bp ρ x with
  |some v=>match yE ρ r with
   |some vs=>some (v::vs)
   |none=>none
  |none=>none
theorem sZ:∀{xs:List Operand}{vs:List Value},yE ρ xs=some vs->xs.map (bp ρ)=vs.map some
 | [],vs,h=>by simp only[yE,Option.some.injEq] at h;subst h;rfl
 |x::r,vs,h=>by
  rw[yE] at h;split at h
  · rename_i v hv;split at h
    · rename_i us hu;cases h;rw[List.map_cons,List.map_cons,hv,sZ hu]
    · cases h
  · cases h
theorem aE (I:yE ρ xs.toList=some vs) (k:au P f vs.toArray h (bK Φ)) [c:bI P f fn] [g:Lu P] (J:fn.body.isSome=true:=by exact rfl) :
 aV P ⟨dst,.call ⟨.value (.func f),xs,ts⟩,ty,pos,after,guard⟩ ρ h Φ X:=kO c.e J (Lu.at c.e) (sZ I) (au.HX k)
theorem yZ {J:List PanicEntry->aq->Prop}(I:yE ρ xs.toList=some vs) (k:au P f vs.toArray h (Fh Φ J)) (U:∀c h',J c h'->X c h') [c:bI P f fn] [g:Lu P] (Y:fn.body.isSome=true:=by exact rfl) :
 aV P ⟨dst,.call ⟨.value (.func f),xs,ts⟩,ty,pos,after,guard⟩ ρ h Φ X:=kO c.e Y (Lu.at c.e) (sZ I) (au.NB k U)
theorem mh (I:bp ρ x=some v:=by exact rfl) :
 aV P ⟨dst,.box t x,ty,pos,after,guard⟩ ρ h (λu g=>u= .pointer (some ⟨h.size,0,none⟩)/\aC g h.size t v.cells.toList/\aj h g/\g.size=h.size+1) X:=aV.OF I
theorem cL {z:Value}[c:BX P t z] :
 aV P ⟨dst,.alloc t,ty,pos,after,guard⟩ ρ h (λu g=>u= .pointer (some ⟨h.size,0,none⟩)/\aC g h.size t z.cells.toList/\aj h g/\g.size=h.size+1) X:=aV.BV c.e
theorem iG {g o:Nat}{cur:List Value}[c:lX P t 1] (J:bp ρ x=some (.pointer (some ⟨g,o,none⟩))) (I:bp ρ y=some v) (hk:aC h g e cur) (h1:v.oneCell'=true:=by exact rfl)
 (hl:o<cur.length:=by first|decide|exact of_decide_eq_true rfl|(simp;done)|(simp;omega)) :
 aV P ⟨dst,.store t x y,ty,pos,after,guard⟩ ρ h (λu h'=>u=undef/\aC h' g e (cur.set o v)/\Ext (λb=>b=g) h h'/\h'.size=h.size) X:=aV.oI c.e J I hk hl h1
theorem aZ {g o:Nat}{cur:List Value}{cs:Array Value}[c:lX P t sz] (J:bp ρ x=some (.pointer (some ⟨g,o,none⟩))) (I:bp ρ y=some (.agg cs)) (hk:aC h g e cur) (h1:∀v∈cs.toList,v.oneCell'=true:=by first|decide|simp[Value.oneCell'])
 (U:cs.size=sz:=by first|exact rfl|(simp;done)|(simp;omega)) (hl:o+sz<=cur.length:=by first|decide|exact of_decide_eq_true rfl|(simp;done)|(simp;omega)) :
 aV P ⟨dst,.store t x y,ty,pos,after,guard⟩ ρ h (λu h'=>u=undef/\aC h' g e (over cur o cs.toList)/\Ext (λb=>b=g) h h'/\h'.size=h.size) X:=aV.jZ c.e J I hk U hl h1
theorem vL {size:Nat}{xs news:List Value}{m c base:Nat}[u:kN P t (.slice e)] [w:Ay P e size bytes] (Z:bp ρ x=some v) (Y:bp ρ y=some (.slice (some ⟨h0.size,0,none⟩) m c)) (J:aB h0 base e size v n xs)
 (hh:h=h0.push (.cells news.toArray e)) (hl:news.length=m*size) (hn:n+m<=1000000000:=by omega) (I:base<=h0.size:=by omega)
 (h1:∀u∈news,u.oneCell'=true:=by first|decide|simp[Value.oneCell']) (U:bytes<=1000:=by decide) :
 aV P ⟨dst,.call ⟨.builtin .append,#[x,y],#[t,t]⟩,ty,pos,after,guard⟩ ρ h (λv' h'=>aB h' base e size v' (n+m) (xs++news)/\Ext (bU v.ownBlock) h0 h'/\Ext (bU v.ownBlock) h h'/\(∀b,v'.ownBlock=some b->v.ownBlock=some b\/h0.size<=b)) X :=
 aV.dA u.e w.e Z Y J hh hl h1 hn U I
theorem lg {size:Nat}{ps:Array (Nat×Operand)}[u:kN P t (.slice e)] [w:Ay P e size bytes] (J:ps.toList.map (λp=>(p.1,bp ρ p.2))=[(0,some (.agg cs.toArray))]:=by exact rfl) (U:cs.length=size:=by exact rfl) (I:size<=16777216:=by decide) :
 aV P ⟨dst,.buildSlice t 1 ps,ty,pos,after,guard⟩ ρ h (λu g=>u= .slice (some ⟨h.size,0,none⟩) 1 1/\g=h.push (.cells cs.toArray e)) X:=aV.yp u.e w.e J U I
theorem iD {len:Nat}{ps:Array (Nat×Operand)}(us:List Value) [u:kN P t (.slice e)] [w:Ay P e 1 bytes] (I:ps.toList.map (λp=>(p.1,bp ρ p.2))=(us.zipIdx.map λp=>(p.2,p.1)).map (λp=>(p.1,some p.2)):=by exact rfl)
 (hl:us.length=len:=by exact rfl) (hlen:len<=16777216:=by decide) (h1:∀u∈us,u.oneCell'=true:=by simp[Value.oneCell']) :
 aV P ⟨dst,.buildSlice t len ps,ty,pos,after,guard⟩ ρ h (λu g=>u= .slice (some ⟨h.size,0,none⟩) len len/\g=h.push (.cells us.toArray e)) X:=aV.uf u.e w.e I hl hlen h1
end
theorem Pe {P:Program}{ρ:Env}{h:aq}(k:az P o ρ h v:=by
 first
 |exact EV rfl
 |exact QX
 |exact QV
 |exact az.ow rfl rfl ⟨by omega,by omega⟩
 |exact az.LQ rfl rfl ⟨by omega,by omega⟩
 |exact az.MS rfl rfl
 |exact az.Jc rfl rfl
 |exact y8 rfl rfl _
 |exact QT
 |exact QY
 |exact QW
 |exact QU
 |exact Kl rfl rfl
 |exact Km rfl rfl
 |exact az.bS rfl rfl (by omega)):az P o ρ h v:=k
section
variable {P:Program}{n:Nat}{ops:Array Oper}{i:Nat}{ρ ρ':Env}{h:aq}{N:Env->aq->Prop}{X:List PanicEntry->aq->Prop}
theorem aR (next:RW P n ops (i+1) ((d,v)::ρ) h N X)
 (e:(nth ops.toList i,aW ops ρ o,o.dst,Nat.blt d n)=(some o,some true,some d,true):=by exact rfl) (k:az P o ρ h v:=by exact Pe):RW P n ops i ρ h N X:=xp e k next
theorem aO (e:(nth ops.toList i,aW ops ρ o,o.dst)=(some o,some true,none)) (k:aV P o ρ h Φ X) (next:∀v h',Φ v h'->RW P n ops (i+1) ρ h' N X):RW P n ops i ρ h N X:=by
 simp only[Prod.mk.injEq] at e;exact RW.FN e.1 e.2.1 e.2.2 k next
theorem Ks (next:RW P n ops (i+1) ((d,undef)::ρ) h N X)
 (e:(nth ops.toList i,aW ops ρ o,o.dst,Nat.blt d n)=(some o,some false,some d,true):=by exact rfl):RW P n ops i ρ h N X:=xk e next
theorem QM (next:RW P n ops (i+1) ρ h N X)
 (e:(nth ops.toList i,aW ops ρ o,o.dst)=(some o,some false,none):=by exact rfl):RW P n ops i ρ h N X:=by
 simp only[Prod.mk.injEq] at e;exact RW.NV e.1 e.2.1 e.2.2 next
def GL (n:Nat) (ops:Array Oper):Nat->Nat->Env->Option (Nat×Env)
 | 0,i,ρ=>some (i,ρ)
 |k+1,i,ρ=>match nth ops.toList i with
  |some o=>match o.dst with
   |some d=>match Nat.blt d n with
    |true=>match aW ops ρ o with
     |some true=>match Pm ρ o.op with
      |some v=>GL n ops k (i+1) ((d,v)::ρ)
      |none=>some (i,ρ)
     |some false=>GL n ops k (i+1) ((d,undef)::ρ)
     |none=>some (i,ρ)
    |false=>some (i,ρ)
   |none=>some (i,ρ)
  |none=>some (i,ρ)
theorem A5 {j:Nat}:∀(k i:Nat) (ρ:Env),GL n ops k i ρ=some (j,ρ')->RW P n ops j ρ' h N X->RW P n ops i ρ h N X
 | 0,i,ρ,e,next=>by simp only[GL,Option.some.injEq,Prod.mk.injEq] at e;obtain⟨rfl,rfl⟩:=e;exact next
 |k+1,i,ρ,e,next=>by
  rw[GL] at e;have fin:some (i,ρ)=some (j,ρ')->RW P n ops i ρ h N X:=λe=>by simp only[Option.some.injEq,Prod.mk.injEq] at e;obtain⟨rfl,rfl⟩:=e;exact next
  split at e
  · rename_i o ho;split at e
    · rename_i d hd;split at e
      · rename_i hb;split at e
        · rename_i hw;split at e
          · rename_i v hv;exact RW.cC ho hw hd hb (EV hv) (A5 k _ _ e next)
          · exact fin e
        · rename_i hw;exact RW.wq ho hw hd hb (A5 k _ _ e next)
        · exact fin e
      · exact fin e
    · exact fin e
  · exact fin e
def NX (n:Nat) (ops:Array Oper) (i:Nat) (ρ:Env):Option (Nat×Env):=match A4 n ops 1 i ρ with
 |some ρ'=>GL n ops 200 (i+1) ρ'
 |none=>none
theorem QN {j:Nat}(next:RW P n ops j ρ' h N X) (e:NX n ops i ρ=some (j,ρ'):=by exact rfl):RW P n ops i ρ h N X:=by
 unfold NX at e;split at e
 · rename_i r hr;exact B6 1 hr (A5 _ _ _ e next)
 · cases e
end
section
variable {P:Program}{n:Nat}{ops:Array Oper}{i:Nat}{ρ ρ':Env}{h:aq}{N:Env->Prop}
theorem bF (e:(nth ops.toList i,aW ops ρ o,o.dst,Nat.blt d n)=(some o,some true,some d,true)) (k:az P o ρ h v) (next:RQ P n ops (i+1) ((d,v)::ρ) h N):RQ P n ops i ρ h N:=by
 simp only[Prod.mk.injEq] at e;exact RQ.cC e.1 e.2.1 e.2.2.1 e.2.2.2 k next
theorem jD (next:RQ P n ops (i+1) ((d,v)::ρ) h N)
 (e:(nth ops.toList i,aW ops ρ o,o.dst,Nat.blt d n)=(some o,some true,some d,true):=by exact rfl) (k:az P o ρ h v:=by exact Pe):RQ P n ops i ρ h N:=bF e k next
theorem QS (next:RQ P n ops (i+1) ((d,undef)::ρ) h N)
 (e:(nth ops.toList i,aW ops ρ o,o.dst,Nat.blt d n)=(some o,some false,some d,true):=by exact rfl):RQ P n ops i ρ h N:=by
 simp only[Prod.mk.injEq] at e;exact RQ.wq e.1 e.2.1 e.2.2.1 e.2.2.2 next
theorem Pd {dst:Option Nat}{ty:TypeId}{pos:String}{after:Array Edge}{guard:Option (Nat×Bool)}
 (k:au P f vs.toArray h (bK λu h'=>u=v/\h'=h)) (next:RQ P n ops (i+1) ((d,v)::ρ) h N) [c:bI P f fn] [g:Lu P] (J:nth ops.toList i=some ⟨dst,.call ⟨.value (.func f),xs,ts⟩,ty,pos,after,guard⟩:=by exact rfl)
 (e:(aW ops ρ ⟨dst,.call ⟨.value (.func f),xs,ts⟩,ty,pos,after,guard⟩,dst,Nat.blt d n)=(some true,some d,true):=by exact rfl) (U:fn.body.isSome=true:=by exact rfl) (I:yE ρ xs.toList=some vs:=by exact rfl):RQ P n ops i ρ h N:=by
 simp only[Prod.mk.injEq] at e;exact RQ.OE J rfl e.1 e.2.1 e.2.2 c.e U (Lu.at c.e) (sZ I) k next
end
def MA:Op->Bool
 |.makeFunc .. |.lookup .. |.move .. |.assign .. |.pick .. |.binOp .. |.unOp .. |.convert .. |.extract .. |.nilCheck .. |.load .. |.indexAddr .. |.index .. |.fieldAddr .. |.slice .. |.field .. |.build .. |.makeInterface .. =>true
 |.call ⟨.builtin b,_,_⟩=>match b with
  |.len|.cap|.min|.max=>true
  |_=>false
 |_=>false
def Ix (fn:Func):List It->Option (List It)
 |.blk _::k=>some k
 |.scp _::k=>some k
 |.code p::k=>match sub (ax fn) p with
  |.skip=>some k
  |.label .. =>some k
  |.seq .. =>some (.code (0::p):: .code (1::p)::k)
  |.block id _=>some (.code (0::p):: .blk id::k)
  |.scope _=>some (.code (0::p):: .scp (0::p)::k)
  |.exit id=>qH id k
  |_=>none
 |_=>none
def Iw (fn:Func):Nat->List It->Option (List It)
 | 0,k=>some k
 |n+1,k=>match Ix fn k with
  |some k'=>Iw fn n k'
  |none=>some k
def NU (fn:Func) (k:List It):Option (List It):=match Ix fn k with
 |some k'=>Iw fn 99 k'
 |none=>none
def wr:List Oper->Nat->Bool
 | [],_=>false
 |o::r,i=>match o.dst with
  |some d=>match Nat.beq d i with
   |true=>true
   |false=>wr r i
  |none=>wr r i
def oY (l:List Oper):Env->Env->Option Env
 | [],acc=>some acc
 |(i,v)::r,acc=>match wr l i with
  |true=>oY l r acc
  |false=>match acc.at i with
   |some _=>oY l r acc
   |none=>oY l r ((i,v)::acc)
theorem qe {l:List Oper}{ρ0:Env}:∀{ρ acc ρ1:Env},oY l ρ acc=some ρ1->Sub acc ρ0->(∀j v,wr l j=false->acc.at j=none->ρ.at j=some v->ρ0.at j=some v)->Sub ρ1 ρ0
 | [],acc,ρ1,e,h,_=>by simp only[oY,Option.some.injEq] at e;subst e;exact h
 |(i,v)::r,acc,ρ1,e,h,hr=>by
  rw[oY] at e;have key:∀j u,wr l j=false->acc.at j=none->j≠i->Env.at r j=some u->ρ0.at j=some u:=λj u h0 h1 h2 h3=>hr j u h0 h1 (by rw[Env.fS,if_neg (Ne.symm h2)];exact h3)
  split at e
  · rename_i hw;exact qe e h λj u h0 h1 h3=>key j u h0 h1 (λq=>by subst q;rw[hw] at h0;cases h0) h3
  · rename_i hw;split at e
    · rename_i x hx;exact qe e h λj u h0 h1 h3=>key j u h0 h1 (λq=>by subst q;rw[hx] at h1;cases h1) h3
    · rename_i hx;refine qe e ⟨hr i v hw hx (by rw[Env.fS,if_pos rfl]),h⟩ λj u h0 h1 h3=>?_
      rw[Env.fS] at h1;split at h1
      · cases h1
      · rename_i q;exact key j u h0 h1 (λq'=>q q'.symm) h3
theorem sF {l:List Oper}{ρ:Env}(e:oY l ρ []=some ρ1):Sub ρ1 ρ:=qe e trivial λ_ _ _ _ h=>h
section
variable {P:Program}{f:FuncId}{fn:Func}{k k':List It}{ρ ρ':Env}{h:aq}{R:Ending->aq->Prop}{p:List Nat}
theorem AV (e:Ix fn k=some k') (next:G P f fn k' ρ h R):G P f fn k ρ h R:=by
 unfold Ix at e;split at e
 · cases e;exact G.pL next
 · cases e;exact G.Mt next
 · split at e
   · rename_i hc;cases e;exact me (by rw[hc];rfl) next
   · rename_i hc;cases e;exact LA (by rw[hc];rfl) next
   · rename_i hc;cases e;exact iC (by rw[hc];rfl) next
   · rename_i hc;cases e;exact G.block (by rw[hc];rfl) (by rw[hc];rfl) next
   · rename_i hc;cases e;exact Lz (by rw[hc];rfl) next
   · rename_i hc;exact Nc (by rw[hc];rfl) (by rw[hc];exact e) next
   · cases e
 · cases e
theorem FB:∀(n:Nat) (k:List It),Iw fn n k=some k'->G P f fn k' ρ h R->G P f fn k ρ h R
 | 0,k,e,next=>by simp only[Iw,Option.some.injEq] at e;subst e;exact next
 |n+1,k,e,next=>by
  rw[Iw] at e;split at e
  · rename_i h1;exact AV h1 (FB n _ e next)
  · cases e;exact next
theorem QZ (next:G P f fn k' ρ h R) (e:NU fn k=some k':=by exact rfl):G P f fn k ρ h R:=by
 unfold NU at e;split at e
 · rename_i h1;exact AV h1 (FB _ _ e next)
 · cases e
theorem aQ (next:G P f fn k' ρ h R) (e:Ix fn k=some k':=by exact rfl):G P f fn k ρ h R:=AV e next
theorem cI (next:RW P fn.ntmps (opsOf (Lw.sub (ax fn) p)) 0 ρ h (λρ' h'=>G P f fn k ρ' h' R) (λI h'=>R (.panicked I) h')) [c:bI P f fn] (hk:kind (Lw.sub (ax fn) p)=5:=by exact rfl):G P f fn (.code p::k) ρ h R:=G.mE c.e hk next
theorem rP (next:RQ P fn.ntmps (opsOf (Lw.sub (ax fn) p)) 0 ρ h (λρ'=>G P f fn k ρ' h R)) [c:bI P f fn] [m:M9 P] (hk:kind (Lw.sub (ax fn) p)=6:=by exact rfl) (I:Region.lexB .any (opsOf (Lw.sub (ax fn) p))=true:=by kernel_rfl):G P f fn (.code p::k) ρ h R:=G.Ma c.e m.e hk I next
theorem Q0 (next:RQ P fn.ntmps (opsOf (Lw.sub (ax fn) p)) 0 ρ h (λρ'=>G P f fn k ρ' h R)) [c:bI P f fn] [m:M9 P] (hk:kind (Lw.sub (ax fn) p)=6:=by exact rfl)
 (_:(opsOf (Lw.sub (ax fn) p)).toList.all (λo=>MA o.op)=true:=by exact rfl) (I:Region.lexB .any (opsOf (Lw.sub (ax fn) p))=true:=by kernel_rfl):G P f fn (.code p::k) ρ h R:=G.Ma c.e m.e hk I next
theorem cO {X:List PanicEntry->aq->Prop}(next:G P f fn k ρ h R) (e:Nat.ble ops.size i=true:=by exact rfl):RW P n ops i ρ h (λρ' h'=>G P f fn k ρ' h' R) X:=jf e next
theorem Qw (next:G P f fn k ρ h R) (e:Nat.ble ops.size i=true:=by exact rfl):RQ P n ops i ρ h (λρ'=>G P f fn k ρ' h R):=Ln e next
theorem aN {φ:Prop}{_:Decidable φ}(I:φ->G P f fn (.code (0::p)::k) ρ h R) (J:¬φ->G P f fn (.code (1::p)::k) ρ h R) (hk:kind (Lw.sub (ax fn) p)=7:=by exact rfl)
 (hc:bp ρ (pG (Lw.sub (ax fn) p))=some (.bool (decide φ)):=by exact rfl):G P f fn (.code p::k) ρ h R:=vk hk hc I J
theorem jS {t:Bool}(I:t=true->G P f fn (.code (0::p)::k) ρ h R) (J:t=false->G P f fn (.code (1::p)::k) ρ h R) (hk:kind (Lw.sub (ax fn) p)=7:=by exact rfl)
 (hc:bp ρ (pG (Lw.sub (ax fn) p))=some (.bool t):=by exact rfl):G P f fn (.code p::k) ρ h R:=yU hk hc I J
theorem dc {t:Bool}(hc:bp ρ (pG (Lw.sub (ax fn) p))=some (.bool t)) (I:¬t=false) (next:G P f fn (.code (0::p)::k) ρ h R) (hk:kind (Lw.sub (ax fn) p)=7:=by exact rfl):G P f fn (.code p::k) ρ h R :=
 yU hk hc (λ_=>next) (λe=>absurd e I)
theorem dB {t:Bool}(hc:bp ρ (pG (Lw.sub (ax fn) p))=some (.bool t)) (I:¬t=true) (next:G P f fn (.code (1::p)::k) ρ h R) (hk:kind (Lw.sub (ax fn) p)=7:=by exact rfl):G P f fn (.code p::k) ρ h R :=
 yU hk hc (λe=>absurd e I) (λ_=>next)
theorem aP (I:R (.returned (packed vs)) h) [c:bI P f fn] (hk:kind (Lw.sub (ax fn) p)=4:=by exact rfl) (hr:gq ρ fn.results.toList=some vs:=by exact rfl):G P f fn (.code p::k) ρ h R:=G.ret c.e hk hr I
theorem D4 (I:R (.returned (packed vs)) h) [c:bI P f fn] (hr:gq ρ fn.results.toList=some vs:=by exact rfl):G P f fn [] ρ h R:=G.P9 c.e hr I
theorem bJ (next:G P f fn [.code []] (nV 0 vs) h R) [c:bI P f fn] (J:fn.body.isSome=true:=by exact rfl) (I:Nat.ble vs.length fn.ntmps=true:=by exact rfl):au P f vs.toArray h R:=au.of c.e J I next
theorem Kt (E:σ->Env) (I:σ->aq->Prop) (μ:σ->Nat) (J:σ) (h0:I J h)
 (round:∀s h,I s h->(∀s' {h' ρ'},I s' h'->(hm:μ s' < μ s:=by first|(dsimp only;omega)|omega)->(hs:Sub (E s') ρ':=by exact sb rfl)->G P f fn (.loop (0::p)::k) ρ' h' R)->G P f fn (.code (0::p):: .loop (0::p)::k) (E s) h R)
 (hk:kind (Lw.sub (ax fn) p)=3:=by exact rfl) (hs:Sub (E J) ρ:=by exact sb rfl):G P f fn (.code p::k) ρ h R :=
 uw E I μ J hk hs h0 (λs h hi U=>round s h hi (λs' _ _ h1 Z Y=>U s' _ _ Y h1 Z))
end
section
variable {P:Program}{n:Nat}{ops:Array Oper}{M:Nat->Prop}{keeps:Nat->Bool}{fuel:Nat}{listed:Array Bool}{ρ:Env}{h:aq}{N:Env->aq->Prop}{X:List PanicEntry->aq->Prop}
def N5 (ops:Array Oper) (keeps:Nat->Bool) (listed:Array Bool) (i:Nat):Bool:=Region.noSelect ops && (xW ops keeps listed i && (Region.ready .any ops listed).contains i)
theorem bq (i:Nat) (e:(nth ops.toList i,aW ops ρ o,o.dst,Nat.blt d n)=(some o,some true,some d,true)) (k:∀h',Ext M h h'->az P o ρ h' v)
 (next:RD P n ops M keeps fuel (listed.setIfInBounds i true) ((d,v)::ρ) h N X) (hk:N5 ops keeps listed i=true:=by kernel_rfl):RD P n ops M keeps (fuel+1) listed ρ h N X:=by
 simp only[Prod.mk.injEq] at e;simp only[N5,Bool.and_eq_true] at hk;exact RD.ND i e.1 hk.1 hk.2.1 hk.2.2 e.2.1 e.2.2.1 e.2.2.2 k rfl next
theorem aF (i:Nat) (next:RD P n ops M keeps fuel (listed.setIfInBounds i true) ((d,v)::ρ) h N X) (e:(nth ops.toList i,aW ops ρ o,o.dst,Nat.blt d n)=(some o,some true,some d,true):=by exact rfl)
 (k:∀h',Ext M h h'->az P o ρ h' v:=by intro _ _;exact Pe) (hk:N5 ops keeps listed i=true:=by kernel_rfl):RD P n ops M keeps (fuel+1) listed ρ h N X:=bq i e k next hk
theorem ox (i:Nat) (next:RD P n ops M keeps fuel (listed.setIfInBounds i true) ((d,undef)::ρ) h N X) (e:(nth ops.toList i,aW ops ρ o,o.dst,Nat.blt d n)=(some o,some false,some d,true):=by exact rfl)
 (hk:N5 ops keeps listed i=true:=by kernel_rfl):RD P n ops M keeps (fuel+1) listed ρ h N X:=by
 simp only[Prod.mk.injEq] at e;simp only[N5,Bool.and_eq_true] at hk;exact RD.wq i e.1 hk.1 hk.2.1 hk.2.2 e.2.1 e.2.2.1 e.2.2.2 rfl next
theorem cV (i:Nat) (e:(nth ops.toList i,aW ops ρ o,o.dst,Nat.blt d n)=(some o,some true,some d,true)) (k:aV P o ρ h Φ X)
 (next:∀v h',Φ v h'->(keeps i=true->Ext M h h')/\RD P n ops M keeps fuel (listed.setIfInBounds i true) ((d,v)::ρ) h' N X) (hr:Region.ready .any ops listed=[i]:=by kernel_rfl):RD P n ops M keeps (fuel+1) listed ρ h N X:=by
 simp only[Prod.mk.injEq] at e;exact RD.P2 i e.1 hr e.2.1 e.2.2.1 e.2.2.2 k rfl next
theorem gU (i:Nat) (e:(nth ops.toList i,aW ops ρ o,o.dst)=(some o,some true,none)) (k:aV P o ρ h Φ X)
 (next:∀v h',Φ v h'->(keeps i=true->Ext M h h')/\RD P n ops M keeps fuel (listed.setIfInBounds i true) ρ h' N X) (hr:Region.ready .any ops listed=[i]:=by kernel_rfl):RD P n ops M keeps (fuel+1) listed ρ h N X:=by
 simp only[Prod.mk.injEq] at e;exact RD.P3 i e.1 hr e.2.1 e.2.2 k rfl next
theorem Nu (i:Nat) (e:(nth ops.toList i,aW ops ρ o,o.dst,Nat.blt d n)=(some o,some true,some d,true)) (k:az P o ρ h v)
 (next:RD P n ops M keeps fuel (listed.setIfInBounds i true) ((d,v)::ρ) h N X) (hr:Region.ready .any ops listed=[i]:=by kernel_rfl):RD P n ops M keeps (fuel+1) listed ρ h N X :=
 cV i e k.HX (λu h' I=>by obtain⟨rfl,rfl⟩:=I;exact⟨λ_=>Ext.refl _ _,next⟩) hr
theorem H8 (i:Nat) (next:RD P n ops M keeps fuel (listed.setIfInBounds i true) ((d,v)::ρ) h N X) (e:(nth ops.toList i,aW ops ρ o,o.dst,Nat.blt d n)=(some o,some true,some d,true):=by exact rfl) (k:az P o ρ h v:=by exact Pe)
 (hr:Region.ready .any ops listed=[i]:=by kernel_rfl):RD P n ops M keeps (fuel+1) listed ρ h N X:=Nu i e k next hr
theorem Nv (i j:Nat){oi oj:Oper}{Φ':Value->aq->Prop}{di Z:Nat}(Y:(nth ops.toList i,aW ops ρ oi,oi.dst,Nat.blt di n)=(some oi,some true,some di,true)) (U:(nth ops.toList j,aW ops ρ oj,oj.dst,Nat.blt Z n)=(some oj,some true,some Z,true))
 (ki:aV P oi ρ h Φ X) (kj:aV P oj ρ h Φ' X)
 (J:∀v h',Φ v h'->(keeps i=true->Ext M h h')/\RD P n ops M keeps fuel (listed.setIfInBounds i true) ((di,v)::ρ) h' N X)
 (I:∀v h',Φ' v h'->(keeps j=true->Ext M h h')/\RD P n ops M keeps fuel (listed.setIfInBounds j true) ((Z,v)::ρ) h' N X) (hr:Region.ready .any ops listed=[i,j]:=by kernel_rfl):RD P n ops M keeps (fuel+1) listed ρ h N X:=by
 simp only[Prod.mk.injEq] at Y U;exact RD.Py i j Y.1 U.1 hr Y.2.1 U.2.1 Y.2.2.1 U.2.2.1 Y.2.2.2 U.2.2.2 ki kj rfl rfl J I
theorem Gq (he:h=h0) (hs:Sub ρ1 ρ:=by exact sb rfl) (hr:Region.ready .any ops listed=[]:=by kernel_rfl):RD P n ops M keeps fuel listed ρ h (λρ' h'=>h'=h0/\Sub ρ1 ρ') X:=BZ hr ⟨he,hs⟩
theorem H7 {E:σ->aq->Prop}{F:σ->Env}(s:σ) (I:E s h) (hs:Sub (F s) ρ:=by exact sb rfl) (hr:Region.ready .any ops listed=[]:=by kernel_rfl):RD P n ops M keeps fuel listed ρ h (λρ' h'=>∃s,E s h'/\Sub (F s) ρ') X:=BZ hr ⟨s,I,hs⟩
theorem aD (he:h=h0) (hs:Sub ρ1 ρ:=by exact sb rfl) (e:Nat.ble ops.size i=true:=by exact rfl):RW P n ops i ρ h (λρ' h'=>h'=h0/\Sub ρ1 ρ') X:=jf e ⟨he,hs⟩
theorem lN {E:σ->aq->Prop}{F:σ->Env}(s:σ) (I:E s h) (hs:Sub (F s) ρ:=by exact sb rfl) (e:Nat.ble ops.size i=true:=by exact rfl):RW P n ops i ρ h (λρ' h'=>∃s,E s h'/\Sub (F s) ρ') X:=jf e ⟨s,I,hs⟩
end
section
variable {P:Program}{f:FuncId}{fn:Func}{k:List It}{ρ ρ1:Env}{h:aq}{R:Ending->aq->Prop}{p:List Nat}
theorem fV {fuel:Nat}{M:Nat->Prop}{keeps:Nat->Bool}{listed:Array Bool}{X:List PanicEntry->aq->Prop}(next:G P f fn k ρ h R) (hr:Region.ready .any ops listed=[]:=by kernel_rfl) :
 RD P n ops M keeps fuel listed ρ h (λρ' h'=>G P f fn k ρ' h' R) X:=BZ hr next
theorem jK (sz:Nat) (M:Nat->Prop) (keeps:Nat->Bool) (next:RD P fn.ntmps (opsOf (Lw.sub (ax fn) p)) M keeps sz (Array.replicate sz false) ρ h (λρ' h'=>G P f fn k ρ' h' R) (λJ h'=>R (.panicked J) h')) [c:bI P f fn] [m:M9 P]
 (hk:kind (Lw.sub (ax fn) p)=6:=by exact rfl) (I:(opsOf (Lw.sub (ax fn) p)).size=sz:=by exact rfl):G P f fn (.code p::k) ρ h R:=ux M keeps c.e m.e hk I rfl next
theorem Gn (sz J:Nat) (next:RD P fn.ntmps (opsOf (Lw.sub (ax fn) p)) (λb=>h.size<=b) (λi=>Nat.blt i J) sz (Array.replicate sz false) ρ h (λρ' h'=>G P f fn k ρ' h' R) (λU h'=>R (.panicked U) h')) [c:bI P f fn] [m:M9 P]
 (hk:kind (Lw.sub (ax fn) p)=6:=by exact rfl) (I:(opsOf (Lw.sub (ax fn) p)).size=sz:=by exact rfl):G P f fn (.code p::k) ρ h R:=ux _ _ c.e m.e hk I rfl next
theorem dU (new:Env) (e:oY (opsOf (Lw.sub (ax fn) p)).toList ρ []=some ρ1) (mE:RW P fn.ntmps (opsOf (Lw.sub (ax fn) p)) 0 ρ h (λρ' h'=>h'=h/\Sub (new++ρ1) ρ') (λ_ _=>False))
 (next:G P f fn k (new++ρ1) h R) [c:bI P f fn] (hk:kind (Lw.sub (ax fn) p)=5:=by exact rfl):G P f fn (.code p::k) ρ h R:=G.IP new ρ1 (sF e) c.e hk mE next
theorem H9 (E:σ->aq->Prop) (new:σ->Env) (e:oY (opsOf (Lw.sub (ax fn) p)).toList ρ []=some ρ1) (mE:RW P fn.ntmps (opsOf (Lw.sub (ax fn) p)) 0 ρ h (λρ' h'=>∃s,E s h'/\Sub (new s++ρ1) ρ') (λI h'=>R (.panicked I) h'))
 (next:∀s h',E s h'->G P f fn k (new s++ρ1) h' R) [c:bI P f fn] (hk:kind (Lw.sub (ax fn) p)=5:=by exact rfl):G P f fn (.code p::k) ρ h R:=G.My E new ρ1 (sF e) c.e hk mE next
theorem Ky (sz:Nat) (M:Nat->Prop) (keeps:Nat->Bool) (new:Env) (e:oY (opsOf (Lw.sub (ax fn) p)).toList ρ []=some ρ1) (mE:RD P fn.ntmps (opsOf (Lw.sub (ax fn) p)) M keeps sz (Array.replicate sz false) ρ h (λρ' h'=>h'=h/\Sub (new++ρ1) ρ') (λJ h'=>R (.panicked J) h'))
 (next:G P f fn k (new++ρ1) h R) [c:bI P f fn] [m:M9 P] (hk:kind (Lw.sub (ax fn) p)=6:=by exact rfl) (I:(opsOf (Lw.sub (ax fn) p)).size=sz:=by exact rfl):G P f fn (.code p::k) ρ h R:=G.La new ρ1 (sF e) M keeps c.e m.e hk I rfl mE next
theorem Nw (sz:Nat) (M:Nat->Prop) (keeps:Nat->Bool) (E:σ->aq->Prop) (new:σ->Env) (e:oY (opsOf (Lw.sub (ax fn) p)).toList ρ []=some ρ1) (mE:RD P fn.ntmps (opsOf (Lw.sub (ax fn) p)) M keeps sz (Array.replicate sz false) ρ h (λρ' h'=>∃s,E s h'/\Sub (new s++ρ1) ρ') (λJ h'=>R (.panicked J) h'))
 (next:∀s h',E s h'->G P f fn k (new s++ρ1) h' R) [c:bI P f fn] [m:M9 P] (hk:kind (Lw.sub (ax fn) p)=6:=by exact rfl) (I:(opsOf (Lw.sub (ax fn) p)).size=sz:=by exact rfl):G P f fn (.code p::k) ρ h R:=G.K9 E new ρ1 (sF e) M keeps c.e m.e hk I rfl mE next
end
def Ku:Code->Nat->Bool
 |.region _ ops _,i=>wr ops.toList i
 |.seq a b,i=>Ku a i ||Ku b i
 |.cond _ a b,i=>Ku a i ||Ku b i
 |.block _ b,i=>Ku b i
 |.loop b,i=>Ku b i
 |.scope b,i=>Ku b i
 |.rangeFunc ..,_=>true
 |_,_=>false
def xL (c:Code):Env->Env->Option Env
 | [],acc=>some acc
 |(i,v)::r,acc=>match Ku c i with
  |true=>xL c r acc
  |false=>match acc.at i with
   |some _=>xL c r acc
   |none=>xL c r ((i,v)::acc)
theorem qd {c:Code}{ρ0:Env}:∀{ρ acc ρ1:Env},xL c ρ acc=some ρ1->Sub acc ρ0->(∀j v,Ku c j=false->acc.at j=none->ρ.at j=some v->ρ0.at j=some v)->Sub ρ1 ρ0
 | [],acc,ρ1,e,h,_=>by simp only[xL,Option.some.injEq] at e;subst e;exact h
 |(i,v)::r,acc,ρ1,e,h,hr=>by
  rw[xL] at e;have key:∀j u,Ku c j=false->acc.at j=none->j≠i->Env.at r j=some u->ρ0.at j=some u:=λj u h0 h1 h2 h3=>hr j u h0 h1 (by rw[Env.fS,if_neg (Ne.symm h2)];exact h3)
  split at e
  · rename_i hw;exact qd e h λj u h0 h1 h3=>key j u h0 h1 (λq=>by subst q;rw[hw] at h0;cases h0) h3
  · rename_i hw;split at e
    · rename_i x hx;exact qd e h λj u h0 h1 h3=>key j u h0 h1 (λq=>by subst q;rw[hx] at h1;cases h1) h3
    · rename_i hx;refine qd e ⟨hr i v hw hx (by rw[Env.fS,if_pos rfl]),h⟩ λj u h0 h1 h3=>?_
      rw[Env.fS] at h1;split at h1
      · cases h1
      · rename_i q;exact key j u h0 h1 (λq'=>q q'.symm) h3
theorem Ge:∀{a b ρ:Env},Sub a ρ->Sub b ρ->Sub (a++b) ρ
 | [],_,_,_,h=>h
 |(_,_)::_,_,_,⟨h1,I⟩,h=>⟨h1,Ge I h⟩
section
variable {P:Program}{f:FuncId}{fn:Func}{k:List It}{ρ ρ1:Env}{h:aq}{R:Ending->aq->Prop}{p:List Nat}
theorem fK (new:σ->Env) (I:σ->aq->Prop) (μ:σ->Nat) (J:σ) (h0:I J h) (e:xL (Lw.sub (ax fn) p) ρ []=some ρ1)
 (round:∀s h,I s h->(∀s' {h' ρ'},I s' h'->(hm:μ s' < μ s:=by first|(dsimp only;omega)|omega)->(hs:Sub (new s'++ρ1) ρ':=by exact sb rfl)->G P f fn (.loop (0::p)::k) ρ' h' R)->G P f fn (.code (0::p):: .loop (0::p)::k) (new s++ρ1) h R)
 (hk:kind (Lw.sub (ax fn) p)=3:=by exact rfl) (hs:Sub (new J) ρ:=by exact sb rfl):G P f fn (.code p::k) ρ h R :=
 uw (λs=>new s++ρ1) I μ J hk (Ge hs (qd e trivial λ_ _ _ _ h=>h)) h0 (λs h hi U=>round s h hi (λs' _ _ h1 Z Y=>U s' _ _ Y h1 Z))
theorem cD:iz P ρ h [] []:=.nil
theorem rO {t:Tmp}(k:iz P ρ h rs vs) (I:ρ.at t=some v:=by exact rfl):iz P ρ h (.tmp t::rs) (v::vs):=.cons (jq.tmp I) k
theorem QO {a:Tmp}{q:Addr}(I:ρ.at a=some (.pointer (some q))) (hc:cellAt h q=some v) (k:iz P ρ h rs vs) [c:jV P t false]:iz P ρ h (.cell a t::rs) (v::vs):=.cons (jq.cell c.e I hc) k
theorem cz {a:Tmp}{o:Nat}(I:ρ.at a=some (.pointer (some ⟨b,o,none⟩))) (hc:rowAt h b o cs) (k:iz P ρ h rs vs) [c:jV P t true] [d:lX P t sz] (J:cs.length=sz:=by first|exact rfl|(simp;done)|(simp;omega)) :
 iz P ρ h (.cell a t::rs) (.agg cs.toArray::vs):=.cons (jq.Mx c.e d.e I hc J) k
theorem cE (hr:iz P ρ h fn.results.toList vs) (I:R (.returned (packed vs)) h) [c:bI P f fn] (hk:kind (Lw.sub (ax fn) p)=4:=by exact rfl):G P f fn (.code p::k) ρ h R:=G.PV c.e hk hr I
end
section
variable {P:Program}{n:Nat}{ops:Array Oper}{i:Nat}{ρ:Env}{h:aq}{M:Nat->Prop}{keeps:Nat->Bool}{fuel:Nat}{listed:Array Bool}{X:List PanicEntry->aq->Prop}{N:Env->aq->Prop}
theorem cX (d:Nat){b:Bool}(I:b=true->RW P n ops i ((d,.bool true)::ρ) h N X) (J:b=false->RW P n ops i ((d,.bool false)::ρ) h N X) (U:ρ.at d=some (.bool b):=by exact rfl):RW P n ops i ρ h N X:=pR U I J
theorem Qx (d:Nat){b:Bool}(I:b=true->RD P n ops M keeps fuel listed ((d,.bool true)::ρ) h N X) (J:b=false->RD P n ops M keeps fuel listed ((d,.bool false)::ρ) h N X) (U:ρ.at d=some (.bool b):=by exact rfl):RD P n ops M keeps fuel listed ρ h N X:=D1 U I J
theorem Pc {N:Env->Prop}(d:Nat){b:Bool}(I:b=true->RQ P n ops i ((d,.bool true)::ρ) h N) (J:b=false->RQ P n ops i ((d,.bool false)::ρ) h N) (U:ρ.at d=some (.bool b):=by exact rfl):RQ P n ops i ρ h N:=D0 U I J
end
structure Qv (p:Prop):Prop where
 on:p
theorem af {g I:Prop}(next:I) (k:Qv I->g:=by
 intro n
 repeat first
  |refine QN ?_
  |refine aR ?_
  |refine cO ?_
  |refine QZ ?_
  |refine cI ?_
  |refine jD ?_
  |refine QS ?_
  |refine Qw ?_
  |refine Q0 ?_
  |refine QM ?_
 exact n.on):g:=k ⟨next⟩
end
end Go.Lw
namespace Go.Proofs.YtnjahnbpnpkmhaaGreatDoor.H
open Go.Proofs.Tryz
open Go Go.Lw
set_option maxRecDepth 100000 in
instance:Lu prog:=⟨by decide +kernel⟩
instance:jV prog 100 false:=⟨by kernel_rfl⟩
instance:jV prog 101 false:=⟨by kernel_rfl⟩
instance:jV prog 102 true:=⟨by kernel_rfl⟩
instance:jV prog 103 false:=⟨Mg⟩
instance:jV prog 105 true:=⟨Au⟩
instance:jV prog 111 true:=⟨by kernel_rfl⟩
instance:jV prog 115 false:=⟨by kernel_rfl⟩
instance:jV prog 117 true:=⟨Mf⟩
instance:jV prog 120 false:=⟨by kernel_rfl⟩
instance:jV prog 126 true:=⟨by kernel_rfl⟩
instance:jV prog 130 false:=⟨by kernel_rfl⟩
instance:jV prog 137 false:=⟨by kernel_rfl⟩
instance:jV prog 148 true:=⟨Me⟩
instance:jV prog 149 true:=⟨by kernel_rfl⟩
instance:jV prog 165 false:=⟨by kernel_rfl⟩
instance:jV prog 180 false:=⟨Kc⟩
instance:jV prog 182 true:=⟨Kb⟩
instance:jV prog 185 false:=⟨by kernel_rfl⟩
instance:jV prog 209 false:=⟨by kernel_rfl⟩
instance:jV prog 210 false:=⟨by kernel_rfl⟩
instance:jV prog 214 true:=⟨by kernel_rfl⟩
instance:jV prog 228 false:=⟨by kernel_rfl⟩
instance:jV prog 25 true:=⟨by kernel_rfl⟩
instance:jV prog 256 true:=⟨by kernel_rfl⟩
instance:jV prog 28 false:=⟨by kernel_rfl⟩
instance:jV prog 29 false:=⟨M6⟩
instance:jV prog 3 false:=⟨Nn⟩
instance:jV prog 32 false:=⟨by kernel_rfl⟩
instance:jV prog 4 false:=⟨by kernel_rfl⟩
instance:jV prog 41 true:=⟨by kernel_rfl⟩
instance:jV prog 46 false:=⟨by kernel_rfl⟩
instance:jV prog 5 false:=⟨by kernel_rfl⟩
instance:jV prog 55 false:=⟨by kernel_rfl⟩
instance:jV prog 62 true:=⟨by kernel_rfl⟩
instance:jV prog 67 false:=⟨by kernel_rfl⟩
instance:jV prog 70 false:=⟨OM⟩
instance:jV prog 73 false:=⟨M5⟩
instance:jV prog 75 false:=⟨by kernel_rfl⟩
instance:jV prog 83 true:=⟨by kernel_rfl⟩
instance:jV prog 88 true:=⟨by kernel_rfl⟩
instance:jV prog 9 false:=⟨Nl⟩
instance:jV prog 90 false:=⟨by kernel_rfl⟩
instance:jV prog 94 true:=⟨by kernel_rfl⟩
instance:jV prog 97 false:=⟨by kernel_rfl⟩
instance:QK prog 155:=⟨Mb⟩
instance:Ay prog 100 1 24:=⟨Om⟩
instance:Ay prog 102 4 32:=⟨L9⟩
instance:Ay prog 105 6 64:=⟨JQ⟩
instance:Ay prog 111 7 72:=⟨L8⟩
instance:Ay prog 130 1 24:=⟨Ol⟩
instance:Ay prog 137 1 24:=⟨Oj⟩
instance:Ay prog 182 6 64:=⟨JP⟩
instance:Ay prog 25 2 16:=⟨K8⟩
instance:Ay prog 3 1 8:=⟨Oi⟩
instance:Ay prog 41 3 48:=⟨K6⟩
instance:Ay prog 5 1 1:=⟨Re⟩
instance:Ay prog 62 3 48:=⟨Hw⟩
instance:Ay prog 75 1 8:=⟨Qb⟩
instance:Ay prog 83 3 24:=⟨JO⟩
instance:Ay prog 88 3 32:=⟨MV⟩
instance:Ay prog 9 1 16:=⟨Qa⟩
instance:Ay prog 94 3 32:=⟨MU⟩
instance:jg prog 105 0 0:=⟨⟨_,_,_,underlying105,rfl,rfl,mW⟩⟩
instance:jg prog 105 1 1:=⟨⟨_,_,_,underlying105,rfl,rfl,Fz⟩⟩
instance:jg prog 105 2 5:=⟨⟨_,_,_,underlying105,rfl,rfl,NS⟩⟩
instance:jg prog 111 0 0:=⟨⟨_,_,_,underlying111,rfl,rfl,mW⟩⟩
instance:jg prog 111 1 1:=⟨⟨_,_,_,underlying111,rfl,rfl,Fz⟩⟩
instance:jg prog 111 2 5:=⟨⟨_,_,_,underlying111,rfl,rfl,Cx⟩⟩
instance:jg prog 111 3 6:=⟨⟨_,_,_,underlying111,rfl,rfl,mW⟩⟩
instance:jg prog 117 1 1:=⟨⟨_,_,_,underlying117,rfl,rfl,mW⟩⟩
instance:jg prog 117 2 2:=⟨⟨_,_,_,underlying117,rfl,rfl,mW⟩⟩
instance:jg prog 122 0 0:=⟨⟨_,_,_,underlying122,rfl,rfl,LP⟩⟩
instance:jg prog 122 1 1:=⟨⟨_,_,_,underlying122,rfl,rfl,Cx⟩⟩
instance:jg prog 158 0 0:=⟨⟨_,_,_,underlying158,rfl,rfl,D6⟩⟩
instance:jg prog 167 0 0:=⟨⟨_,_,_,underlying167,rfl,rfl,LO⟩⟩
instance:jg prog 167 1 1:=⟨⟨_,_,_,underlying167,rfl,rfl,NG⟩⟩
instance:jg prog 182 0 0:=⟨⟨_,_,_,underlying182,rfl,rfl,mW⟩⟩
instance:jg prog 182 1 1:=⟨⟨_,_,_,underlying182,rfl,rfl,Fz⟩⟩
instance:jg prog 182 2 5:=⟨⟨_,_,_,underlying182,rfl,rfl,Ip⟩⟩
instance:jg prog 212 0 0:=⟨⟨_,_,_,underlying212,rfl,rfl,LN⟩⟩
instance:jg prog 212 1 1:=⟨⟨_,_,_,underlying212,rfl,rfl,LM⟩⟩
instance:jg prog 212 2 2:=⟨⟨_,_,_,underlying212,rfl,rfl,zK⟩⟩
instance:jg prog 214 0 0:=⟨⟨_,_,_,underlying214,rfl,rfl,Cv⟩⟩
instance:jg prog 214 1 1:=⟨⟨_,_,_,underlying214,rfl,rfl,zK⟩⟩
instance:jg prog 214 2 2:=⟨⟨_,_,_,underlying214,rfl,rfl,zK⟩⟩
instance:jg prog 25 0 0:=⟨⟨_,_,_,underlying25,rfl,rfl,mW⟩⟩
instance:jg prog 25 1 1:=⟨⟨_,_,_,underlying25,rfl,rfl,mW⟩⟩
instance:jg prog 41 0 0:=⟨⟨_,_,_,underlying41,rfl,rfl,mW⟩⟩
instance:jg prog 41 1 1:=⟨⟨_,_,_,underlying41,rfl,rfl,D6⟩⟩
instance:jg prog 41 2 2:=⟨⟨_,_,_,underlying41,rfl,rfl,NJ⟩⟩
instance:jg prog 51 0 0:=⟨⟨_,_,_,underlying51,rfl,rfl,PO⟩⟩
instance:jg prog 51 1 1:=⟨⟨_,_,_,underlying51,rfl,rfl,mW⟩⟩
instance:jg prog 51 2 2:=⟨⟨_,_,_,underlying51,rfl,rfl,mW⟩⟩
instance:jg prog 51 3 3:=⟨⟨_,_,_,underlying51,rfl,rfl,Cv⟩⟩
instance:jg prog 51 4 4:=⟨⟨_,_,_,underlying51,rfl,rfl,mW⟩⟩
instance:jg prog 60 0 0:=⟨⟨_,_,_,underlying60,rfl,rfl,PN⟩⟩
instance:jg prog 60 1 1:=⟨⟨_,_,_,underlying60,rfl,rfl,mW⟩⟩
instance:jg prog 60 2 2:=⟨⟨_,_,_,underlying60,rfl,rfl,mW⟩⟩
instance:jg prog 60 3 3:=⟨⟨_,_,_,underlying60,rfl,rfl,Cv⟩⟩
instance:jg prog 60 4 4:=⟨⟨_,_,_,underlying60,rfl,rfl,mW⟩⟩
instance:jg prog 62 0 0:=⟨⟨_,_,_,underlying62,rfl,rfl,mW⟩⟩
instance:jg prog 62 1 1:=⟨⟨_,_,_,underlying62,rfl,rfl,D6⟩⟩
instance:jg prog 62 2 2:=⟨⟨_,_,_,underlying62,rfl,rfl,NI⟩⟩
instance:jg prog 69 0 0:=⟨⟨_,_,_,underlying69,rfl,rfl,NH⟩⟩
instance:jg prog 83 0 0:=⟨⟨_,_,_,underlying83,rfl,rfl,mW⟩⟩
instance:jg prog 83 1 1:=⟨⟨_,_,_,underlying83,rfl,rfl,mW⟩⟩
instance:jg prog 83 2 2:=⟨⟨_,_,_,underlying83,rfl,rfl,mW⟩⟩
instance:jg prog 88 0 0:=⟨⟨_,_,_,underlying88,rfl,rfl,mW⟩⟩
instance:jg prog 88 1 1:=⟨⟨_,_,_,underlying88,rfl,rfl,D6⟩⟩
instance:jg prog 88 2 2:=⟨⟨_,_,_,underlying88,rfl,rfl,mW⟩⟩
instance:jg prog 94 0 0:=⟨⟨_,_,_,underlying94,rfl,rfl,mW⟩⟩
instance:jg prog 94 1 1:=⟨⟨_,_,_,underlying94,rfl,rfl,mW⟩⟩
instance:jg prog 94 2 2:=⟨⟨_,_,_,underlying94,rfl,rfl,D6⟩⟩
instance:jg prog 99 0 0:=⟨⟨_,_,_,underlying99,rfl,rfl,NF⟩⟩
instance:jg prog 99 1 1:=⟨⟨_,_,_,underlying99,rfl,rfl,mW⟩⟩
instance:bI prog 10 f10:=⟨func10⟩
instance:bI prog 100 f100:=⟨func100⟩
instance:bI prog 101 f101:=⟨func101⟩
instance:bI prog 102 f102:=⟨func102⟩
instance:bI prog 103 Tryz.f103:=⟨func103⟩
instance:bI prog 104 f104:=⟨func104⟩
instance:bI prog 105 f105:=⟨func105⟩
instance:bI prog 106 f106:=⟨func106⟩
instance:bI prog 107 f107:=⟨func107⟩
instance:bI prog 108 f108:=⟨func108⟩
instance:bI prog 109 f109:=⟨func109⟩
instance:bI prog 11 f11:=⟨func11⟩
instance:bI prog 110 f110:=⟨func110⟩
instance:bI prog 111 f111:=⟨func111⟩
instance:bI prog 112 f112:=⟨func112⟩
instance:bI prog 113 f113:=⟨func113⟩
instance:bI prog 114 f114:=⟨func114⟩
instance:bI prog 115 f115:=⟨func115⟩
instance:bI prog 116 f116:=⟨func116⟩
instance:bI prog 117 f117:=⟨func117⟩
instance:bI prog 118 f118:=⟨func118⟩
instance:bI prog 12 f12:=⟨func12⟩
instance:bI prog 120 f120:=⟨func120⟩
instance:bI prog 121 f121:=⟨func121⟩
instance:bI prog 122 f122:=⟨func122⟩
instance:bI prog 123 f123:=⟨func123⟩
instance:bI prog 124 f124:=⟨func124⟩
instance:bI prog 125 f125:=⟨func125⟩
instance:bI prog 126 f126:=⟨func126⟩
instance:bI prog 127 f127:=⟨func127⟩
instance:bI prog 128 f128:=⟨func128⟩
instance:bI prog 129 Tryz.f129:=⟨func129⟩
instance:bI prog 13 f13:=⟨func13⟩
instance:bI prog 130 f130:=⟨func130⟩
instance:bI prog 131 f131:=⟨func131⟩
instance:bI prog 132 f132:=⟨func132⟩
instance:bI prog 133 f133:=⟨func133⟩
instance:bI prog 134 f134:=⟨func134⟩
instance:bI prog 135 f135:=⟨func135⟩
instance:bI prog 14 f14:=⟨func14⟩
instance:bI prog 140 f140:=⟨func140⟩
instance:bI prog 141 f141:=⟨func141⟩
instance:bI prog 142 f142:=⟨func142⟩
instance:bI prog 143 Tryz.f143:=⟨func143⟩
instance:bI prog 145 f145:=⟨func145⟩
instance:bI prog 146 f146:=⟨func146⟩
instance:bI prog 147 f147:=⟨func147⟩
instance:bI prog 148 f148:=⟨func148⟩
instance:bI prog 149 f149:=⟨func149⟩
instance:bI prog 15 f15:=⟨func15⟩
instance:bI prog 150 f150:=⟨func150⟩
instance:bI prog 151 f151:=⟨func151⟩
instance:bI prog 152 f152:=⟨func152⟩
instance:bI prog 153 f153:=⟨func153⟩
instance:bI prog 159 f159:=⟨func159⟩
instance:bI prog 16 f16:=⟨func16⟩
instance:bI prog 161 f161:=⟨func161⟩
instance:bI prog 162 f162:=⟨func162⟩
instance:bI prog 163 f163:=⟨func163⟩
instance:bI prog 164 f164:=⟨func164⟩
instance:bI prog 165 f165:=⟨func165⟩
instance:bI prog 166 f166:=⟨func166⟩
instance:bI prog 167 f167:=⟨func167⟩
instance:bI prog 168 f168:=⟨func168⟩
instance:bI prog 17 f17:=⟨func17⟩
instance:bI prog 179 f179:=⟨func179⟩
instance:bI prog 18 f18:=⟨func18⟩
instance:bI prog 180 f180:=⟨func180⟩
instance:bI prog 183 f183:=⟨func183⟩
instance:bI prog 184 f184:=⟨func184⟩
instance:bI prog 185 f185:=⟨func185⟩
instance:bI prog 186 f186:=⟨func186⟩
instance:bI prog 187 f187:=⟨func187⟩
instance:bI prog 188 f188:=⟨func188⟩
instance:bI prog 19 f19:=⟨func19⟩
instance:bI prog 193 f193:=⟨func193⟩
instance:bI prog 195 f195:=⟨func195⟩
instance:bI prog 197 Tryz.f197:=⟨func197⟩
instance:bI prog 199 f199:=⟨func199⟩
instance:bI prog 20 f20:=⟨func20⟩
instance:bI prog 21 f21:=⟨func21⟩
instance:bI prog 22 f22:=⟨func22⟩
instance:bI prog 23 f23:=⟨func23⟩
instance:bI prog 24 f24:=⟨func24⟩
instance:bI prog 25 f25:=⟨func25⟩
instance:bI prog 26 f26:=⟨func26⟩
instance:bI prog 27 f27:=⟨func27⟩
instance:bI prog 28 f28:=⟨func28⟩
instance:bI prog 29 f29:=⟨func29⟩
instance:bI prog 3 Tryz.f3:=⟨func3⟩
instance:bI prog 30 f30:=⟨func30⟩
instance:bI prog 31 f31:=⟨func31⟩
instance:bI prog 32 f32:=⟨func32⟩
instance:bI prog 33 f33:=⟨func33⟩
instance:bI prog 34 f34:=⟨func34⟩
instance:bI prog 35 f35:=⟨func35⟩
instance:bI prog 36 f36:=⟨func36⟩
instance:bI prog 37 f37:=⟨func37⟩
instance:bI prog 38 f38:=⟨func38⟩
instance:bI prog 39 f39:=⟨func39⟩
instance:bI prog 4 Tryz.f4:=⟨func4⟩
instance:bI prog 40 f40:=⟨func40⟩
instance:bI prog 41 f41:=⟨func41⟩
instance:bI prog 42 f42:=⟨func42⟩
instance:bI prog 43 f43:=⟨func43⟩
instance:bI prog 44 f44:=⟨func44⟩
instance:bI prog 45 f45:=⟨func45⟩
instance:bI prog 46 f46:=⟨func46⟩
instance:bI prog 47 f47:=⟨func47⟩
instance:bI prog 48 f48:=⟨func48⟩
instance:bI prog 49 f49:=⟨func49⟩
instance:bI prog 5 Tryz.f5:=⟨func5⟩
instance:bI prog 50 f50:=⟨func50⟩
instance:bI prog 51 f51:=⟨func51⟩
instance:bI prog 52 f52:=⟨func52⟩
instance:bI prog 53 f53:=⟨func53⟩
instance:bI prog 54 f54:=⟨func54⟩
instance:bI prog 55 f55:=⟨func55⟩
instance:bI prog 56 f56:=⟨func56⟩
instance:bI prog 57 f57:=⟨func57⟩
instance:bI prog 58 f58:=⟨func58⟩
instance:bI prog 59 f59:=⟨func59⟩
instance:bI prog 6 f6:=⟨func6⟩
instance:bI prog 60 f60:=⟨func60⟩
instance:bI prog 61 f61:=⟨func61⟩
instance:bI prog 62 f62:=⟨func62⟩
instance:bI prog 63 f63:=⟨func63⟩
instance:bI prog 64 f64:=⟨func64⟩
instance:bI prog 65 f65:=⟨func65⟩
instance:bI prog 66 f66:=⟨func66⟩
instance:bI prog 67 f67:=⟨func67⟩
instance:bI prog 68 f68:=⟨func68⟩
instance:bI prog 69 f69:=⟨func69⟩
instance:bI prog 7 f7:=⟨func7⟩
instance:bI prog 70 f70:=⟨func70⟩
instance:bI prog 71 f71:=⟨func71⟩
instance:bI prog 72 f72:=⟨func72⟩
instance:bI prog 73 f73:=⟨func73⟩
instance:bI prog 74 f74:=⟨func74⟩
instance:bI prog 75 f75:=⟨func75⟩
instance:bI prog 76 f76:=⟨func76⟩
instance:bI prog 78 f78:=⟨func78⟩
instance:bI prog 79 f79:=⟨func79⟩
instance:bI prog 8 Tryz.f8:=⟨func8⟩
instance:bI prog 80 f80:=⟨func80⟩
instance:bI prog 81 f81:=⟨func81⟩
instance:bI prog 82 f82:=⟨func82⟩
instance:bI prog 83 f83:=⟨func83⟩
instance:bI prog 84 f84:=⟨func84⟩
instance:bI prog 85 f85:=⟨func85⟩
instance:bI prog 86 f86:=⟨func86⟩
instance:bI prog 87 f87:=⟨func87⟩
instance:bI prog 88 f88:=⟨func88⟩
instance:bI prog 89 f89:=⟨func89⟩
instance:bI prog 9 f9:=⟨func9⟩
instance:bI prog 90 f90:=⟨func90⟩
instance:bI prog 91 f91:=⟨func91⟩
instance:bI prog 92 f92:=⟨func92⟩
instance:bI prog 93 f93:=⟨func93⟩
instance:bI prog 94 f94:=⟨func94⟩
instance:bI prog 95 f95:=⟨func95⟩
instance:bI prog 96 f96:=⟨func96⟩
instance:bI prog 97 f97:=⟨func97⟩
instance:bI prog 98 f98:=⟨func98⟩
instance:bI prog 99 f99:=⟨func99⟩
instance:M9 prog:=⟨mixed⟩
instance:lX prog 100 1:=⟨Cx⟩
instance:lX prog 101 1:=⟨by kernel_rfl⟩
instance:lX prog 102 4:=⟨Fz⟩
instance:lX prog 105 6:=⟨oH⟩
instance:lX prog 111 7:=⟨by kernel_rfl⟩
instance:lX prog 115 1:=⟨by kernel_rfl⟩
instance:lX prog 117 3:=⟨Ir⟩
instance:lX prog 120 1:=⟨LP⟩
instance:lX prog 126 256:=⟨by kernel_rfl⟩
instance:lX prog 130 1:=⟨zK⟩
instance:lX prog 137 1:=⟨by kernel_rfl⟩
instance:lX prog 148 2:=⟨Iq⟩
instance:lX prog 149 12:=⟨by kernel_rfl⟩
instance:lX prog 165 1:=⟨LO⟩
instance:lX prog 182 6:=⟨Cw⟩
instance:lX prog 185 1:=⟨by kernel_rfl⟩
instance:lX prog 209 1:=⟨LN⟩
instance:lX prog 210 1:=⟨LM⟩
instance:lX prog 214 3:=⟨by kernel_rfl⟩
instance:lX prog 25 2:=⟨by kernel_rfl⟩
instance:lX prog 256 256:=⟨by kernel_rfl⟩
instance:lX prog 28 1:=⟨NJ⟩
instance:lX prog 29 1:=⟨Mq⟩
instance:lX prog 3 1:=⟨mW⟩
instance:lX prog 32 1:=⟨NI⟩
instance:lX prog 4 1:=⟨Cv⟩
instance:lX prog 41 3:=⟨by kernel_rfl⟩
instance:lX prog 5 1:=⟨Qy⟩
instance:lX prog 62 3:=⟨by kernel_rfl⟩
instance:lX prog 67 1:=⟨NH⟩
instance:lX prog 75 1:=⟨by kernel_rfl⟩
instance:lX prog 83 3:=⟨by kernel_rfl⟩
instance:lX prog 88 3:=⟨by kernel_rfl⟩
instance:lX prog 9 1:=⟨D6⟩
instance:lX prog 90 1:=⟨NG⟩
instance:lX prog 94 3:=⟨by kernel_rfl⟩
instance:lX prog 97 1:=⟨NF⟩
instance:kN prog 100 (.slice 3):=⟨underlying100⟩
instance:kN prog 102 (.array 4 101):=⟨underlying102⟩
instance:kN prog 103 (.slice 105):=⟨underlying103⟩
instance:kN prog 115 (.slice 117):=⟨underlying115⟩
instance:kN prog 118 (.array 3 115):=⟨underlying118⟩
instance:kN prog 120 (.slice 126):=⟨underlying120⟩
instance:kN prog 125 (.slice 100):=⟨underlying125⟩
instance:kN prog 126 (.array 256 3):=⟨underlying126⟩
instance:kN prog 130 (.slice 4):=⟨underlying130⟩
instance:kN prog 137 (.slice 185):=⟨underlying137⟩
instance:kN prog 148 (.array 2 5):=⟨underlying148⟩
instance:kN prog 149 (.array 6 148):=⟨underlying149⟩
instance:kN prog 177 (.slice 148):=⟨underlying177⟩
instance:kN prog 180 (.slice 182):=⟨underlying180⟩
instance:kN prog 209 (.slice 102):=⟨underlying209⟩
instance:kN prog 21 (.int .i32):=⟨underlying21⟩
instance:kN prog 210 (.slice 130):=⟨underlying210⟩
instance:kN prog 23 (.slice 83):=⟨underlying23⟩
instance:kN prog 256 (.array 256 4):=⟨underlying256⟩
instance:kN prog 28 (.slice 41):=⟨underlying28⟩
instance:kN prog 3 (.int .i64):=⟨underlying3⟩
instance:kN prog 32 (.slice 62):=⟨underlying32⟩
instance:kN prog 43 (.slice 25):=⟨underlying43⟩
instance:kN prog 46 (.slice 88):=⟨underlying46⟩
instance:kN prog 5 (.int .u8):=⟨underlying5⟩
instance:kN prog 55 (.slice 94):=⟨underlying55⟩
instance:kN prog 67 (.slice 75):=⟨underlying67⟩
instance:kN prog 73 (.slice 9):=⟨underlying73⟩
instance:kN prog 80 (.slice 137):=⟨underlying80⟩
instance:kN prog 9 (.string):=⟨underlying9⟩
instance:kN prog 90 (.slice 5):=⟨underlying90⟩
instance:kN prog 97 (.slice 111):=⟨underlying97⟩
instance:BX prog 102 (.agg #[.int .u64 (0),.int .u64 (0),.int .u64 (0),.int .u64 (0)]):=⟨by kernel_rfl⟩
instance:BX prog 105 (.agg #[.int .i64 (0),.int .u64 (0),.int .u64 (0),.int .u64 (0),.int .u64 (0),.slice none 0 0]):=⟨LK⟩
instance:BX prog 117 (.agg #[.string ⟨#[]⟩,.int .i64 (0),.int .i64 (0)]):=⟨LJ⟩
instance:BX prog 126 (.agg (Array.replicate 256 (.int .i64 (0)))):=⟨by kernel_rfl⟩
instance:BX prog 148 (.agg #[.int .u8 (0),.int .u8 (0)]):=⟨by kernel_rfl⟩
instance:BX prog 167 (.agg #[.pointer none,.slice none 0 0]):=⟨by kernel_rfl⟩
instance:BX prog 182 (.agg #[.int .i64 (0),.int .u64 (0),.int .u64 (0),.int .u64 (0),.int .u64 (0),.slice none 0 0]):=⟨LI⟩
instance:BX prog 214 (.agg #[.bool false,.slice none 0 0,.slice none 0 0]):=⟨by kernel_rfl⟩
instance:BX prog 25 (.agg #[.int .i64 (0),.int .i64 (0)]):=⟨by kernel_rfl⟩
instance:BX prog 256 (.agg (Array.replicate 256 (.bool false))):=⟨by kernel_rfl⟩
instance:BX prog 29 (.int .i64 (0)):=⟨by kernel_rfl⟩
instance:BX prog 3 (.int .i64 (0)):=⟨Pv⟩
instance:BX prog 41 (.agg #[.int .i64 (0),.string ⟨#[]⟩,.slice none 0 0]):=⟨by kernel_rfl⟩
instance:BX prog 62 (.agg #[.int .i64 (0),.string ⟨#[]⟩,.slice none 0 0]):=⟨by kernel_rfl⟩
instance:BX prog 73 (.slice none 0 0):=⟨by kernel_rfl⟩
instance:BX prog 83 (.agg #[.int .i64 (0),.int .i64 (0),.int .i64 (0)]):=⟨by kernel_rfl⟩
instance:BX prog 88 (.agg #[.int .i64 (0),.string ⟨#[]⟩,.int .i64 (0)]):=⟨by kernel_rfl⟩
instance:BX prog 94 (.agg #[.int .i64 (0),.int .i64 (0),.string ⟨#[]⟩]):=⟨by kernel_rfl⟩
end Go.Proofs.YtnjahnbpnpkmhaaGreatDoor.H
namespace Go.Proofs.YtnjahnbpnpkmhaaGreatDoor
abbrev By:=List UInt8
inductive Nd where
  |mk (kind:Nat) (set:Nat) (kids:List Nd)
def Nd.kind:Nd->Nat|.mk k _ _=>k
def Nd.set:Nd->Nat|.mk _ s _=>s
def Nd.kids:Nd->List Nd|.mk _ _ l=>l
def Fb:Nat:=2 ^ 256-1
def jF (s a:Nat):Nat->Nat
  | 0=>s
  |n+1=>jF (s |||(1 <<< a)) (a+1) n
def j9 (s:Nat) (a b:UInt8):Nat:=jF s a.toNat (b.toNat+1-a.toNat)
def jt (s:Nat):Nat:=Fb ^^^ s
def rH (b:UInt8):Nd:=.mk 1 (j9 0 b b) []
def DG:Nd:=.mk 1 (j9 (j9 0 0 9) 11 255) []
def lI:Nd:=.mk 0 0 []
def bH:By:=[40,41,91,93,124,42,43,63,46,92,45,94]
def de (b:UInt8):Option Nat :=
  if 48<=b.toNat/\b.toNat<=57 then some (b.toNat-48) else if 97<=b.toNat/\b.toNat<=102 then some (b.toNat-87) else if 65<=b.toNat/\b.toNat<=70 then some (b.toNat-55) else none
def gL:By->Option (UInt8×By)
  | []=>none
  |b::r =>
    if b=110 then some (10,r) else if b=116 then some (9,r) else if b=114 then some (13,r)
    else if b=120 then
      match r with
      |x::y::r=>match de x,de y with
        |some m,some n=>some (UInt8.ofNat (m*16+n),r)
        |_,_=>none
      |_=>none
    else if b∈bH then some (b,r) else none
def nF:By->Option (UInt8×By)
  | []=>none
  |b::r=>if b=92 then gL r else if b∈bH then none else some (b,r)
def fH (s:By):Option ((UInt8×UInt8)×By) :=
  match nF s with
  |none=>none
  |some (a,r)=>match r with
    | 45::r'=>match nF r' with
      |none=>none
      |some (b,r'')=>if b.toNat<a.toNat then none else some ((a,b),r'')
    |_=>some ((a,a),r)
def oh:Nat->Nat->By->Option (Nat×By)
  | 0,_,_=>none
  |n+1,acc,s=>match fH s with
    |none=>none
    |some ((a,b),r)=>match r with
      | 93::r'=>some (j9 acc a b,r')
      |_=>oh n (j9 acc a b) r
def dw (s:By):Option (Nd×By) :=
  match s with
  | 94::r=>(oh (r.length+1) 0 r).map λp=>(.mk 1 (jt p.1) [],p.2)
  |_=>(oh (s.length+1) 0 s).map λp=>(.mk 1 p.1 [],p.2)
def cU (rows:By->Option (Nd×By)):By->Option (Nd×By)
  | []=>none
  |c::r =>
    if c=40 then
      match rows r with
      |none=>none
      |some (n,r')=>match r' with
        | 41::r''=>some (n,r'')
        |_=>none
    else if c=91 then dw r
    else if c=46 then some (DG,r)
    else if c=92 then (gL r).map λp=>(rH p.1,p.2)
    else if c∈[(41:UInt8),93,124,42,43,63] then none
    else some (rH c,r)
def ck (c:UInt8):Nat:=if c=42 then 4 else if c=43 then 5 else if c=63 then 6 else 0
def dL (n:Nd):By->Nd×By
  | []=>(n,[])
  |c::r=>if ck c=0 then (n,c::r) else dL (.mk (ck c) 0 [n]) r
def fN (rows:By->Option (Nd×By)) (s:By):Option (Nd×By) :=
  (cU rows s).map λp=>dL p.1 p.2
def bg (kind:Nat):List Nd->Nd
  | []=>lI
  | [n]=>n
  |l=>.mk kind 0 l
def iQ:By->Bool
  | []=>true
  |c::_=>c ==124 ||c ==41
def oP (rows:By->Option (Nd×By)):Nat->By->Option (List Nd×By)
  | 0,_=>none
  |n+1,s=>if iQ s then some ([],s) else
    match fN rows s with
    |none=>none
    |some (x,r)=>(oP rows n r).map λp=>(x::p.1,p.2)
def fX (rows:By->Option (Nd×By)):Nat->List Nd->List Nd->By->Option (Nd×By)
  | 0,_,_,_=>none
  |n+1,all,row,s=>if iQ s then
      if s.head? =some 124 then fX rows n (all++[bg 2 row]) [] s.tail
      else some (bg 3 (all++[bg 2 row]),s)
    else match fN rows s with
      |none=>none
      |some (x,r)=>fX rows n all (row++[x]) r
def ct:Nat->By->Option (Nd×By)
  | 0,_=>none
  |d+1,s=>fX (ct d) (s.length+1) [] [] s
def fO (s:By):Option Nd :=
  match ct (s.length+1) s with
  |some (n,[])=>some n
  |_=>none
theorem yf {s:By}{b:UInt8}{r:By}(h:gL s=some (b,r)):r.length<s.length:=by
  unfold gL at h;split at h
  · cases h
  · rename_i c t;split at h
    · cases h;simp
    · split at h
      · cases h;simp
      · split at h
        · cases h;simp
        · split at h
          · split at h
            · split at h
              · cases h;simp only[List.length_cons];omega
              · cases h
            · cases h
          · split at h
            · cases h;simp
            · cases h
theorem mJ {s:By}{b:UInt8}{r:By}(h:nF s=some (b,r)):r.length<s.length:=by
  unfold nF at h;split at h
  · cases h
  · split at h
    · have:=yf h;simp only[List.length_cons];omega
    · split at h
      · cases h
      · cases h;simp
theorem pe {s:By}{p:UInt8×UInt8}{r:By}(h:fH s=some (p,r)):r.length<s.length:=by
  unfold fH at h;split at h
  · cases h
  · rename_i a t ha;have h1:=mJ ha;split at h
    · rename_i t';split at h
      · cases h
      · rename_i b t'' hb;have h2:=mJ hb;split at h
        · cases h
        · cases h;simp only[List.length_cons] at h1;omega
    · cases h;exact h1
theorem tE:∀(n acc:Nat){s:By}{m:Nat}{r:By},oh n acc s=some (m,r)->r.length<s.length
  | 0,_,s,m,r,h=>by cases h
  |n+1,acc,s,m,r,h=>by
    rw[oh] at h;split at h
    · cases h
    · rename_i a b t I;have h1:=pe I;split at h
      · cases h;simp only[List.length_cons] at h1;omega
      · have:=tE n _ h;omega
theorem sX {s:By}{x:Nd}{r:By}(h:dw s=some (x,r)):r.length<s.length:=by
  unfold dw at h;split at h
  · rename_i t;simp only[Option.map_eq_some_iff] at h;obtain⟨⟨m,J⟩,h1,I⟩:=h;cases I;have:=tE _ _ h1;simp only[List.length_cons];omega
  · simp only[Option.map_eq_some_iff] at h;obtain⟨⟨m,J⟩,h1,I⟩:=h;cases I;exact tE _ _ h1
theorem uh {rows:By->Option (Nd×By)}(hr:∀{s x r},rows s=some (x,r)->r.length<=s.length){s:By}{x:Nd}{r:By}(h:cU rows s=some (x,r)):r.length<s.length:=by
  unfold cU at h;split at h
  · cases h
  · rename_i c t;simp only[List.length_cons];split at h
    · split at h
      · cases h
      · rename_i n t' ht;have:=hr ht;split at h
        · rename_i t'' _;cases h;simp only[List.length_cons] at this;omega
        · cases h
    · split at h
      · have:=sX h;omega
      · split at h
        · cases h;omega
        · split at h
          · simp only[Option.map_eq_some_iff] at h;obtain⟨⟨b,r'⟩,h1,h2⟩:=h;cases h2;have:=yf h1;dsimp only;omega
          · split at h
            · cases h
            · cases h;omega
theorem wu:∀(s:By) (n:Nd),(dL n s).2.length<=s.length
  | [],n=>by simp[dL]
  |c::r,n=>by
    rw[dL];split
    · simp
    · have:=wu r (.mk (ck c) 0 [n]);simp only[List.length_cons];omega
theorem gF {rows:By->Option (Nd×By)}(hr:∀{s x r},rows s=some (x,r)->r.length<=s.length){s:By}{x:Nd}{r:By}(h:fN rows s=some (x,r)):r.length<s.length:=by
  unfold fN at h;simp only[Option.map_eq_some_iff] at h;obtain⟨⟨n,t⟩,h1,J⟩:=h;have h3:=uh hr h1;have I:=wu t n;rw[J] at I;simp only at I;omega
theorem tH {rows:By->Option (Nd×By)}(hr:∀{s x r},rows s=some (x,r)->r.length<=s.length):∀(n:Nat) (all row:List Nd){s:By}{x:Nd}{r:By},fX rows n all row s=some (x,r)->r.length<=s.length/\(r=[]\/r.head? =some 41)
  | 0,_,_,s,x,r,h=>by cases h
  |n+1,all,row,s,x,r,h=>by
    rw[fX] at h;split at h
    · rename_i he;split at h
      · have:=tH hr n _ _ h;exact⟨by have h2:=this.1;simp only[List.length_tail] at h2;omega,this.2⟩
      · rename_i hn;cases h;refine⟨Nat.le_refl _,?_⟩;cases s with
        |nil=>exact .inl rfl
        |cons c t =>
          right
          unfold iQ at he;have h1:c≠124:=λe=>hn (by rw[e];rfl)
          simp[h1] at he;simp[he]
    · split at h
      · cases h
      · rename_i y t ht;have h1:=gF hr ht;have h2:=tH hr n _ _ h;exact⟨by omega,h2.2⟩
theorem jT:∀(d:Nat){s:By}{x:Nd}{r:By},ct d s=some (x,r)->r.length<=s.length
  | 0,s,x,r,h=>by cases h
  |d+1,s,x,r,h=>(tH (λh=>jT d h) _ _ _ h).1
theorem CP {rows:By->Option (Nd×By)}(hr:∀{s x r},rows s=some (x,r)->r.length<=s.length):∀(n:Nat){s:By}{l:List Nd}{r:By},oP rows n s=some (l,r)->r.length<=s.length/\iQ r=true/\l.length<=s.length
  | 0,s,l,r,h=>by cases h
  |n+1,s,l,r,h=>by
    rw[oP] at h;split at h
    · rename_i he;cases h;exact⟨Nat.le_refl _,he,Nat.zero_le _⟩
    · split at h
      · cases h
      · rename_i y t ht;have h1:=gF hr ht;simp only[Option.map_eq_some_iff] at h;obtain⟨⟨m,r'⟩,h2,h3⟩:=h;cases h3;have h4:=CP hr n h2;have h5:=h4.1;have h6:=h4.2.2;exact⟨by first|omega|(dsimp only;omega),h4.2.1,by simp only[List.length_cons];first|omega|(dsimp only at h6;omega)⟩
theorem nw {rows:By->Option (Nd×By)}(hr:∀{s x r},rows s=some (x,r)->r.length<=s.length):∀(k:Nat) (n m:Nat) (all row:List Nd) (s:By),s.length<=k->s.length<n->s.length<m->fX rows n all row s=fX rows m all row s:=by
  intro k
  induction k with
  |zero =>
    intro n m all row s hk U hm;cases n with
    |zero=>omega
    |succ n =>
      cases m with
      |zero=>omega
      |succ m =>
        have:s=[]:=List.eq_nil_of_length_eq_zero (by omega);subst this;rfl
  |succ k I =>
    intro n m all row s hk U hm;cases n with
    |zero=>omega
    |succ n =>
      cases m with
      |zero=>omega
      |succ m =>
        rw[fX,fX];split
        · split
          · rename_i h1;have h2:s.tail.length+1=s.length:=by cases s with|nil=>cases h1|cons a b=>simp
            exact I _ _ _ _ _ (by omega) (by omega) (by omega)
          · rfl
        · cases J:fN rows s with
          |none=>rfl
          |some p =>
            obtain⟨y,t⟩:=p;have:=gF hr J;exact I _ _ _ _ _ (by omega) (by omega) (by omega)
theorem zR {rows:By->Option (Nd×By)}(hr:∀{s x r},rows s=some (x,r)->r.length<=s.length):∀(n m:Nat) (s:By),s.length<n->s.length<m->oP rows n s=oP rows m s
  | 0,_,_,h,_=>by omega
  |_,0,_,_,h=>by omega
  |n+1,m+1,s,hn,hm=>by
    rw[oP,oP];split
    · rfl
    · cases I:fN rows s with
      |none=>rfl
      |some p =>
        obtain⟨y,t⟩:=p;have:=gF hr I;simp only;rw[zR hr n m t (by omega) (by omega)]
def A7 (rows:By->Option (Nd×By)) (s:By):Option (Nd×By):=(oP rows (s.length+1) s).map λp=>(bg 2 p.1,p.2)
def u9 (rows:By->Option (Nd×By)) (all:List Nd) (m:By):Option (Nd×By) :=
  if m.head? =some 124 then fX rows (m.tail.length+1) all [] m.tail else some (bg 3 all,m)
theorem GO {rows:By->Option (Nd×By)}(hr:∀{s x r},rows s=some (x,r)->r.length<=s.length):∀(n m:Nat) (all row:List Nd) (s:By),s.length<n->s.length<m ->
    fX rows n all row s=match oP rows m s with
      |none=>none
      |some (l,r)=>if r.head? =some 124 then fX rows (r.length+1) (all++[bg 2 (row++l)]) [] r.tail else some (bg 3 (all++[bg 2 (row++l)]),r):=by
  have fuel:=λk=>@nw rows hr k
  intro n
  induction n with
  |zero=>intro m all row s h;omega
  |succ n I =>
    intro m all row s hn hm;cases m with
    |zero=>omega
    |succ m =>
      rw[fX,oP]
      by_cases he:iQ s=true
      · rw[if_pos he,if_pos he];simp only[List.append_nil];split
        · rename_i h1;have h2:s.tail.length+1=s.length:=by cases s with|nil=>cases h1|cons a b=>simp
          exact fuel _ _ _ _ _ _ (Nat.le_refl _) (by omega) (by omega)
        · rfl
      · rw[if_neg he,if_neg he];cases J:fN rows s with
        |none=>rfl
        |some p =>
          obtain⟨y,t⟩:=p;have hlt:=gF hr J;simp only;rw[I m all (row++[y]) t (by omega) (by omega)];cases hl:oP rows m t with
          |none=>rfl
          |some q =>
            obtain⟨l,r⟩:=q;simp only[Option.map_some,List.append_assoc,List.singleton_append]
theorem wL {rows:By->Option (Nd×By)}(hr:∀{s x r},rows s=some (x,r)->r.length<=s.length) (all:List Nd) (s:By) :
    fX rows (s.length+1) all [] s=match A7 rows s with|none=>none|some (x,r)=>u9 rows (all++[x]) r:=by
  rw[GO hr _ (s.length+1) _ _ _ (Nat.lt_succ_self _) (Nat.lt_succ_self _)];unfold A7;cases hl:oP rows (s.length+1) s with
  |none=>rfl
  |some q =>
    obtain⟨l,r⟩:=q;simp only[Option.map_some,List.nil_append,u9];split
    · exact nw hr r.length _ _ _ _ _ (by simp) (by simp;omega) (by omega)
    · rfl
theorem CO {rows:By->Option (Nd×By)}(hr:∀{s x r},rows s=some (x,r)->r.length<=s.length){s:By}{x:Nd}{r:By}(h:A7 rows s=some (x,r)):r.length<=s.length:=by
  unfold A7 at h;simp only[Option.map_eq_some_iff] at h;obtain⟨⟨l,r'⟩,h1,I⟩:=h;cases I;exact(CP hr _ h1).1
def aU (s:By):Nd×Int:=if 200<s.length then (lI,3) else match fO s with|some x=>(x,0)|none=>(lI,10)
end Go.Proofs.YtnjahnbpnpkmhaaGreatDoor
namespace Go.Proofs.YtnjahnbpnpkmhaaGreatDoor
open Go
section
variable {k e:Int}
inductive Tr where
  |mk (k:Int) (t:By) (l:List Tr)
def Tr.kind:Tr->Int|.mk k _ _=>k
def Tr.text:Tr->By|.mk _ t _=>t
def Tr.kids:Tr->List Tr|.mk _ _ l=>l
abbrev Un:=Int×By×Int
inductive PS where
  |ok (r:List Un)
  |bad (m:Int)
def PS.bB:PS->Bool|.ok _=>false|.bad _=>true
def PS.len:PS->Nat|.ok r=>r.length|.bad _=>0
def Ob (e:Int):List Un->Int| []=>e|u::_=>u.2.2
def cu (e:Int):PS->PS|.ok r=>.bad (Ob e r)|.bad m=>.bad m
def bM (k:Int) (ts:List By):PS->Option By×PS
  |.ok (u::r)=>if u.1=k/\u.2.1∈ts then (some u.2.1,.ok r) else (none,.ok (u::r))
  |.ok []=>(none,.ok [])
  |.bad m=>(none,.bad m)
def bV (e k:Int) (t:By) (s:PS):PS:=match (bM k [t] s).1 with|some _=>(bM k [t] s).2|none=>cu e (bM k [t] s).2
def cg (e:Int):PS->By×PS
  |.ok (u::r)=>if u.1=3 then (u.2.1,.ok r) else ([],cu e (.ok (u::r)))
  |.ok []=>([],cu e (.ok []))
  |.bad m=>([],.bad m)
abbrev oy:By:=[108,101,116]
abbrev Kv:By:=[105,110]
abbrev zJ:By:=[105,102]
abbrev mo:By:=[101,108,115,101]
abbrev AR:By:=[102,117,110]
abbrev tA:By:=[111,114]
abbrev iL:By:=[97,110,100]
abbrev kW:By:=[110,111,116]
abbrev gZ:By:=[116,114,117,101]
abbrev gC:By:=[102,97,108,115,101]
abbrev oe:By:=[124,124]
abbrev og:By:=[38,38]
abbrev oG:By:=[33]
abbrev ia:By:=[45]
abbrev mq:List By:=[[61,61],[33,61],[60],[60,61],[62],[62,61]]
abbrev qo:List By:=[[43],[45]]
abbrev jh:List By:=[[42],[47],[37]]
def yX (k:Nat) (s:PS):Option By×PS :=
  if k=0 then (match bM 4 [tA] s with|(some _,s)=>(some tA,s)|(none,s)=>match bM 6 [oe] s with|(some _,s)=>(some tA,s)|(none,s)=>(none,s))
  else if k=1 then (match bM 4 [iL] s with|(some _,s)=>(some iL,s)|(none,s)=>match bM 6 [og] s with|(some _,s)=>(some iL,s)|(none,s)=>(none,s))
  else if k=3 then bM 6 mq s
  else if k=4 then bM 6 qo s
  else bM 6 jh s
inductive H6 where
  |stmt|expr|lt (alone:Bool)|choice|fn|block
  |blockL (l:List Tr)|part (k:Nat)|opL (k:Nat) (t:Tr)|callL (t:Tr)|argL (t:Tr)|atom
def mR (u:Un):Option Tr :=
  if u.1=5 then some (.mk 0 u.2.1 []) else if u.1=9 then some (.mk 1 u.2.1 []) else if u.1=3 then some (.mk 3 u.2.1 [])
  else if u.1=4/\(u.2.1=gZ\/u.2.1=gC) then some (.mk 2 u.2.1 []) else none
def B7:Tr:=.mk 0 [] []
abbrev vJ:=Option (Tr×PS)
def dZ (a:vJ) (f:Tr->PS->vJ):vJ:=a.bind λp=>f p.1 p.2
def pM (e:Int):Nat->H6->PS->vJ
  | 0,_,_=>none
  |n+1,.stmt,s=>match bM 4 [oy] s with
    |(some _,s)=>pM e n (.lt true) s
    |(none,s)=>pM e n .expr s
  |n+1,.expr,s=>match bM 4 [oy] s with
    |(some _,s)=>pM e n (.lt false) s
    |(none,s)=>match bM 4 [zJ] s with
      |(some _,s)=>pM e n .choice s
      |(none,s)=>match bM 4 [AR] s with
        |(some _,s)=>pM e n .fn s
        |(none,s)=>pM e n (.part 0) s
  |n+1,.lt alone,s=>dZ (pM e n .expr (bV e 6 [61] (cg e s).2)) λv s1=>match bM 4 [Kv] s1 with
    |(some _,s2)=>dZ (pM e n .expr s2) λw s3=>some (.mk 7 (cg e s).1 [v,w],s3)
    |(none,s2)=>some (.mk 7 (cg e s).1 [v],if alone then s2 else cu e s2)
  |n+1,.choice,s=>dZ (pM e n .expr s) λa s=>dZ (pM e n .block s) λb s=>match bM 4 [zJ] (bV e 4 mo s) with
    |(some _,s)=>dZ (pM e n .choice s) λc s=>some (.mk 6 [] [a,b,c],s)
    |(none,s)=>dZ (pM e n .block s) λc s=>some (.mk 6 [] [a,b,c],s)
  |n+1,.fn,s=>match bM 6 [[44]] (cg e s).2 with
    |(some _,s1)=>dZ (pM e n .fn s1) λa s2=>some (.mk 8 (cg e s).1 [a],s2)
    |(none,s1)=>dZ (pM e n .expr (bV e 6 [45,62] s1)) λa s2=>some (.mk 8 (cg e s).1 [a],s2)
  |n+1,.block,s=>pM e n (.blockL []) (bV e 7 [123] s)
  |n+1,.blockL l,s=>dZ (pM e n .stmt s) λt s=>match bM 6 [[59]] s with
    |(more,s)=>match bM 8 [[125]] s with
      |(some _,s)=>some (.mk 10 [] (l++[t]),s)
      |(none,s)=>if more.isSome && !s.bB then pM e n (.blockL (l++[t])) s else some (.mk 10 [] (l++[t]),cu e s)
  |n+1,.part k,s =>
    if k=7 then dZ (pM e n .atom s) λt s=>pM e n (.callL t) s
    else if k=2 then match bM 4 [kW] s with
      |(some _,s)=>dZ (pM e n (.part 2) s) λt s=>some (.mk 4 kW [t],s)
      |(none,s)=>match bM 6 [oG] s with
        |(some _,s)=>dZ (pM e n (.part 2) s) λt s=>some (.mk 4 kW [t],s)
        |(none,s)=>pM e n (.part 3) s
    else if k=6 then match bM 6 [ia] s with
      |(some _,s)=>dZ (pM e n (.part 6) s) λt s=>some (.mk 4 ia [t],s)
      |(none,s)=>pM e n (.part 7) s
    else dZ (pM e n (.part (k+1)) s) λt s=>pM e n (.opL k t) s
  |n+1,.opL k t,s=>match yX k s with
    |(some op,s)=>dZ (pM e n (.part (k+1)) s) λu s=>if k=3 then some (.mk 5 op [t,u],s) else pM e n (.opL k (.mk 5 op [t,u])) s
    |(none,s)=>some (t,s)
  |n+1,.callL t,s=>match bM 7 [[40]] s with
    |(some _,s)=>pM e n (.argL t) s
    |(none,s)=>some (t,s)
  |n+1,.argL t,s=>dZ (pM e n .expr s) λa s=>match bM 6 [[44]] s with
    |(some _,s)=>pM e n (.argL (.mk 9 [] [t,a])) s
    |(none,s)=>pM e n (.callL (.mk 9 [] [t,a])) (bV e 8 [41] s)
  |n+1,.atom,s=>match s with
    |.bad m=>some (B7,.bad m)
    |.ok []=>some (B7,cu e (.ok []))
    |.ok (u::r)=>match mR u with
      |some t=>some (t,.ok r)
      |none=>if u.1=7/\u.2.1=[123] then pM e n .block (.ok (u::r))
        else if u.1=7/\u.2.1=[40] then dZ (pM e n .expr (.ok r)) λt s=>some (t,bV e 8 [41] s)
        else some (B7,cu e (.ok (u::r)))
theorem cm (k:Int) (ts:List By) (u:Un) (r:List Un):bM k ts (.ok (u::r))=if u.1=k/\u.2.1∈ts then (some u.2.1,.ok r) else (none,.ok (u::r)):=rfl
theorem iR (e:Int) (u:Un) (r:List Un):cg e (.ok (u::r))=if u.1=3 then (u.2.1,.ok r) else ([],cu e (.ok (u::r))):=rfl
theorem K1 (k:Int) (ts:List By) (m:Int):bM k ts (.bad m)=(none,.bad m):=rfl
theorem aM {ts:List By}{s s':PS}(h:bM k ts s=(none,s')):s'=s:=by
  cases s with
  |bad m=>cases h;rfl
  |ok r=>cases r with
    |nil=>cases h;rfl
    |cons u r=>rw[cm] at h;split at h<;>cases h;rfl
theorem oZ {ts:List By}{s s':PS}{t:By}(h:bM k ts s=(some t,s')):∃u r,s= .ok (u::r)/\s'= .ok r/\u.1=k/\u.2.1=t/\t∈ts:=by
  cases s with
  |bad m=>cases h
  |ok r=>cases r with
    |nil=>cases h
    |cons u r=>rw[cm] at h;split at h<;>cases h;rename_i q;exact⟨u,r,rfl,rfl,q.1,rfl,q.2⟩
theorem cW {ts:List By}{s s':PS}{t:By}(h:bM k ts s=(some t,s')):s.len=s'.len+1:=by
  obtain⟨u,r,rfl,rfl,_⟩:=oZ h;simp[PS.len]
theorem tV (e:Int) (s:PS):∃m,cu e s= .bad m:=by cases s<;>exact⟨_,rfl⟩
theorem jU (e k:Int) (t:By) (s:PS):(bV e k t s).len<=s.len:=by
  unfold bV
  rcases I:bM k [t] s with ⟨q,s'⟩
  cases q with
  |none=>have:=aM I;subst this;obtain⟨m,hm⟩:=tV e s';simp[hm,PS.len]
  |some x=>have:=cW I;simp;omega
theorem tN (e:Int) (s:PS):(cg e s).2.len<=s.len/\((cg e s).2.len<s.len\/(cg e s).2.bB=true):=by
  cases s with
  |bad m=>simp[cg,PS.bB]
  |ok r=>cases r with
    |nil=>simp[cg,cu,PS.bB,PS.len]
    |cons u r =>
      rw[iR];split
      · simp[PS.len]
      · simp[cu,PS.len,PS.bB]
theorem An (e:Int) (s:PS):(cu e s).len=0:=by cases s<;>rfl
theorem wQ {k:Nat}{s s':PS}(h:yX k s=(none,s')):s'=s:=by
  unfold yX at h;split at h
  · rcases J:bM 4 [tA] s with ⟨q,s1⟩
    rw[J] at h;cases q with
    |some x=>simp at h
    |none =>
      have U:=aM J;subst U
      rcases I:bM 6 [oe] s1 with ⟨q,s2⟩
      simp only[I] at h;cases q with
      |some x=>simp at h
      |none=>have:=aM I;subst this;simp at h;exact h.symm
  · split at h
    · rcases J:bM 4 [iL] s with ⟨q,s1⟩
      rw[J] at h;cases q with
      |some x=>simp at h
      |none =>
        have U:=aM J;subst U
        rcases I:bM 6 [og] s1 with ⟨q,s2⟩
        simp only[I] at h;cases q with
        |some x=>simp at h
        |none=>have:=aM I;subst this;simp at h;exact h.symm
    · split at h
      · exact aM h
      · split at h<;>exact aM h
theorem sA {k:Nat}{s s':PS}{t:By}(h:yX k s=(some t,s')):∃u r,s= .ok (u::r)/\s'= .ok r:=by
  have key:∀{k ts}{s s':PS}{t:By},bM k ts s=(some t,s')->∃u r,s= .ok (u::r)/\s'= .ok r:=λh=>by
    obtain⟨u,r,h1,Y,_⟩:=oZ h;exact⟨u,r,h1,Y⟩
  unfold yX at h;split at h
  · rcases J:bM 4 [tA] s with ⟨q,s1⟩
    rw[J] at h;cases q with
    |some x=>simp at h;rw[<-h.2];exact key J
    |none =>
      have U:=aM J;subst U
      rcases I:bM 6 [oe] s1 with ⟨q,s2⟩
      simp only[I] at h;cases q with
      |some x=>simp at h;rw[<-h.2];exact key I
      |none=>simp at h
  · split at h
    · rcases J:bM 4 [iL] s with ⟨q,s1⟩
      rw[J] at h;cases q with
      |some x=>simp at h;rw[<-h.2];exact key J
      |none =>
        have U:=aM J;subst U
        rcases I:bM 6 [og] s1 with ⟨q,s2⟩
        simp only[I] at h;cases q with
        |some x=>simp at h;rw[<-h.2];exact key I
        |none=>simp at h
    · split at h
      · exact key h
      · split at h<;>exact key h
theorem FL {k:Nat}{s s':PS}{t:By}(h:yX k s=(some t,s')):s.len=s'.len+1:=by
  obtain⟨u,r,rfl,rfl⟩:=sA h;simp[PS.len]
theorem ay {a:vJ}{f:Tr->PS->vJ}{y:Tr×PS}(h:dZ a f=some y):∃t s,a=some (t,s)/\f t s=some y:=by
  cases a with
  |none=>cases h
  |some p=>exact⟨p.1,p.2,rfl,h⟩
theorem Ij {a:vJ}{f:Tr->PS->vJ}{t:Tr}{s:PS}(h:a=some (t,s)):dZ a f=f t s:=by rw[h];rfl
theorem Bg (e:Int):∀(n:Nat) (j:H6) (s:PS) (t:Tr) (s':PS),pM e n j s=some (t,s')->s'.len<=s.len/\(∀m,s= .bad m->s'= .bad m)
  | 0,_,_,_,_,h=>by cases h
  |n+1,j,s,t,s',h=>by
    have J:=Bg e n;have hm:∀{k t}{s:PS},(bV e k t s).len<=s.len/\(∀m,s= .bad m->bV e k t s= .bad m):=λ{k t s}=>⟨jU e k t s,λm q=>by subst q;rfl⟩
    have hi:∀{k ts}{s s':PS} {o},bM k ts s=(o,s')->s'.len<=s.len/\(∀m,s= .bad m->s'= .bad m):=λ{k ts s s' o} q=>by
      cases o with
      |none=>have:=aM q;subst this;exact⟨Nat.le_refl _,λm q=>q⟩
      |some x=>exact⟨by have:=cW q;omega,λm q2=>by subst q2;cases q⟩
    have ho:∀{k}{s s':PS} {o},yX k s=(o,s')->s'.len<=s.len/\(∀m,s= .bad m->s'= .bad m):=λ{k s s' o} q=>by
      cases o with
      |none=>have:=wQ q;subst this;exact⟨Nat.le_refl _,λm q=>q⟩
      |some x=>exact⟨by have:=FL q;omega,λm q2=>by subst q2;obtain⟨_,_,q3,_⟩:=sA q;cases q3⟩
    have hn:∀{s:PS},(cg e s).2.len<=s.len/\(∀m,s= .bad m->(cg e s).2= .bad m):=λ{s}=>⟨(tN e s).1,λm q=>by subst q;rfl⟩
    have hf:∀{s:PS},(cu e s).len<=s.len/\(∀m,s= .bad m->cu e s= .bad m):=λ{s}=>⟨by rw[An];omega,λm q=>by subst q;rfl⟩
    have I:∀{a b c:PS},(b.len<=a.len/\(∀m,a= .bad m->b= .bad m))->(c.len<=b.len/\(∀m,b= .bad m->c= .bad m))->(c.len<=a.len/\(∀m,a= .bad m->c= .bad m)) :=
      λp q=>⟨Nat.le_trans q.1 p.1,λm r=>q.2 m (p.2 m r)⟩
    cases j with
    |stmt =>
      simp only[pM] at h
      rcases h1:bM 4 [oy] s with ⟨o,s1⟩
      rw[h1] at h;cases o<;>exact I (hi h1) (J _ _ _ _ h)
    |expr =>
      simp only[pM] at h
      rcases h1:bM 4 [oy] s with ⟨o,s1⟩
      rw[h1] at h;cases o with
      |some x=>exact I (hi h1) (J _ _ _ _ h)
      |none =>
        simp only at h
        rcases U:bM 4 [zJ] s1 with ⟨o,s2⟩
        rw[U] at h;cases o with
        |some x=>exact I (hi h1) (I (hi U) (J _ _ _ _ h))
        |none =>
          simp only at h
          rcases Z:bM 4 [AR] s2 with ⟨o,s3⟩
          rw[Z] at h;cases o<;>exact I (hi h1) (I (hi U) (I (hi Z) (J _ _ _ _ h)))
    |lt alone =>
      simp only[pM] at h;obtain⟨v,s1,h1,h⟩:=ay h;have k1:=I hn (I hm (J _ _ _ _ h1))
      rcases U:bM 4 [Kv] s1 with ⟨o,s2⟩
      rw[U] at h;cases o with
      |some x =>
        simp only at h;obtain⟨w,s3,Z,h⟩:=ay h;cases h;exact I k1 (I (hi U) (J _ _ _ _ Z))
      |none =>
        simp only at h;cases h;cases alone
        · exact I k1 (I (hi U) hf)
        · exact I k1 (hi U)
    |choice =>
      simp only[pM] at h;obtain⟨a,s1,h1,h⟩:=ay h;obtain⟨b,s2,U,h⟩:=ay h;have k:=I (J _ _ _ _ h1) (I (J _ _ _ _ U) (hm (k:=4) (t:=mo)))
      rcases Z:bM 4 [zJ] (bV e 4 mo s2) with ⟨o,s3⟩
      rw[Z] at h;cases o with
      |some x=>simp only at h;obtain⟨c,s4,Y,h⟩:=ay h;cases h;exact I k (I (hi Z) (J _ _ _ _ Y))
      |none=>simp only at h;obtain⟨c,s4,Y,h⟩:=ay h;cases h;exact I k (I (hi Z) (J _ _ _ _ Y))
    |fn =>
      simp only[pM] at h
      rcases Z:bM 6 [[44]] (cg e s).2 with ⟨o,s3⟩
      rw[Z] at h;cases o with
      |some x=>simp only at h;obtain⟨c,s4,Y,h⟩:=ay h;cases h;exact I hn (I (hi Z) (J _ _ _ _ Y))
      |none=>simp only at h;obtain⟨c,s4,Y,h⟩:=ay h;cases h;exact I hn (I (hi Z) (I hm (J _ _ _ _ Y)))
    |block=>simp only[pM] at h;exact I hm (J _ _ _ _ h)
    |blockL l =>
      simp only[pM] at h;obtain⟨t1,s1,h1,h⟩:=ay h
      rcases U:bM 6 [[59]] s1 with ⟨o,s2⟩
      rw[U] at h;simp only at h
      rcases Z:bM 8 [[125]] s2 with ⟨q,s3⟩
      rw[Z] at h;have k:=I (J _ _ _ _ h1) (I (hi U) (hi Z));cases q with
      |some x=>simp only at h;cases h;exact k
      |none =>
        simp only at h;split at h
        · exact I k (J _ _ _ _ h)
        · cases h;exact I k hf
    |part k =>
      simp only[pM] at h;split at h
      · obtain⟨t1,s1,h1,h⟩:=ay h;exact I (J _ _ _ _ h1) (J _ _ _ _ h)
      · split at h
        · rcases h1:bM 4 [kW] s with ⟨o,s1⟩
          rw[h1] at h;cases o with
          |some x=>simp only at h;obtain⟨c,s4,Y,h⟩:=ay h;cases h;exact I (hi h1) (J _ _ _ _ Y)
          |none =>
            simp only at h
            rcases U:bM 6 [oG] s1 with ⟨o,s2⟩
            rw[U] at h;cases o with
            |some x=>simp only at h;obtain⟨c,s4,Y,h⟩:=ay h;cases h;exact I (hi h1) (I (hi U) (J _ _ _ _ Y))
            |none=>exact I (hi h1) (I (hi U) (J _ _ _ _ h))
        · split at h
          · rcases h1:bM 6 [ia] s with ⟨o,s1⟩
            rw[h1] at h;cases o with
            |some x=>simp only at h;obtain⟨c,s4,Y,h⟩:=ay h;cases h;exact I (hi h1) (J _ _ _ _ Y)
            |none=>exact I (hi h1) (J _ _ _ _ h)
          · obtain⟨t1,s1,h1,h⟩:=ay h;exact I (J _ _ _ _ h1) (J _ _ _ _ h)
    |opL k t0 =>
      simp only[pM] at h
      rcases h1:yX k s with ⟨o,s1⟩
      rw[h1] at h;cases o with
      |some x =>
        simp only at h;obtain⟨c,s4,Y,h⟩:=ay h;split at h
        · cases h;exact I (ho h1) (J _ _ _ _ Y)
        · exact I (ho h1) (I (J _ _ _ _ Y) (J _ _ _ _ h))
      |none=>simp only at h;cases h;exact ho h1
    |callL t0 =>
      simp only[pM] at h
      rcases h1:bM 7 [[40]] s with ⟨o,s1⟩
      rw[h1] at h;cases o with
      |some x=>exact I (hi h1) (J _ _ _ _ h)
      |none=>simp only at h;cases h;exact hi h1
    |argL t0 =>
      simp only[pM] at h;obtain⟨t1,s1,h1,h⟩:=ay h
      rcases U:bM 6 [[44]] s1 with ⟨o,s2⟩
      rw[U] at h;cases o with
      |some x=>exact I (J _ _ _ _ h1) (I (hi U) (J _ _ _ _ h))
      |none=>exact I (J _ _ _ _ h1) (I (hi U) (I hm (J _ _ _ _ h)))
    |atom =>
      cases s with
      |bad m=>simp only[pM] at h;cases h;exact⟨Nat.le_refl _,λ_ q=>q⟩
      |ok r=>cases r with
        |nil=>simp only[pM] at h;cases h;exact hf
        |cons u r =>
          simp only[pM] at h;have kk:(PS.ok r).len<=(PS.ok (u::r)).len/\(∀m,PS.ok (u::r)= .bad m->PS.ok r= .bad m):=⟨by simp[PS.len],λm q=>by cases q⟩
          split at h
          · cases h;exact kk
          · split at h
            · exact J _ _ _ _ h
            · split at h
              · obtain⟨t1,s1,h1,h⟩:=ay h;cases h;exact I kk (I (J _ _ _ _ h1) hm)
              · cases h;exact hf
theorem tL {n:Nat}{j:H6}{s:PS}{t:Tr}{s':PS}(h:pM e n j s=some (t,s')):s'.len<=s.len:=(Bg e n j s t s' h).1
theorem IY {n:Nat}{j:H6}{m:Int}{t:Tr}{s':PS}(h:pM e n j (.bad m)=some (t,s')):s'= .bad m:=(Bg e n j _ t s' h).2 m rfl
def Tm (F:Nat->vJ):Prop:=∃n y,∀m,n<=m->F m=some y
theorem fe (y:Tr×PS):Tm λ_=>some y:=⟨0,y,λ_ _=>rfl⟩
theorem Tm.then {j:H6}{s:PS}{f:Nat->Tr->PS->vJ}(h:Tm λn=>pM e n j s) (k:∀t s',s'.len<=s.len->Tm λn=>f n t s'):Tm λn=>dZ (pM e n j s) (f n):=by
  obtain⟨n,⟨t,s'⟩,h⟩:=h;obtain⟨n2,I,k⟩:=k t s' (tL (h n (Nat.le_refl _)))
  exact⟨max n n2,I,λm hm=>by
    show dZ (pM e m j s) (f m)=some I
    rw[Ij (h m (by omega))];exact k m (by omega)⟩
theorem Tm.succ {j:H6}{s:PS}{F:Nat->vJ}(h:Tm F) (k:∀n,pM e (n+1) j s=F n):Tm λn=>pM e n j s:=by
  obtain⟨n,y,h⟩:=h;refine⟨n+1,y,λm hm=>?_⟩;obtain⟨I,rfl⟩:∃I,m=I+1:=⟨m-1,by omega⟩
  show pM e (I+1) j s=some y
  rw[k];exact h I (by omega)
def QB:H6->Prop|.part k=>k<=7|.opL k _=>k<=5|_=>True
theorem IX (e:Int):∀(L:Nat) (s:PS),s.len<=L->∀j,QB j->Tm λn=>pM e n j s:=by
  intro L
  induction L using Nat.strongRecOn with
  |_ L aa =>
  have lo:∀s:PS,s.len<L->∀j,QB j->Tm λn=>pM e n j s:=λs hs j Z=>aa s.len hs s (Nat.le_refl _) j Z
  have atom:∀s:PS,s.len<=L->Tm λn=>pM e n .atom s:=by
    intro s hs;cases s with
    |bad m=>exact(fe _).succ λn=>by rw[pM]
    |ok r=>cases r with
      |nil=>exact(fe _).succ λn=>by rw[pM]
      |cons u r =>
        have hr:r.length<L:=hs;have hl:=lo (.ok r) hr;cases h1:mR u with
        |some t=>exact(fe (t,.ok r)).succ λn=>by rw[pM];simp only[h1]
        |none =>
          by_cases I:u.1=7/\u.2.1=[123]
          · have hb:Tm λn=>pM e n .block (.ok (u::r)):=(hl (.blockL []) trivial).succ λn=>by
              rw[pM];have:bV e 7 [123] (.ok (u::r))= .ok r:=by unfold bV;rw[cm,if_pos ⟨I.1,by simp[I.2]⟩]
              rw[this]
            exact hb.succ λn=>by rw[pM];simp only[h1];rw[if_pos I]
          · by_cases J:u.1=7/\u.2.1=[40]
            · exact((hl .expr trivial).then λt s' _=>fe (t,bV e 8 [41] s')).succ λn=>by rw[pM];simp only[h1];rw[if_neg I,if_pos J]
            · exact(fe (B7,cu e (.ok (u::r)))).succ λn=>by rw[pM];simp only[h1];rw[if_neg I,if_neg J]
  have callL:∀t (s:PS),s.len<=L->Tm λn=>pM e n (.callL t) s:=by
    intro t s hs
    rcases h1:bM 7 [[40]] s with ⟨o,s1⟩
    cases o with
    |some x=>exact(lo s1 (by have:=cW h1;omega) (.argL t) trivial).succ λn=>by rw[pM,h1]
    |none=>exact(fe (t,s1)).succ λn=>by rw[pM,h1]
  have p7:∀s:PS,s.len<=L->Tm λn=>pM e n (.part 7) s:=λs hs =>
    ((atom s hs).then (f:=λn t s=>pM e n (.callL t) s) λt s' hl=>callL t s' (Nat.le_trans hl hs)).succ λn=>by rw[pM,if_pos rfl]
  have p6:∀s:PS,s.len<=L->Tm λn=>pM e n (.part 6) s:=by
    intro s hs
    rcases h1:bM 6 [ia] s with ⟨o,s1⟩
    cases o with
    |some x=>exact((lo s1 (by have:=cW h1;omega) (.part 6) (by decide:(6:Nat)<=7)).then λt s' _=>fe (.mk 4 ia [t],s')).succ λn=>by rw[pM,if_neg (by decide),if_neg (by decide),if_pos rfl,h1]
    |none=>exact(p7 s1 (by have:=aM h1;subst this;exact hs)).succ λn=>by rw[pM,if_neg (by decide),if_neg (by decide),if_pos rfl,h1]
  have opL:∀k,k<=5->∀t (s:PS),s.len<=L->Tm λn=>pM e n (.opL k t) s:=by
    intro k hk t s hs
    rcases h1:yX k s with ⟨o,s1⟩
    cases o with
    |some x =>
      have hl:=FL h1
      by_cases J:k=3
      · exact((lo s1 (by omega) (.part (k+1)) (show k+1<=7 by omega)).then (f:=λ_ u s=>some (.mk 5 x [t,u],s)) λu s' _=>fe _).succ λn=>by
          rw[pM,h1];simp only[if_pos J]
      · exact((lo s1 (by omega) (.part (k+1)) (show k+1<=7 by omega)).then (f:=λn u s=>pM e n (.opL k (.mk 5 x [t,u])) s) λu s' hl'=>lo s' (by omega) _ hk).succ λn=>by
          rw[pM,h1];simp only[if_neg J]
    |none=>exact(fe (t,s1)).succ λn=>by rw[pM,h1]
  have up:∀k,k<=5->k≠2->(∀s:PS,s.len<=L->Tm λn=>pM e n (.part (k+1)) s)->∀s:PS,s.len<=L->Tm λn=>pM e n (.part k) s:=by
    intro k hk I h s hs
    exact((h s hs).then (f:=λn t s=>pM e n (.opL k t) s) λt s' hl=>opL k hk t s' (Nat.le_trans hl hs)).succ λn=>by
      rw[pM,if_neg (by omega),if_neg I,if_neg (by omega)]
  have p3:=up 3 (by decide) (by decide) (up 4 (by decide) (by decide) (up 5 (by decide) (by decide) p6))
  have p2:∀s:PS,s.len<=L->Tm λn=>pM e n (.part 2) s:=by
    intro s hs
    rcases h1:bM 4 [kW] s with ⟨o,s1⟩
    cases o with
    |some x=>exact((lo s1 (by have:=cW h1;omega) (.part 2) (by decide:(2:Nat)<=7)).then λt s' _=>fe (.mk 4 kW [t],s')).succ λn=>by rw[pM,if_neg (by decide),if_pos rfl,h1]
    |none =>
      have Y:=aM h1
      rcases I:bM 6 [oG] s1 with ⟨o,s2⟩
      cases o with
      |some x=>exact((lo s2 (by have:=cW I;subst Y;omega) (.part 2) (by decide:(2:Nat)<=7)).then λt s' _=>fe (.mk 4 kW [t],s')).succ λn=>by rw[pM,if_neg (by decide),if_pos rfl,h1];simp only[I]
      |none=>exact(p3 s2 (by have:=aM I;subst this Y;exact hs)).succ λn=>by rw[pM,if_neg (by decide),if_pos rfl,h1];simp only[I]
  have p1:=up 1 (by decide) (by decide) p2;have p0:=up 0 (by decide) (by decide) p1
  have part:∀k,k<=7->∀s:PS,s.len<=L->Tm λn=>pM e n (.part k) s:=λk hk s hs=>by
    match k,hk with
    | 0,_=>exact p0 s hs
    | 1,_=>exact p1 s hs
    | 2,_=>exact p2 s hs
    | 3,_=>exact p3 s hs
    | 4,_=>exact up 4 (by decide) (by decide) (up 5 (by decide) (by decide) p6) s hs
    | 5,_=>exact up 5 (by decide) (by decide) p6 s hs
    | 6,_=>exact p6 s hs
    | 7,_=>exact p7 s hs
  have expr:∀s:PS,s.len<=L->Tm λn=>pM e n .expr s:=by
    intro s hs
    rcases h1:bM 4 [oy] s with ⟨o,s1⟩
    cases o with
    |some x=>exact(lo s1 (by have:=cW h1;omega) (.lt false) trivial).succ λn=>by rw[pM,h1]
    |none =>
      have Y:=aM h1
      rcases I:bM 4 [zJ] s1 with ⟨o,s2⟩
      cases o with
      |some x=>exact(lo s2 (by have:=cW I;subst Y;omega) .choice trivial).succ λn=>by rw[pM,h1];simp only[I]
      |none =>
        have e2:=aM I
        rcases J:bM 4 [AR] s2 with ⟨o,U⟩
        cases o with
        |some x=>exact(lo U (by have:=cW J;subst e2 Y;omega) .fn trivial).succ λn=>by rw[pM,h1];simp only[I,J]
        |none=>exact(p0 U (by have:=aM J;subst this e2 Y;exact hs)).succ λn=>by rw[pM,h1];simp only[I,J]
  have stmt:∀s:PS,s.len<=L->Tm λn=>pM e n .stmt s:=by
    intro s hs
    rcases h1:bM 4 [oy] s with ⟨o,s1⟩
    cases o with
    |some x=>exact(lo s1 (by have:=cW h1;omega) (.lt true) trivial).succ λn=>by rw[pM,h1]
    |none=>exact(expr s1 (by have:=aM h1;subst this;exact hs)).succ λn=>by rw[pM,h1]
  have blockL:∀l (s:PS),s.len<=L->Tm λn=>pM e n (.blockL l) s:=by
    intro l s hs;refine((stmt s hs).then (f:=λn t s=>match bM 6 [[59]] s with
    |(more,s)=>match bM 8 [[125]] s with
      |(some _,s)=>some (.mk 10 [] (l++[t]),s)
      |(none,s)=>if more.isSome && !s.bB then pM e n (.blockL (l++[t])) s else some (.mk 10 [] (l++[t]),cu e s)) λt s1 hl=>?_).succ λn=>by rw[pM]<;>rfl
    rcases I:bM 6 [[59]] s1 with ⟨o,s2⟩
    rcases J:bM 8 [[125]] s2 with ⟨q,U⟩
    simp only[I,J];cases q with
    |some x=>exact fe _
    |none =>
      have e3:=aM J;cases o with
      |none=>simp only[Option.isSome_none,Bool.false_and,Bool.false_eq_true,if_false];exact fe _
      |some x =>
        have:=cW I;cases hb:U.bB with
        |true=>exact⟨0,_,λm _=>by show (if _ then _ else _)=_;rw[if_neg (by simp[hb])]⟩
        |false =>
          obtain⟨n,y,h⟩:=lo U (by subst e3;omega) (.blockL (l++[t])) trivial;exact⟨n,y,λm hm=>by show (if _ then _ else _)=_;rw[if_pos (by simp[hb])];exact h m hm⟩
  have block:∀s:PS,s.len<=L->Tm λn=>pM e n .block s:=λs hs =>
    (blockL [] _ (Nat.le_trans (jU e 7 [123] s) hs)).succ λn=>by rw[pM]
  have lt:∀a (s:PS),s.len<=L->Tm λn=>pM e n (.lt a) s:=by
    intro a s hs;have ab:(bV e 6 [61] (cg e s).2).len<=L:=Nat.le_trans (jU _ _ _ _) (Nat.le_trans (tN e s).1 hs);refine((expr _ ab).then (f:=λn v s1=>match bM 4 [Kv] s1 with
    |(some _,s2)=>dZ (pM e n .expr s2) λw U=>some (.mk 7 (cg e s).1 [v,w],U)
    |(none,s2)=>some (.mk 7 (cg e s).1 [v],if a then s2 else cu e s2)) λt s1 hl=>?_).succ λn=>by rw[pM]<;>rfl
    rcases I:bM 4 [Kv] s1 with ⟨o,s2⟩
    cases o with
    |none=>simp only[I];exact fe _
    |some x=>simp only[I];exact(expr s2 (by have:=cW I;omega)).then λw U _=>fe _
  have fn:∀s:PS,s.len<=L->Tm λn=>pM e n .fn s:=by
    intro s hs
    rcases I:bM 6 [[44]] (cg e s).2 with ⟨o,s2⟩
    have hn:=(tN e s).1;cases o with
    |some x=>exact((lo s2 (by have:=cW I;omega) .fn trivial).then λt s' _=>fe (.mk 8 (cg e s).1 [t],s')).succ λn=>by rw[pM,I]
    |none=>exact((expr (bV e 6 [45,62] s2) (by have:=jU e 6 [45,62] s2;have:=aM I;subst this;omega)).then λt s' _=>fe (.mk 8 (cg e s).1 [t],s')).succ λn=>by rw[pM,I]
  have choice:∀s:PS,s.len<=L->Tm λn=>pM e n .choice s:=by
    intro s hs;refine((expr s hs).then (f:=λn a s=>dZ (pM e n .block s) λb s=>match bM 4 [zJ] (bV e 4 mo s) with
    |(some _,s)=>dZ (pM e n .choice s) λc s=>some (.mk 6 [] [a,b,c],s)
    |(none,s)=>dZ (pM e n .block s) λc s=>some (.mk 6 [] [a,b,c],s)) λa s1 h1=>?_).succ λn=>by rw[pM]<;>rfl
    refine(block s1 (by omega)).then (f:=λn b s=>match bM 4 [zJ] (bV e 4 mo s) with
    |(some _,s)=>dZ (pM e n .choice s) λc s=>some (.mk 6 [] [a,b,c],s)
    |(none,s)=>dZ (pM e n .block s) λc s=>some (.mk 6 [] [a,b,c],s)) λb s2 I=>?_
    have hm:=jU e 4 mo s2
    rcases J:bM 4 [zJ] (bV e 4 mo s2) with ⟨o,U⟩
    cases o with
    |some x=>simp only[J];exact(lo U (by have:=cW J;omega) .choice trivial).then λw U _=>fe _
    |none=>simp only[J];exact(block U (by have:=aM J;subst this;omega)).then λw U _=>fe _
  have argL:∀t (s:PS),s.len<=L->Tm λn=>pM e n (.argL t) s:=by
    intro t s hs;refine((expr s hs).then (f:=λn a s=>match bM 6 [[44]] s with
    |(some _,s)=>pM e n (.argL (.mk 9 [] [t,a])) s
    |(none,s)=>pM e n (.callL (.mk 9 [] [t,a])) (bV e 8 [41] s)) λa s1 h1=>?_).succ λn=>by rw[pM]<;>rfl
    rcases I:bM 6 [[44]] s1 with ⟨o,s2⟩
    cases o with
    |some x=>simp only[I];exact lo s2 (by have:=cW I;omega) _ trivial
    |none=>simp only[I];exact callL _ _ (by have:=jU e 8 [41] s2;have:=aM I;subst this;omega)
  intro s hs j Z;cases j with
  |stmt=>exact stmt s hs
  |expr=>exact expr s hs
  |lt a=>exact lt a s hs
  |choice=>exact choice s hs
  |fn=>exact fn s hs
  |block=>exact block s hs
  |blockL l=>exact blockL l s hs
  |part k=>exact part k Z s hs
  |opL k t=>exact opL k Z t s hs
  |callL t=>exact callL t s hs
  |argL t=>exact argL t s hs
  |atom=>exact atom s hs
abbrev Tok:=Int×Int×Int
def bD (s:By) (t:Tok):By:=(s.drop t.2.1.toNat).take (t.2.2.toNat-t.2.1.toNat)
def vT (s:By) (t:Tok):Bool:=decide (0<=t.2.1) && decide (t.2.2<=s.length) && decide (t.2.1<=t.2.2)
def jv:List (UInt8×UInt8):=[(110,10),(114,13),(116,9),(34,34),(92,92),(48,0)]
def DD (c:UInt8):UInt8:=match jv.find? (λp=>p.1 ==c) with|some p=>p.2|none=>c
def kJ (t:By):UInt8:=match t[1]? with|some c=>DD c|none=>32
def fE (x:By):List Un->List Un
  | []=>[]
  | [u]=>[(u.1,u.2.1++x,u.2.2)]
  |u::v::l=>u::fE x (v::l)
theorem uo (x:By):∀(l:List Un) (u:Un),fE x (l++[u])=l++[(u.1,u.2.1++x,u.2.2)]
  | [],_=>rfl
  | [a],u=>rfl
  |a::b::l,u=>by
    show a::fE x ((b::l)++[u])=_
    rw[uo x (b::l) u];rfl
theorem pP (x:By):∀l:List Un,(fE x l).length=l.length
  | []=>rfl
  | [_]=>rfl
  |_::b::l=>by show (fE x (b::l)).length+1=_;rw[pP x (b::l)];rfl
inductive UR where
  |er (at_ e:Int)
  |go (out:List Un) (op:Bool)
def fW (s:By) (out:List Un) (op:Bool) (t:Tok):UR :=
  if t.1=0 then .er t.2.1 10
  else if op then
    if t.1=9/\bD s t=[34] then .go out false
    else if t.1=10 then .go (fE [kJ (bD s t)] out) true
    else .go (fE (bD s t) out) true
  else if t.1=1\/t.1=2\/t.1=11 then .go out false
  else if out.length=500 then .er t.2.1 3
  else .go (out++[(t.1,if t.1=9 then [] else bD s t,t.2.1)]) (decide (t.1=9))
def lz (s:By):List Tok->List Un->Bool->UR
  | [],out,op=>.go out op
  |t::l,out,op=>match fW s out op t with
    |.er a e=>.er a e
    |.go out op=>lz s l out op
def eX (s:By) (l:List Tok) (m:Int):(Int×Int) ⊕ List Un :=
  if l.all (vT s) then match lz s l [] false with
    |.er a e=>.inl (a,e)
    |.go out op=>if op\/m≠0 then .inl (s.length,10) else .inr out
  else .inl (0,2)
def dV (e:Int):Nat->List Tr->PS->Option (List Tr×PS)
  | 0,_,_=>none
  |n+1,l,s=>if s.len=0 then some (l,s) else (pM e n .stmt s).bind λp=>match bM 6 [[59]] p.2 with
    |(some _,s2)=>dV e n (l++[p.1]) s2
    |(none,s2)=>dV e n (l++[p.1]) (if s2.len=0 then s2 else cu e s2)
theorem Bf (e:Int):∀(L:Nat) (s:PS),s.len<=L->∀l,∃n y,∀m,n<=m->dV e m l s=some y:=by
  intro L
  induction L with
  |zero =>
    intro s hs l
    exact⟨1,(l,s),λm hm=>by
      obtain⟨m,rfl⟩:∃k,m=k+1:=⟨m-1,by omega⟩
      rw[dV,if_pos (by omega)]⟩
  |succ L J =>
    intro s hs l
    by_cases h0:s.len=0
    · exact J s (by omega) l
    obtain⟨n,⟨t,s1⟩,h1⟩:=IX e _ s (Nat.le_refl _) .stmt trivial;have h1:∀m,n<=m->pM e m .stmt s=some (t,s1):=h1;have hl:=tL (h1 n (Nat.le_refl _))
    rcases I:bM 6 [[59]] s1 with ⟨o,s2⟩
    cases o with
    |some x =>
      obtain⟨n2,y,U⟩:=J s2 (by have:=cW I;omega) (l++[t]);refine⟨max n n2+1,y,λm hm=>?_⟩;obtain⟨m,rfl⟩:∃k,m=k+1:=⟨m-1,by omega⟩
      rw[dV,if_neg h0,h1 m (by omega)];simp only[Option.bind_some,I];exact U m (by omega)
    |none =>
      have e2:=aM I
      have hle:(if s2.len=0 then s2 else cu e s2).len<=L:=by
        split
        · omega
        · rw[An];omega
      obtain⟨n2,y,U⟩:=J _ hle (l++[t]);refine⟨max n n2+1,y,λm hm=>?_⟩;obtain⟨m,rfl⟩:∃k,m=k+1:=⟨m-1,by omega⟩
      rw[dV,if_neg h0,h1 m (by omega)];simp only[Option.bind_some,I];exact U m (by omega)
inductive eJ (s:By) (l:List Tok) (m:Int):List Tr->Int->Int->Prop where
  |units {a e:Int}:eX s l m= .inl (a,e)->eJ s l m [] a e
  |bad {u:List Un}{n:Nat}{k:List Tr}{a:Int}:eX s l m= .inr u->dV s.length n [] (.ok u)=some (k,.bad a)->eJ s l m [] a 10
  |ok {u:List Un}{n:Nat}{k:List Tr}{r:List Un}:eX s l m= .inr u->dV s.length n [] (.ok u)=some (k,.ok r)->eJ s l m k 0 0
theorem zC (s:By) (l:List Tok) (m:Int):∃k a e,eJ s l m k a e:=by
  rcases h:eX s l m with ⟨a,e⟩|u
  · exact⟨_,_,_,.units h⟩
  · obtain⟨n,⟨k,r⟩,I⟩:=Bf s.length _ (.ok u) (Nat.le_refl _) [];have I:=I n (Nat.le_refl _);cases r with
    |ok r=>exact⟨_,_,_,.ok h I⟩
    |bad a=>exact⟨_,_,_,.bad h I⟩
def Tr.dep:Tr->Nat
  |.mk _ _ l=>depL l+1
where depL:List Tr->Nat
  | []=>0
  |t::l=>max t.dep (depL l)
theorem vW {t:By}{l:List Tr}{x:Tr}(h:x∈l):x.dep<(Tr.mk k t l).dep:=by
  show x.dep<Tr.dep.depL l+1
  have:x.dep<=Tr.dep.depL l:=by
    induction l with
    |nil=>simp at h
    |cons a l I =>
      show x.dep<=max a.dep (Tr.dep.depL l)
      rcases List.mem_cons.1 h with rfl|h
      · omega
      · have:=I h;omega
  omega
end
mutual
def sj:Tr->Tr->Bool
  |.mk k t l,.mk k' t' l'=>decide (k=k') && (decide (t=t') && om l l')
def om:List Tr->List Tr->Bool
  | [],[]=>true
  |a::l,b::l'=>sj a b && om l l'
  | [],_::_=>false
  |_::_,[]=>false
end
mutual
theorem zP:∀a b:Tr,sj a b=true↔a=b
  |.mk k t l,.mk k' t' I=>by
    rw[sj,Bool.and_eq_true,Bool.and_eq_true,decide_eq_true_iff,decide_eq_true_iff,tG l I,Tr.mk.injEq]
theorem tG:∀l I:List Tr,om l I=true↔l=I
  | [],[]=>by simp[om]
  |a::l,b::I=>by rw[om,Bool.and_eq_true,zP a b,tG l I,List.cons.injEq]
  | [],_::_=>by simp[om]
  |_::_,[]=>by simp[om]
end
section
variable {k e:Int}
def gi (c:UInt8):By:=match jv.find? (λp=>p.2 ==c) with|some p=>[92,p.1] |none=>[c]
def A9 (s:By):By:=34::(s.flatMap gi++[34])
def iu:List By->By
  | []=>[]
  | [x]=>x
  |x::y::l=>x++([59,32]++iu (y::l))
def vh (k:List By):By:=[105,102,32]++k.getD 0 []++[32]++k.getD 1 []++[32,101,108,115,101,32]++k.getD 2 []
def wA (k:Int) (t:By) (l:List By):By :=
  if k=1 then A9 t
  else if k=4 then [40]++t++[32]++l.getD 0 []++[41]
  else if k=5 then [40]++l.getD 0 []++[32]++t++[32]++l.getD 1 []++[41]
  else if k=6 then [40]++vh l++[41]
  else if k=7 then (if l.length=1 then [108,101,116,32]++t++[32,61,32]++l.getD 0 [] else [40,108,101,116,32]++t++[32,61,32]++l.getD 0 []++[32,105,110,32]++l.getD 1 []++[41])
  else if k=8 then [40,102,117,110,32]++t++[32,45,62,32]++l.getD 0 []++[41]
  else if k=9 then l.getD 0 []++[40]++l.getD 1 []++[41]
  else if k=10 then [123,32]++iu l++[32,125]
  else t
end
mutual
def bG:Bool->Tr->By
  |bare,.mk k t l=>if k=6/\bare=true then vh (ic (decide (k=6)) 0 l) else wA k t (ic (decide (k=6)) 0 l)
def ic:Bool->Nat->List Tr->List By
  |_,_,[]=>[]
  |six,i,x::l=>bG (six && decide (i=2)) x::ic six (i+1) l
end
section
variable {k e:Int}
def o8 (c:UInt8):Bool:=decide (48<=c) && decide (c<=57)
def isLet (c:UInt8):Bool:=(decide (97<=c) && decide (c<=122)) ||((decide (65<=c) && decide (c<=90)) ||decide (c=95))
def dz (s:By):By:=s.dropWhile o8
def fY (s:By):Bool:=decide ((dz s).length<s.length)
def tX (s:By) (ok:Bool):Bool:=match s with
  |c::r=>if ok=true/\(c=101\/c=69) then
      (match r with
       |d::r'=>if d=43\/d=45 then fY r' && decide (dz r'=[]) else fY r && decide (dz r=[])
       | []=>false)
    else false
  | []=>ok
def KP (s:By):Bool:=match dz s with
  |c::r=>if fY s=true/\c=46 then tX (dz r) (fY r) else tX (c::r) (fY s)
  | []=>fY s
def qY (word:By->Bool) (s:By):Bool :=
  (match s with| []=>false|c::r=>isLet c && r.all λc=>isLet c ||o8 c) && !word s
def Ig:List By:=[[45],kW]
def JY:List By:=[tA,iL,[61,61],[33,61],[60],[60,61],[62],[62,61],[43],[45],[42],[47],[37]]
def jX (word:By->Bool) (k:Int) (t:By):Bool :=
  if k=0 then KP t
  else if k=1 then decide (t.length<=16384)
  else if k=2 then decide (t=gZ) ||decide (t=gC)
  else if k=3\/k=7\/k=8 then qY word t
  else if k=4 then decide (t∈Ig)
  else if k=5 then decide (t∈JY)
  else decide (t=[])
def fB (k:Int):Nat×Nat :=
  if k=4\/k=8 then (1,1) else if k=5\/k=9 then (2,2) else if k=6 then (3,3) else if k=7 then (1,2) else if k=10 then (1,500) else (0,0)
def qU (word:By->Bool) (k:Int) (t:By) (n:Nat):Bool :=
  decide ((fB k).1<=n) && (decide (n<=(fB k).2) && (decide (0<=k) && (decide (k<=10) && jX word k t)))
def Jx (k:Int) (i:Nat):Tr->Bool
  |.mk k' _ l=>(decide (k=10) ||(decide (k'≠7) ||decide (l.length=2))) && (decide (k≠6) ||(decide (i=0) ||(decide (k'=10) ||(decide (i≠1) && decide (k'=6)))))
end
mutual
def eW (word:By->Bool):Tr->Bool
  |.mk k t l=>qU word k t l.length && nh word k 0 l
def nh (word:By->Bool) (k:Int):Nat->List Tr->Bool
  |_,[]=>true
  |i,x::l=>(eW word x && Jx k i x) && nh word k (i+1) l
end
end Go.Proofs.YtnjahnbpnpkmhaaGreatDoor
namespace Go.Proofs.YtnjahnbpnpkmhaaGreatDoor
open Go Go.Lw
section
variable {h:aq}{O:Nat->Prop}{cs:List Value}
def zE (s q:Nat):Nat:=(s >>> (64*q))%2 ^ 64
def dW (s q:Nat):Value:=.int .u64 (zE s q:Nat)
def cn (s:Nat):List Value:=[dW s 0,dW s 1,dW s 2,dW s 3]
theorem AN (s q:Nat):zE s q<18446744073709551616:=Nat.mod_lt _ (by decide)
theorem lq (s q i:Nat):(zE s q).testBit i=(decide (i<64) && s.testBit (64*q+i)):=by
  unfold zE;rw[Nat.testBit_mod_two_pow,Nat.testBit_shiftRight]
theorem Ib (s b:Nat) (q:Nat) (h:q≠b / 64):zE (s |||(1 <<< b)) q=zE s q:=by
  apply Nat.eq_of_testBit_eq
  intro i;rw[lq,lq,Nat.testBit_or,Nat.one_shiftLeft,Nat.testBit_two_pow]
  by_cases hi:i<64
  · have:b≠64*q+i:=by omega
    simp[this]
  · simp[hi]
theorem Ia (s b:Nat):zE (s |||(1 <<< b)) (b / 64)=zE s (b / 64) ||| 2 ^ (b%64):=by
  apply Nat.eq_of_testBit_eq
  intro i;rw[lq,Nat.testBit_or,Nat.testBit_or,lq,Nat.one_shiftLeft,Nat.testBit_two_pow,Nat.testBit_two_pow]
  by_cases hi:i<64
  · have:(b=64*(b / 64)+i)↔(b%64=i):=by omega
    simp[hi,this]
  · have:¬b%64=i:=by omega
    simp[hi,this]
theorem mj {i:Int}(h:0<=i/\i<=18446744073709551615):IntKind.u64.wrap i=i:=by
  have I:(2:Int) ^ 64=18446744073709551616:=rfl;simp only[IntKind.wrap,IntKind.bits,IntKind.signed,I,Bool.false_and,Bool.false_eq_true,if_false];omega
theorem P1 {x y:Nat}(J:x<18446744073709551616) (I:y<18446744073709551616):IntKind.u64.wrap ((BitVec.ofInt IntKind.u64.bits (x:Int) |||BitVec.ofInt IntKind.u64.bits (y:Int)).toNat:Int)=((x |||y:Nat):Int):=by
  have e:(BitVec.ofInt IntKind.u64.bits (x:Int) |||BitVec.ofInt IntKind.u64.bits (y:Int)).toNat=x |||y:=by
    rw[BitVec.toNat_or]
    have h1:(BitVec.ofInt IntKind.u64.bits (x:Int)).toNat=x:=by
      show (BitVec.ofInt 64 (x:Int)).toNat=x
      simp only[BitVec.toNat_ofInt];omega
    have U:(BitVec.ofInt IntKind.u64.bits (y:Int)).toNat=y:=by
      show (BitVec.ofInt 64 (y:Int)).toNat=y
      simp only[BitVec.toNat_ofInt];omega
    rw[h1,U]
  rw[e];have:x |||y<2 ^ 64:=Nat.or_lt_two_pow J I;exact mj ⟨by omega,by omega⟩
theorem LU (b:Nat):IntKind.u64.wrap (1*2 ^ min ((b%64:Nat):Int).toNat IntKind.u64.bits)=((2 ^ (b%64):Nat):Int):=by
  have I:b%64<64:=Nat.mod_lt _ (by decide);have h1:min ((b%64:Nat):Int).toNat IntKind.u64.bits=b%64:=by show min _ 64=_;simp;omega
  rw[h1,Int.one_mul];have h2:2 ^ (b%64)<2 ^ 64:=Nat.pow_lt_pow_right (by decide) I;have J:((2:Int) ^ (b%64))=((2 ^ (b%64):Nat):Int):=by push_cast;rfl
  rw[J];generalize 2 ^ (b%64)=p at *;exact mj ⟨by omega,by omega⟩
theorem Qe {x:Nat}(hx:x<18446744073709551616):IntKind.u64.wrap ((BitVec.ofInt IntKind.u64.bits (x:Int) &&& BitVec.ofInt IntKind.u64.bits 1).toNat:Int)=((x%2:Nat):Int):=by
  have e:(BitVec.ofInt IntKind.u64.bits (x:Int) &&& BitVec.ofInt IntKind.u64.bits 1).toNat=x%2:=by
    rw[BitVec.toNat_and]
    have h1:(BitVec.ofInt IntKind.u64.bits (x:Int)).toNat=x:=by
      show (BitVec.ofInt 64 (x:Int)).toNat=x
      simp only[BitVec.toNat_ofInt];omega
    rw[h1]
    show x &&& 1=_
    exact Nat.and_one_is_mod x
  rw[e];exact mj ⟨by omega,by omega⟩
theorem LS (x:Nat) (b:Nat) (hb:b<64):((x:Int)).fdiv (2 ^ min ((b:Nat):Int).toNat IntKind.u64.bits)=((x >>> b:Nat):Int):=by
  have h1:min ((b:Nat):Int).toNat IntKind.u64.bits=b:=by show min _ 64=_;simp;omega
  rw[h1,Nat.shiftRight_eq_div_pow];have h3:((2:Int) ^ b)=((2 ^ b:Nat):Int):=by push_cast;rfl
  rw[h3,Int.fdiv_eq_ediv_of_nonneg _ (Int.natCast_nonneg _)]
  push_cast;rfl
theorem Fw (s b:Nat):(zE s (b / 64) >>> (b%64))%2=(s.testBit b).toNat:=by
  have h:=lq s (b / 64) (b%64);rw[show 64*(b / 64)+b%64=b from Nat.div_add_mod b 64] at h;have I:b%64<64:=Nat.mod_lt _ (by decide);simp only[I,decide_true,Bool.true_and] at h;rw[Nat.shiftRight_eq_div_pow,<-Nat.toNat_testBit,h]
def bP (k s:Nat) (v:Value):List Value:=[.int .i64 k,dW s 0,dW s 1,dW s 2,dW s 3,v]
inductive aI (h:aq) (O:Nat->Prop):List Value->Nd->Prop
  |mk (k s:Nat) (kids:List Nd) (oa:Option Addr) (n c:Nat) (css:Nat->List Value) (hl:kids.length=n) (hc:n<=c) (hm:c<=maxLen)
      (hr:∀i x,kids[i]? =some x->∃b o,oa=some ⟨b,o,none⟩/\¬O b/\Lw.rowAt h b (o+i*6) (css i)) (hk:∀i x,kids[i]? =some x->aI h O (css i) x):aI h O (bP k s (.slice oa n c)) (.mk k s kids)
theorem aI.len {x:Nd}(k:aI h O cs x):cs.length=6:=by cases k;rfl
theorem aI.one {x:Nd}(k:aI h O cs x):∀v∈cs,v.oneCell'=true:=by
  cases k;intro v I;simp[bP,dW] at I
  rcases I with rfl|rfl|rfl|rfl|rfl|rfl<;>rfl
theorem aI.mv {h':aq}{O':Nat->Prop}{x:Nd}(k:aI h O cs x) (m:Mv O O' h h'):aI h' O' cs x:=by
  induction k with
  |mk k s kids oa n c css hl hc hm hr hk Z =>
    refine .mk k s kids oa n c css hl hc hm (λi x U=>?_) Z;obtain⟨b,o,ha,Y,I⟩:=hr i x U;have J:css i≠[]:=by intro e;have:=(hk i x U).len;rw[e] at this;cases this
    exact⟨b,o,ha,(m.block b (eT I J) Y).2,m.rowAt Y I⟩
def mX:gW Nd:=⟨6,by decide,aI,aI.len,aI.one,aI.mv⟩
theorem aI.ah {h h':aq}{O:Nat->Prop}{cs:List Value}{x:Nd}(k:aI h O cs x) (e:aj h h'):aI h' O cs x:=k.mv (Mv.ah e)
theorem aI.of {v:Value}{kids:List Nd}(k s:Nat) (Z:aL mX h O v kids):aI h O (bP k s v) (.mk k s kids):=by
  obtain⟨oa,n,c,rfl,hl,hc,hm,hg⟩:=Z
  have J:∀i,i<n->∃cs:List Value,∃x,kids[i]? =some x/\(∃b o,oa=some ⟨b,o,none⟩/\¬O b/\Lw.rowAt h b (o+i*6) cs)/\aI h O cs x:=by
    intro i hi;obtain⟨b,o,cs,h1,Y,U,h4⟩:=hg i kids[i] (List.getElem?_eq_getElem (by omega));exact⟨cs,kids[i],List.getElem?_eq_getElem (by omega),⟨b,o,h1,Y,U⟩,h4⟩
  refine .mk k s kids oa n c (λi=>if hi:i<n then Classical.choose (J i hi) else []) hl hc hm (λi x I=>?_) (λi x I=>?_)
  · have hi:i<n:=by rw[<-hl];exact(List.getElem?_eq_some_iff.1 I).1
    simp only[dif_pos hi];obtain⟨y,_,Y,_⟩:=Classical.choose_spec (J i hi);exact Y
  · have hi:i<n:=by rw[<-hl];exact(List.getElem?_eq_some_iff.1 I).1
    simp only[dif_pos hi];obtain⟨y,h1,_,U⟩:=Classical.choose_spec (J i hi);rw[h1] at I;cases I;exact U
theorem aI.open {x:Nd}(k:aI h O cs x):∃v,cs=bP x.kind x.set v/\aL mX h O v x.kids:=by
  cases k with
  |mk k s kids oa n c css hl hc hm hr hk =>
    exact⟨_,rfl,oa,n,c,rfl,hl,hc,hm,λi x I=>by
      obtain⟨b,o,h1,U,J⟩:=hr i x I;exact⟨b,o,css i,h1,U,J,hk i x I⟩⟩
def bs (l:List UInt8):ByteArray:=⟨l.toArray⟩
theorem iw (l:List UInt8):(bs l).data.toList=l:=by simp[bs]
theorem aJ (l:List UInt8):(bs l).size=l.length:=by simp[bs,ByteArray.size]
theorem cG (l m:List UInt8):bs l++bs m=bs (l++m):=by
  apply ByteArray.ext
  simp[bs]
theorem dF {l m:List UInt8}(h:bs l=bs m):l=m:=by have:=congrArg (λx=>x.data.toList) h;simpa [bs] using this
theorem JX (l m:List UInt8):decide (bs l=bs m)=decide (l=m):=by
  rw[decide_eq_decide];exact⟨dF,λh=>by rw[h]⟩
theorem BP (l:List UInt8):decide (bs l=(⟨#[]⟩:ByteArray))=decide (l=[]):=JX l []
theorem eH {l:List UInt8}{i:Nat}{c:UInt8}(h:l[i]? =some c):(bs l).data[i]? =some c:=by simpa [bs] using h
theorem qh (l:List UInt8) (i:Nat):(bs l).extract i (bs l).size=bs (l.drop i):=by
  apply ByteArray.ext
  apply Array.ext'
  rw[ByteArray.data_extract,Array.toList_extract,List.extract_eq_take_drop];rw[aJ];simp only[bs];exact List.take_of_length_le (by simp)
theorem sW (l:List UInt8) (i j:Nat) (_h:i<=j):(bs l).extract i j=bs ((l.take j).drop i):=by
  apply ByteArray.ext
  apply Array.ext'
  rw[ByteArray.data_extract,Array.toList_extract,List.extract_eq_take_drop];simp only[bs];rw[List.drop_take]
theorem NA (c d:UInt8):decide (((c.toNat:Nat):Int)≠((d.toNat:Nat):Int))=decide (c≠d):=by
  rw[decide_eq_decide];exact⟨λh e=>h (by rw[e]),λh e=>h (UInt8.toNat_inj.1 (by omega))⟩
theorem LL (c d:UInt8):decide (((c.toNat:Nat):Int)=((d.toNat:Nat):Int))=decide (c=d):=by
  rw[decide_eq_decide];exact⟨λe=>UInt8.toNat_inj.1 (by omega),λe=>by rw[e]⟩
theorem bz {c:UInt8}{k:Nat}{d:UInt8}(I:d.toNat=k):(((c.toNat:Nat):Int)=(k:Int))↔c=d:=by
  subst I;exact⟨λe=>UInt8.toNat_inj.1 (by omega),λe=>by rw[e]⟩
end
end Go.Proofs.YtnjahnbpnpkmhaaGreatDoor
