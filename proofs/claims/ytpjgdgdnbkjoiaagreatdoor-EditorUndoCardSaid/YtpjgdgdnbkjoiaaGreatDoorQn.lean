/- What the proof of the statement leans on (part 14). -/
import Derived.Lib.MakeNoZero
import Derived.Laws.CopyOwn
import Derived.Test.YtpjgdgdnbkjoiaaGreatDoorQm

namespace Go.Lw
open Go.RowKit
section
variable {P:Program}{ρ:Env}{h:ai}{dst:Option Nat}{ty:TypeId}{pos:String}{after:Array Edge}{guard:Option (Nat×Bool)}{X:List PanicEntry->ai->Prop}
theorem ak.C9 {t e:TypeId}{x:Operand}{oa:Option Addr}{n c:Nat}(hu:P.underlying t=some (.slice e)) (hx:aU ρ x=some (.slice oa n c)) :
 ak P ⟨dst,.call ⟨.builtin .cap,#[x],#[t]⟩,ty,pos,after,guard⟩ ρ h (.int .i64 c):=by
 intro _ B a w hf _;simp[execOp,resolve,invoke,builtin,Builtin.cap_,run_underlying hu,hf.eval hx,goInt]
theorem ak.JE {t t' e:TypeId}{x y:Operand}{oa ob:Option Addr}{n c m d:Nat}(hu:P.underlying t=some (.slice e)) (hs:(P.info? e).map (·.size)=some 1) (hx:aU ρ x=some (.slice oa n c)) (hy:aU ρ y=some (.slice ob m d)) (h0:Nat.min m n=0) :
 ak P ⟨dst,.call ⟨.builtin .copy,#[x,y],#[t,t']⟩,ty,pos,after,guard⟩ ρ h (.int .i64 0):=by
 intro _ B a w hf _;have hrun:=run_copy_none (P:=P) w t t' ty e oa ob n c m d hu hs h0;simp[execOp,resolve,invoke,builtin,hf.eval hx,hf.eval hy,hrun,goInt]
theorem ay.makeNoZero {f:FuncId}{fn:Func}{x:Operand}{ts ps:Array TypeId}{t e:TypeId}{i:Int}(hf:P.funcs[f]? =some fn) (hname:(fn.name == "runtime.NumGoroutine")=false)
 (hb:fn.body.isNone=true) (hn:Extern.findNext fn=none) (he:Extern.find fn=some (Extern.BytealgMakeNoZero.makeNoZero ps #[t])) (ht:P.underlying t=some (.slice e)) (hx:aU ρ x=some (.int .i64 i)) (n:Nat) (hi:i=n) (hle:n<=1000000000) :
 ay P ⟨dst,.call ⟨.value (.func f),#[x],ts⟩,ty,pos,after,guard⟩ ρ h (fun v g=>∃cs:Array Value,v= .slice (some ⟨h.size,0,none⟩) n cs.size/\g=h.push (.cells cs e)/\n<=cs.size/\cs.size<=maxLen) X:=by
 intro nn B a w hfit ha next Q hq _
 subst hi;obtain⟨cs,hr,h1,h2⟩:=Lib.run_makeNoZero (P:=P) w ps t e ht n (by omega);have hc:=run_callFunc_extern (P:=P) hf hname hb hn he #[.int .i64 n] w;rw[hr] at hc
 have hrun:(execOp a.eval ⟨dst,.call ⟨.value (.func f),#[x],ts⟩,ty,pos,after,guard⟩).run P w= .ok (.value (.slice (some ⟨w.heap.size,0,none⟩) n cs.size)) (w.drew.drew.alloc (.cells cs e)):=by
  simp only[execOp,resolve,Act.eval,Deferred.ofValue,invoke];simp[hfit.eval hx,hc]
 unfold Oper.wp;rw[hrun];refine hq _ (w.heap.push (.cells cs e)) _ ⟨rfl,ha.os,ha.tape,ha.output⟩ ⟨cs,by rw[ha.heap],by rw[ha.heap],h1,h2 (by simp only[maxLen];omega)⟩
end
end Go.Lw
namespace Go.Lw
class p0 (P:Program) (t:TypeId) (d:outParam TypeDesc):Prop where e:P.underlying t=some d
class qw (P:Program) (t:TypeId) (n:outParam Nat):Prop where e:cu P t=some n
class nL (P:Program) (t:TypeId) (b:outParam Bool):Prop where e:aV P t=some b
class E9 (P:Program) (t:TypeId) (s b:outParam Nat):Prop where e:eG P t s b
class J4 (P:Program) (t:TypeId) (z:outParam Value):Prop where e:(P.info? t).bind (·.zero)=some z
class bZ (P:Program) (f:FuncId) (fn:outParam Func):Prop where e:P.funcs[f]? =some fn
class Ls (P:Program):Prop where e:(P.funcs.toList.all fun fn=> !(fn.name == "runtime.NumGoroutine"))=true
class Nq (P:Program):Prop where e:P.follows .mixedOrders=true
class QE (P:Program) (t:TypeId):Prop where e:P.concrete t=true
class jn (P:Program) (t:TypeId) (i:Nat) (off:outParam Nat):Prop where
 e:∃fs fd k,P.underlying t=some (.struct fs)/\fs[i]? =some fd/\fd.offset=off/\cu P fd.type=some (k+1)
class Rc (P:Program) (t:TypeId) (i:Nat) (off:outParam Nat):Prop where
 e:∃fs fd,P.underlying t=some (.struct fs)/\fs[i]? =some fd/\fd.offset=off/\aV P fd.type=some false
section
variable {f:FuncId}{fn:Func}{t e:TypeId}{x y:Operand}{i b sz n d size bytes:Nat}{o:Oper}{v:Value}{cs vs:List Value}{k:IntKind}{j:Int}{xs:Array Operand}{ts:Array TypeId}{Φ:Value->ai->Prop}{h0:ai}{ρ1:Env}{ops:Array Oper}{σ:Type}{rs:List ResultVar}
theorem Ls.at {P:Program}[g:Ls P] (h:P.funcs[f]? =some fn):(fn.name == "runtime.NumGoroutine")=false:=by
 have:=List.all_eq_true.1 g.e fn (by simpa using Array.mem_of_getElem? h);simpa using this
section
variable {P:Program}{ρ:Env}{h:ai}{dst:Option Nat}{ty:TypeId}{pos:String}{after:Array Edge}{guard:Option (Nat×Bool)}{X:List PanicEntry->ai->Prop}
theorem QS {o off:Nat}[c:jn P t i off] (hx:aU ρ x=some (.pointer (some ⟨b,o,none⟩)):=by exact rfl) :
 ak P ⟨dst,.fieldAddr t x i,ty,pos,after,guard⟩ ρ h (.pointer (some ⟨b,o+off,none⟩)):=by
 obtain⟨fs,fd,k,h1,h2,h3,h4⟩:=c.e;exact aa h1 h2 h3 h4 hx
theorem aL {p:Addr}(hx:aU ρ x=some (.pointer (some p))) (hc:cellAt h p=some v) [c:nL P t false] :
 ak P ⟨dst,.load t x,ty,pos,after,guard⟩ ρ h v:=aq c.e hx hc
theorem eN {o:Nat}(hx:aU ρ x=some (.pointer (some ⟨b,o,none⟩))) (hc:rowAt h b o cs) [c:nL P t true] [d:qw P t sz]
 (hn:cs.length=sz:=by first|exact rfl|(simp;done)|(simp;omega)):ak P ⟨dst,.load t x,ty,pos,after,guard⟩ ρ h (.agg cs.toArray):=ak.aF c.e d.e hx hc hn
theorem eM {oa:Option Addr}{o c:Nat}[u:p0 P t (.slice e)] [s:qw P e sz] (hx:aU ρ x=some (.slice oa n c)) (hy:aU ρ y=some (.int k j)) (i:Nat) (hj:j=i) (ha:oa=some ⟨b,o,none⟩) (hi:i<n:=by omega) :
 ak P ⟨dst,.indexAddr t x y,ty,pos,after,guard⟩ ρ h (.pointer (some ⟨b,o+i*sz,none⟩)):=ak.bK u.e s.e hx hy i hj ha hi
theorem Dz {o:Nat}[u:p0 P t (.array n e)] [s:qw P e sz] (hx:aU ρ x=some (.pointer (some ⟨b,o,none⟩))) (hy:aU ρ y=some (.int k j)) (i:Nat) (hj:j=i:=by exact rfl) (hi:i<n:=by first|decide|omega) :
 ak P ⟨dst,.indexAddr t x y,ty,pos,after,guard⟩ ρ h (.pointer (some ⟨b,o+i*sz,none⟩)):=ak.Ji u.e s.e hx hy i hj hi
theorem LD {s:ByteArray}{b:UInt8}[u:p0 P t .string] (hx:aU ρ x=some (.string s)) (hy:aU ρ y=some (.int k j)) (i:Nat) (hj:j=i) (hb:s.data[i]? =some b) :
 ak P ⟨dst,.index t x y,ty,pos,after,guard⟩ ρ h (.int .u8 b.toNat):=ak.eR u.e hx hy i hj hb
def Ox:TypeDesc->Option Value->Option Value
 |.slice _,some (.slice _ n _)=>some (.int .i64 (n:Nat))
 |.string,some (.string s)=>some (.int .i64 (s.size:Nat))
 |.array n _,some _=>some (.int .i64 (n:Nat))
 |_,_=>none
theorem QN {d:TypeDesc}[u:p0 P t d] (e:Ox d (aU ρ x)=some v:=by exact rfl):ak P ⟨dst,.call ⟨.builtin .len,#[x],#[t]⟩,ty,pos,after,guard⟩ ρ h v:=by
 unfold Ox at e;split at e<;>cases e
 · rename_i hx;exact ak.cP u.e hx
 · rename_i hx;exact ak.bD u.e hx
 · rename_i hx;exact ak.I6 u.e hx
theorem QL {off:Nat}{cs:Array Value}[c:Rc P t i off]
 (hx:aU ρ x=some (.agg cs):=by exact rfl) (hv:cs[off]? =some v:=by exact rfl):ak P ⟨dst,.field t x i,ty,pos,after,guard⟩ ρ h v:=by
 obtain⟨fs,fd,h1,h2,h3,h4⟩:=c.e;exact ak.field h1 h2 h3 h4 hx hv
theorem QT {yt:TypeId}{i j:Bool}[u:p0 P t .bool] (hx:aU ρ x=some (.bool i):=by exact rfl) (hy:aU ρ y=some (.bool j):=by exact rfl) :
 ak P ⟨dst,.binOp .eql t x y yt,ty,pos,after,guard⟩ ρ h (.bool (i ==j)):=ak.K0 u.e hx hy
theorem QM {s d:TypeId}{ds:TypeDesc}{k':IntKind}{i:Int}[u:p0 P s ds] [w:p0 P d (.int k')] (hx:aU ρ x=some (.int k i):=by exact rfl) :
 ak P ⟨dst,.convert s d x,ty,pos,after,guard⟩ ρ h (.int k' (k'.wrap i)):=ak.vz u.e w.e hx
theorem NI {s d:TypeId}{ds:TypeDesc}{k':IntKind}{i:Int}[u:p0 P s ds] [w:p0 P d (.int k')] (hx:aU ρ x=some (.int k i)) (hw:k'.wrap i=i) :
 ak P ⟨dst,.convert s d x,ty,pos,after,guard⟩ ρ h (.int k' i):=ak.M9 u.e w.e hx hw
theorem QO [c:QE P t] (hx:aU ρ x=some v:=by exact rfl):ak P ⟨dst,.makeInterface t x,ty,pos,after,guard⟩ ρ h (.iface t v):=kZ c.e hx
def yh (ρ:Env):List Operand->Option (List Value)
 | []=>some []
 |x::r=>match aU ρ x with
  |some v=>match yh ρ r with
   |some vs=>some (v::vs)
   |none=>none
  |none=>none
theorem sU:∀{xs:List Operand}{vs:List Value},yh ρ xs=some vs->xs.map (aU ρ)=vs.map some
 | [],vs,h=>by simp only[yh,Option.some.injEq] at h;subst h;rfl
 |x::r,vs,h=>by
  rw[yh] at h;split at h
  · rename_i v hv;split at h
    · rename_i us hu;cases h;rw[List.map_cons,List.map_cons,hv,sU hu]
    · cases h
  · cases h
theorem bh (hvs:yh ρ xs.toList=some vs) (k:af P f vs.toArray h (bg Φ)) [c:bZ P f fn] [g:Ls P] (hb:fn.body.isSome=true:=by exact rfl) :
 ay P ⟨dst,.call ⟨.value (.func f),xs,ts⟩,ty,pos,after,guard⟩ ρ h Φ X:=ay.call c.e hb (Ls.at c.e) (sU hvs) (af.cD k)
theorem yI {X0:List PanicEntry->ai->Prop}(hvs:yh ρ xs.toList=some vs) (k:af P f vs.toArray h (E1 Φ X0)) (hx:∀c h',X0 c h'->X c h') [c:bZ P f fn] [g:Ls P] (hb:fn.body.isSome=true:=by exact rfl) :
 ay P ⟨dst,.call ⟨.value (.func f),xs,ts⟩,ty,pos,after,guard⟩ ρ h Φ X:=ay.call c.e hb (Ls.at c.e) (sU hvs) (af.NQ k hx)
theorem nN (hx:aU ρ x=some v:=by exact rfl) :
 ay P ⟨dst,.box t x,ty,pos,after,guard⟩ ρ h (fun u g=>u= .pointer (some ⟨h.size,0,none⟩)/\aD g h.size t v.cells.toList/\an h g/\g.size=h.size+1) X:=ay.kH hx
theorem jf {z:Value}[c:J4 P t z] :
 ay P ⟨dst,.alloc t,ty,pos,after,guard⟩ ρ h (fun u g=>u= .pointer (some ⟨h.size,0,none⟩)/\aD g h.size t z.cells.toList/\an h g/\g.size=h.size+1) X:=ay.cS c.e
theorem gG {g o:Nat}{cur:List Value}[c:qw P t 1] (hx:aU ρ x=some (.pointer (some ⟨g,o,none⟩))) (hy:aU ρ y=some v) (hk:aD h g e cur) (h1:v.oneCell'=true:=by exact rfl)
 (hl:o<cur.length:=by first|decide|exact of_decide_eq_true rfl|(simp;done)|(simp;omega)) :
 ay P ⟨dst,.store t x y,ty,pos,after,guard⟩ ρ h (fun u h'=>u=undef/\aD h' g e (cur.set o v)/\Ext (fun b=>b=g) h h'/\h'.size=h.size) X:=ay.aP c.e hx hy hk hl h1
theorem eu {g o:Nat}{cur:List Value}{cs:Array Value}[c:qw P t sz] (hx:aU ρ x=some (.pointer (some ⟨g,o,none⟩))) (hy:aU ρ y=some (.agg cs)) (hk:aD h g e cur) (h1:∀v∈cs.toList,v.oneCell'=true:=by first|decide|simp[Value.oneCell'])
 (hn:cs.size=sz:=by first|exact rfl|(simp;done)|(simp;omega)) (hl:o+sz<=cur.length:=by first|decide|exact of_decide_eq_true rfl|(simp;done)|(simp;omega)) :
 ay P ⟨dst,.store t x y,ty,pos,after,guard⟩ ρ h (fun u h'=>u=undef/\aD h' g e (over cur o cs.toList)/\Ext (fun b=>b=g) h h'/\h'.size=h.size) X:=ay.aG c.e hx hy hk hn hl h1
theorem Fc {xs news:List Value}{m c base:Nat}[u:p0 P t (.slice e)] [w:E9 P e size bytes] (hx:aU ρ x=some v) (hy:aU ρ y=some (.slice (some ⟨h0.size,0,none⟩) m c)) (hown:ax h0 base e size v n xs)
 (hh:h=h0.push (.cells news.toArray e)) (hl:news.length=m*size) (hn:n+m<=1000000000:=by omega) (hbase:base<=h0.size:=by omega)
 (h1:∀u∈news,u.oneCell'=true:=by first|decide|simp[Value.oneCell']) (hby:bytes<=1000:=by decide) :
 ay P ⟨dst,.call ⟨.builtin .append,#[x,y],#[t,t]⟩,ty,pos,after,guard⟩ ρ h (fun v' h'=>ax h' base e size v' (n+m) (xs++news)/\Ext (bT v.ownBlock) h0 h'/\Ext (bT v.ownBlock) h h'/\(∀b,v'.ownBlock=some b->v.ownBlock=some b\/h0.size<=b)) X :=
 ay.fS u.e w.e hx hy hown hh hl h1 hn hby hbase
theorem Kq {ps:Array (Nat×Operand)}[u:p0 P t (.slice e)] [w:E9 P e size bytes] (hps:ps.toList.map (fun p=>(p.1,aU ρ p.2))=[(0,some (.agg cs.toArray))]:=by exact rfl) (hn:cs.length=size:=by exact rfl) (hsz:size<=16777216:=by decide) :
 ay P ⟨dst,.buildSlice t 1 ps,ty,pos,after,guard⟩ ρ h (fun u g=>u= .slice (some ⟨h.size,0,none⟩) 1 1/\g=h.push (.cells cs.toArray e)) X:=ay.cz u.e w.e hps hn hsz
theorem s7 {len:Nat}{ps:Array (Nat×Operand)}(us:List Value) [u:p0 P t (.slice e)] [w:E9 P e 1 bytes] (hps:ps.toList.map (fun p=>(p.1,aU ρ p.2))=(us.zipIdx.map fun p=>(p.2,p.1)).map (fun p=>(p.1,some p.2)):=by exact rfl)
 (hl:us.length=len:=by exact rfl) (hlen:len<=16777216:=by decide) (h1:∀u∈us,u.oneCell'=true:=by simp[Value.oneCell']) :
 ay P ⟨dst,.buildSlice t len ps,ty,pos,after,guard⟩ ρ h (fun u g=>u= .slice (some ⟨h.size,0,none⟩) len len/\g=h.push (.cells us.toArray e)) X:=ay.jJ u.e w.e hps hl hlen h1
theorem Qt [u:p0 P t (.slice e)] [w:E9 P e size bytes]:ay P ⟨dst,.buildSlice t 0 #[],ty,pos,after,guard⟩ ρ h (fun u g=>u= .slice (some ⟨h.size,0,none⟩) 0 0/\g=h.push (.cells #[] e)) X:=ay.EO u.e w.e
end
theorem Pd {P:Program}{ρ:Env}{h:ai}(k:ak P o ρ h v:=by
 first
 |exact Bm rfl
 |exact QS
 |exact QN
 |exact ak.cY rfl rfl ⟨by omega,by omega⟩
 |exact ak.jL rfl rfl ⟨by omega,by omega⟩
 |exact ak.xN rfl rfl
 |exact ak.wD rfl rfl
 |exact Dz rfl rfl _
 |exact QL
 |exact QT
 |exact QO
 |exact QM
 |exact ak.min2 rfl rfl
 |exact ak.max2 rfl rfl
 |exact ak.nu rfl rfl (by omega)):ak P o ρ h v:=k
section
variable {P:Program}{n:Nat}{ops:Array Oper}{i:Nat}{ρ ρ':Env}{h:ai}{N:Env->ai->Prop}{X:List PanicEntry->ai->Prop}
theorem b6 (next:RW P n ops (i+1) ((d,v)::ρ) h N X)
 (e:(nth ops.toList i,aI ops ρ o,o.dst,Nat.blt d n)=(some o,some true,some d,true):=by exact rfl) (k:ak P o ρ h v:=by exact Pd):RW P n ops i ρ h N X:=xp e k next
theorem bP (e:(nth ops.toList i,aI ops ρ o,o.dst)=(some o,some true,none)) (k:ay P o ρ h Φ X) (next:∀v h',Φ v h'->RW P n ops (i+1) ρ h' N X):RW P n ops i ρ h N X:=by
 simp only[Prod.mk.injEq] at e;exact RW.gq e.1 e.2.1 e.2.2 k next
theorem Qp (next:RW P n ops (i+1) ((d,undef)::ρ) h N X)
 (e:(nth ops.toList i,aI ops ρ o,o.dst,Nat.blt d n)=(some o,some false,some d,true):=by exact rfl):RW P n ops i ρ h N X:=xk e next
theorem QF (next:RW P n ops (i+1) ρ h N X)
 (e:(nth ops.toList i,aI ops ρ o,o.dst)=(some o,some false,none):=by exact rfl):RW P n ops i ρ h N X:=by
 simp only[Prod.mk.injEq] at e;exact RW.N4 e.1 e.2.1 e.2.2 next
def Gx (n:Nat) (ops:Array Oper):Nat->Nat->Env->Option (Nat×Env)
 | 0,i,ρ=>some (i,ρ)
 |k+1,i,ρ=>match nth ops.toList i with
  |some o=>match o.dst with
   |some d=>match Nat.blt d n with
    |true=>match aI ops ρ o with
     |some true=>match OG ρ o.op with
      |some v=>Gx n ops k (i+1) ((d,v)::ρ)
      |none=>some (i,ρ)
     |some false=>Gx n ops k (i+1) ((d,undef)::ρ)
     |none=>some (i,ρ)
    |false=>some (i,ρ)
   |none=>some (i,ρ)
  |none=>some (i,ρ)
theorem AJ {j:Nat}:∀(k i:Nat) (ρ:Env),Gx n ops k i ρ=some (j,ρ')->RW P n ops j ρ' h N X->RW P n ops i ρ h N X
 | 0,i,ρ,e,next=>by simp only[Gx,Option.some.injEq,Prod.mk.injEq] at e;obtain⟨rfl,rfl⟩:=e;exact next
 |k+1,i,ρ,e,next=>by
  rw[Gx] at e;have fin:some (i,ρ)=some (j,ρ')->RW P n ops i ρ h N X:=fun e=>by simp only[Option.some.injEq,Prod.mk.injEq] at e;obtain⟨rfl,rfl⟩:=e;exact next
  split at e
  · rename_i o ho;split at e
    · rename_i d hd;split at e
      · rename_i hb;split at e
        · rename_i hw;split at e
          · rename_i v hv;exact RW.aC ho hw hd hb (Bm hv) (AJ k _ _ e next)
          · exact fin e
        · rename_i hw;exact RW.bl ho hw hd hb (AJ k _ _ e next)
        · exact fin e
      · exact fin e
    · exact fin e
  · exact fin e
def N7 (n:Nat) (ops:Array Oper) (i:Nat) (ρ:Env):Option (Nat×Env):=match AI n ops 1 i ρ with
 |some ρ'=>Gx n ops 200 (i+1) ρ'
 |none=>none
theorem QG {j:Nat}(next:RW P n ops j ρ' h N X) (e:N7 n ops i ρ=some (j,ρ'):=by exact rfl):RW P n ops i ρ h N X:=by
 unfold N7 at e;split at e
 · rename_i r hr;exact dX 1 hr (AJ _ _ _ e next)
 · cases e
end
section
variable {P:Program}{n:Nat}{ops:Array Oper}{i:Nat}{ρ ρ':Env}{h:ai}{N:Env->Prop}
theorem nM (e:(nth ops.toList i,aI ops ρ o,o.dst,Nat.blt d n)=(some o,some true,some d,true)) (k:ak P o ρ h v) (next:RQ P n ops (i+1) ((d,v)::ρ) h N):RQ P n ops i ρ h N:=by
 simp only[Prod.mk.injEq] at e;exact RQ.aC e.1 e.2.1 e.2.2.1 e.2.2.2 k next
theorem Nw (next:RQ P n ops (i+1) ((d,v)::ρ) h N)
 (e:(nth ops.toList i,aI ops ρ o,o.dst,Nat.blt d n)=(some o,some true,some d,true):=by exact rfl) (k:ak P o ρ h v:=by exact Pd):RQ P n ops i ρ h N:=nM e k next
theorem QI (next:RQ P n ops (i+1) ((d,undef)::ρ) h N)
 (e:(nth ops.toList i,aI ops ρ o,o.dst,Nat.blt d n)=(some o,some false,some d,true):=by exact rfl):RQ P n ops i ρ h N:=by
 simp only[Prod.mk.injEq] at e;exact RQ.bl e.1 e.2.1 e.2.2.1 e.2.2.2 next
theorem QK {dst:Option Nat}{ty:TypeId}{pos:String}{after:Array Edge}{guard:Option (Nat×Bool)}
 (k:af P f vs.toArray h (bg fun u h'=>u=v/\h'=h)) (next:RQ P n ops (i+1) ((d,v)::ρ) h N) [c:bZ P f fn] [g:Ls P] (ho:nth ops.toList i=some ⟨dst,.call ⟨.value (.func f),xs,ts⟩,ty,pos,after,guard⟩:=by exact rfl)
 (e:(aI ops ρ ⟨dst,.call ⟨.value (.func f),xs,ts⟩,ty,pos,after,guard⟩,dst,Nat.blt d n)=(some true,some d,true):=by exact rfl) (hb:fn.body.isSome=true:=by exact rfl) (hvs:yh ρ xs.toList=some vs:=by exact rfl):RQ P n ops i ρ h N:=by
 simp only[Prod.mk.injEq] at e;exact RQ.ON ho rfl e.1 e.2.1 e.2.2 c.e hb (Ls.at c.e) (sU hvs) k next
end
def ME:Op->Bool
 |.makeFunc .. |.lookup .. |.move .. |.assign .. |.pick .. |.binOp .. |.unOp .. |.convert .. |.extract .. |.nilCheck .. |.load .. |.indexAddr .. |.index .. |.fieldAddr .. |.slice .. |.field .. |.build .. |.makeInterface .. =>true
 |.call ⟨.builtin b,_,_⟩=>match b with
  |.len|.cap|.min|.max=>true
  |_=>false
 |_=>false
def Ij (fn:Func):List It->Option (List It)
 |.blk _::k=>some k
 |.scp _::k=>some k
 |.code p::k=>match sub (av fn) p with
  |.skip=>some k
  |.label .. =>some k
  |.seq .. =>some (.code (0::p):: .code (1::p)::k)
  |.block id _=>some (.code (0::p):: .blk id::k)
  |.scope _=>some (.code (0::p):: .scp (0::p)::k)
  |.exit id=>qp id k
  |_=>none
 |_=>none
def Ii (fn:Func):Nat->List It->Option (List It)
 | 0,k=>some k
 |n+1,k=>match Ij fn k with
  |some k'=>Ii fn n k'
  |none=>some k
def N1 (fn:Func) (k:List It):Option (List It):=match Ij fn k with
 |some k'=>Ii fn 99 k'
 |none=>none
def wr:List Oper->Nat->Bool
 | [],_=>false
 |o::r,i=>match o.dst with
  |some d=>match Nat.beq d i with
   |true=>true
   |false=>wr r i
  |none=>wr r i
def oF (l:List Oper):Env->Env->Option Env
 | [],acc=>some acc
 |(i,v)::r,acc=>match wr l i with
  |true=>oF l r acc
  |false=>match acc.at i with
   |some _=>oF l r acc
   |none=>oF l r ((i,v)::acc)
theorem pK {l:List Oper}{ρ0:Env}:∀{ρ acc ρ1:Env},oF l ρ acc=some ρ1->Sub acc ρ0->(∀j v,wr l j=false->acc.at j=none->ρ.at j=some v->ρ0.at j=some v)->Sub ρ1 ρ0
 | [],acc,ρ1,e,h,_=>by simp only[oF,Option.some.injEq] at e;subst e;exact h
 |(i,v)::r,acc,ρ1,e,h,hr=>by
  rw[oF] at e;have key:∀j u,wr l j=false->acc.at j=none->j≠i->Env.at r j=some u->ρ0.at j=some u:=fun j u h0 h1 h2 h3=>hr j u h0 h1 (by rw[Env.fR,if_neg (Ne.symm h2)];exact h3)
  split at e
  · rename_i hw;exact pK e h fun j u h0 h1 h3=>key j u h0 h1 (fun q=>by subst q;rw[hw] at h0;cases h0) h3
  · rename_i hw;split at e
    · rename_i x hx;exact pK e h fun j u h0 h1 h3=>key j u h0 h1 (fun q=>by subst q;rw[hx] at h1;cases h1) h3
    · rename_i hx;refine pK e ⟨hr i v hw hx (by rw[Env.fR,if_pos rfl]),h⟩ fun j u h0 h1 h3=>?_
      rw[Env.fR] at h1;split at h1
      · cases h1
      · rename_i q;exact key j u h0 h1 (fun q'=>q q'.symm) h3
theorem sB {l:List Oper}{ρ:Env}(e:oF l ρ []=some ρ1):Sub ρ1 ρ:=pK e trivial fun _ _ _ _ h=>h
section
variable {P:Program}{f:FuncId}{fn:Func}{k k':List It}{ρ ρ':Env}{h:ai}{R:Ending->ai->Prop}{p:List Nat}
theorem AA (e:Ij fn k=some k') (next:G P f fn k' ρ h R):G P f fn k ρ h R:=by
 unfold Ij at e;split at e
 · cases e;exact G.cn next
 · cases e;exact G.MB next
 · split at e
   · rename_i hc;cases e;exact aM (by rw[hc];rfl) next
   · rename_i hc;cases e;exact F8 (by rw[hc];rfl) next
   · rename_i hc;cases e;exact aB (by rw[hc];rfl) next
   · rename_i hc;cases e;exact G.block (by rw[hc];rfl) (by rw[hc];rfl) next
   · rename_i hc;cases e;exact F7 (by rw[hc];rfl) next
   · rename_i hc;exact ir (by rw[hc];rfl) (by rw[hc];exact e) next
   · cases e
 · cases e
theorem Fk:∀(n:Nat) (k:List It),Ii fn n k=some k'->G P f fn k' ρ h R->G P f fn k ρ h R
 | 0,k,e,next=>by simp only[Ii,Option.some.injEq] at e;subst e;exact next
 |n+1,k,e,next=>by
  rw[Ii] at e;split at e
  · rename_i h1;exact AA h1 (Fk n _ e next)
  · cases e;exact next
theorem QU (next:G P f fn k' ρ h R) (e:N1 fn k=some k':=by exact rfl):G P f fn k ρ h R:=by
 unfold N1 at e;split at e
 · rename_i h1;exact AA h1 (Fk _ _ e next)
 · cases e
theorem bY (next:G P f fn k' ρ h R) (e:Ij fn k=some k':=by exact rfl):G P f fn k ρ h R:=AA e next
theorem ew (next:RW P fn.ntmps (opsOf (Lw.sub (av fn) p)) 0 ρ h (fun ρ' h'=>G P f fn k ρ' h' R) (fun ch h'=>R (.panicked ch) h')) [c:bZ P f fn] (hk:kind (Lw.sub (av fn) p)=5:=by exact rfl):G P f fn (.code p::k) ρ h R:=G.eE c.e hk next
theorem QV (next:RQ P fn.ntmps (opsOf (Lw.sub (av fn) p)) 0 ρ h (fun ρ'=>G P f fn k ρ' h R)) [c:bZ P f fn] [m:Nq P] (hk:kind (Lw.sub (av fn) p)=6:=by exact rfl) (hB:Region.lexB .any (opsOf (Lw.sub (av fn) p))=true:=by kernel_rfl):G P f fn (.code p::k) ρ h R:=G.CY c.e m.e hk hB next
theorem QW (next:RQ P fn.ntmps (opsOf (Lw.sub (av fn) p)) 0 ρ h (fun ρ'=>G P f fn k ρ' h R)) [c:bZ P f fn] [m:Nq P] (hk:kind (Lw.sub (av fn) p)=6:=by exact rfl)
 (_:(opsOf (Lw.sub (av fn) p)).toList.all (fun o=>ME o.op)=true:=by exact rfl) (hB:Region.lexB .any (opsOf (Lw.sub (av fn) p))=true:=by kernel_rfl):G P f fn (.code p::k) ρ h R:=G.CY c.e m.e hk hB next
theorem fB {X:List PanicEntry->ai->Prop}(next:G P f fn k ρ h R) (e:Nat.ble ops.size i=true:=by exact rfl):RW P n ops i ρ h (fun ρ' h'=>G P f fn k ρ' h' R) X:=RW.done e next
theorem QJ (next:G P f fn k ρ h R) (e:Nat.ble ops.size i=true:=by exact rfl):RQ P n ops i ρ h (fun ρ'=>G P f fn k ρ' h R):=RQ.done e next
theorem bM {φ:Prop}{_:Decidable φ}(ht:φ->G P f fn (.code (0::p)::k) ρ h R) (hn:¬φ->G P f fn (.code (1::p)::k) ρ h R) (hk:kind (Lw.sub (av fn) p)=7:=by exact rfl)
 (hc:aU ρ (oM (Lw.sub (av fn) p))=some (.bool (decide φ)):=by exact rfl):G P f fn (.code p::k) ρ h R:=dz hk hc ht hn
theorem DA {t:Bool}(ht:t=true->G P f fn (.code (0::p)::k) ρ h R) (hn:t=false->G P f fn (.code (1::p)::k) ρ h R) (hk:kind (Lw.sub (av fn) p)=7:=by exact rfl)
 (hc:aU ρ (oM (Lw.sub (av fn) p))=some (.bool t):=by exact rfl):G P f fn (.code p::k) ρ h R:=aA hk hc ht hn
theorem nH {t:Bool}(hc:aU ρ (oM (Lw.sub (av fn) p))=some (.bool t)) (hb:¬t=false) (next:G P f fn (.code (0::p)::k) ρ h R) (hk:kind (Lw.sub (av fn) p)=7:=by exact rfl):G P f fn (.code p::k) ρ h R :=
 aA hk hc (fun _=>next) (fun e=>absurd e hb)
theorem nA {t:Bool}(hc:aU ρ (oM (Lw.sub (av fn) p))=some (.bool t)) (hb:¬t=true) (next:G P f fn (.code (1::p)::k) ρ h R) (hk:kind (Lw.sub (av fn) p)=7:=by exact rfl):G P f fn (.code p::k) ρ h R :=
 aA hk hc (fun e=>absurd e hb) (fun _=>next)
theorem bE (hR:R (.returned (packed vs)) h) [c:bZ P f fn] (hk:kind (Lw.sub (av fn) p)=4:=by exact rfl) (hr:gy ρ fn.results.toList=some vs:=by exact rfl):G P f fn (.code p::k) ρ h R:=cg c.e hk hr hR
theorem Kg (hR:R (.returned (packed vs)) h) [c:bZ P f fn] (hr:gy ρ fn.results.toList=some vs:=by exact rfl):G P f fn [] ρ h R:=G.G7 c.e hr hR
theorem cw (next:G P f fn [.code []] (nr 0 vs) h R) [c:bZ P f fn] (hb:fn.body.isSome=true:=by exact rfl) (hn:Nat.ble vs.length fn.ntmps=true:=by exact rfl):af P f vs.toArray h R:=af.of c.e hb hn next
theorem NJ (E:σ->Env) (I:σ->ai->Prop) (μ:σ->Nat) (s0:σ) (h0:I s0 h)
 (round:∀s h,I s h->(∀s' {h' ρ'},I s' h'->(hm:μ s' < μ s:=by first|(dsimp only;omega)|omega)->(hs:Sub (E s') ρ':=by exact sb rfl)->G P f fn (.loop (0::p)::k) ρ' h' R)->G P f fn (.code (0::p):: .loop (0::p)::k) (E s) h R)
 (hk:kind (Lw.sub (av fn) p)=3:=by exact rfl) (hs:Sub (E s0) ρ:=by exact sb rfl):G P f fn (.code p::k) ρ h R :=
 gj E I μ s0 hk hs h0 (fun s h hi ih=>round s h hi (fun s' _ _ h1 h2 h3=>ih s' _ _ h3 h1 h2))
end
section
variable {P:Program}{n:Nat}{ops:Array Oper}{M:Nat->Prop}{keeps:Nat->Bool}{fuel:Nat}{listed:Array Bool}{ρ:Env}{h:ai}{N:Env->ai->Prop}{X:List PanicEntry->ai->Prop}
def Og (ops:Array Oper) (keeps:Nat->Bool) (listed:Array Bool) (i:Nat):Bool:=Region.noSelect ops && (uG ops keeps listed i && (Region.ready .any ops listed).contains i)
theorem cB (i:Nat) (e:(nth ops.toList i,aI ops ρ o,o.dst,Nat.blt d n)=(some o,some true,some d,true)) (k:∀h',Ext M h h'->ak P o ρ h' v)
 (next:RD P n ops M keeps fuel (listed.setIfInBounds i true) ((d,v)::ρ) h N X) (hk:Og ops keeps listed i=true:=by kernel_rfl):RD P n ops M keeps (fuel+1) listed ρ h N X:=by
 simp only[Prod.mk.injEq] at e;simp only[Og,Bool.and_eq_true] at hk;exact RD.H7 i e.1 hk.1 hk.2.1 hk.2.2 e.2.1 e.2.2.1 e.2.2.2 k rfl next
theorem aX (i:Nat) (next:RD P n ops M keeps fuel (listed.setIfInBounds i true) ((d,v)::ρ) h N X) (e:(nth ops.toList i,aI ops ρ o,o.dst,Nat.blt d n)=(some o,some true,some d,true):=by exact rfl)
 (k:∀h',Ext M h h'->ak P o ρ h' v:=by intro _ _;exact Pd) (hk:Og ops keeps listed i=true:=by kernel_rfl):RD P n ops M keeps (fuel+1) listed ρ h N X:=cB i e k next hk
theorem nQ (i:Nat) (next:RD P n ops M keeps fuel (listed.setIfInBounds i true) ((d,undef)::ρ) h N X) (e:(nth ops.toList i,aI ops ρ o,o.dst,Nat.blt d n)=(some o,some false,some d,true):=by exact rfl)
 (hk:Og ops keeps listed i=true:=by kernel_rfl):RD P n ops M keeps (fuel+1) listed ρ h N X:=by
 simp only[Prod.mk.injEq] at e;simp only[Og,Bool.and_eq_true] at hk;exact RD.bl i e.1 hk.1 hk.2.1 hk.2.2 e.2.1 e.2.2.1 e.2.2.2 rfl next
theorem iW (i:Nat) (e:(nth ops.toList i,aI ops ρ o,o.dst,Nat.blt d n)=(some o,some true,some d,true)) (k:ay P o ρ h Φ X)
 (next:∀v h',Φ v h'->(keeps i=true->Ext M h h')/\RD P n ops M keeps fuel (listed.setIfInBounds i true) ((d,v)::ρ) h' N X) (hr:Region.ready .any ops listed=[i]:=by kernel_rfl):RD P n ops M keeps (fuel+1) listed ρ h N X:=by
 simp only[Prod.mk.injEq] at e;exact RD.Oe i e.1 hr e.2.1 e.2.2.1 e.2.2.2 k rfl next
theorem p6 (i:Nat) (e:(nth ops.toList i,aI ops ρ o,o.dst)=(some o,some true,none)) (k:ay P o ρ h Φ X)
 (next:∀v h',Φ v h'->(keeps i=true->Ext M h h')/\RD P n ops M keeps fuel (listed.setIfInBounds i true) ρ h' N X) (hr:Region.ready .any ops listed=[i]:=by kernel_rfl):RD P n ops M keeps (fuel+1) listed ρ h N X:=by
 simp only[Prod.mk.injEq] at e;exact RD.Of i e.1 hr e.2.1 e.2.2 k rfl next
theorem Pq (i:Nat) (e:(nth ops.toList i,aI ops ρ o,o.dst,Nat.blt d n)=(some o,some true,some d,true)) (k:ak P o ρ h v)
 (next:RD P n ops M keeps fuel (listed.setIfInBounds i true) ((d,v)::ρ) h N X) (hr:Region.ready .any ops listed=[i]:=by kernel_rfl):RD P n ops M keeps (fuel+1) listed ρ h N X :=
 iW i e k.cD (fun u h' hq=>by obtain⟨rfl,rfl⟩:=hq;exact⟨fun _=>Ext.refl _ _,next⟩) hr
theorem Kh (i:Nat) (next:RD P n ops M keeps fuel (listed.setIfInBounds i true) ((d,v)::ρ) h N X) (e:(nth ops.toList i,aI ops ρ o,o.dst,Nat.blt d n)=(some o,some true,some d,true):=by exact rfl) (k:ak P o ρ h v:=by exact Pd)
 (hr:Region.ready .any ops listed=[i]:=by kernel_rfl):RD P n ops M keeps (fuel+1) listed ρ h N X:=Pq i e k next hr
theorem Pe (i j:Nat){oi oj:Oper}{Φ':Value->ai->Prop}{di dj:Nat}(ei:(nth ops.toList i,aI ops ρ oi,oi.dst,Nat.blt di n)=(some oi,some true,some di,true)) (ej:(nth ops.toList j,aI ops ρ oj,oj.dst,Nat.blt dj n)=(some oj,some true,some dj,true))
 (ki:ay P oi ρ h Φ X) (kj:ay P oj ρ h Φ' X)
 (nexti:∀v h',Φ v h'->(keeps i=true->Ext M h h')/\RD P n ops M keeps fuel (listed.setIfInBounds i true) ((di,v)::ρ) h' N X)
 (nextj:∀v h',Φ' v h'->(keeps j=true->Ext M h h')/\RD P n ops M keeps fuel (listed.setIfInBounds j true) ((dj,v)::ρ) h' N X) (hr:Region.ready .any ops listed=[i,j]:=by kernel_rfl):RD P n ops M keeps (fuel+1) listed ρ h N X:=by
 simp only[Prod.mk.injEq] at ei ej;exact RD.yL i j ei.1 ej.1 hr ei.2.1 ej.2.1 ei.2.2.1 ej.2.2.1 ei.2.2.2 ej.2.2.2 ki kj rfl rfl nexti nextj
theorem HM (he:h=h0) (hs:Sub ρ1 ρ:=by exact sb rfl) (hr:Region.ready .any ops listed=[]:=by kernel_rfl):RD P n ops M keeps fuel listed ρ h (fun ρ' h'=>h'=h0/\Sub ρ1 ρ') X:=RD.done hr ⟨he,hs⟩
theorem HL {E:σ->ai->Prop}{F:σ->Env}(s:σ) (hE:E s h) (hs:Sub (F s) ρ:=by exact sb rfl) (hr:Region.ready .any ops listed=[]:=by kernel_rfl):RD P n ops M keeps fuel listed ρ h (fun ρ' h'=>∃s,E s h'/\Sub (F s) ρ') X:=RD.done hr ⟨s,hE,hs⟩
theorem bn (he:h=h0) (hs:Sub ρ1 ρ:=by exact sb rfl) (e:Nat.ble ops.size i=true:=by exact rfl):RW P n ops i ρ h (fun ρ' h'=>h'=h0/\Sub ρ1 ρ') X:=RW.done e ⟨he,hs⟩
theorem Ga {E:σ->ai->Prop}{F:σ->Env}(s:σ) (hE:E s h) (hs:Sub (F s) ρ:=by exact sb rfl) (e:Nat.ble ops.size i=true:=by exact rfl):RW P n ops i ρ h (fun ρ' h'=>∃s,E s h'/\Sub (F s) ρ') X:=RW.done e ⟨s,hE,hs⟩
theorem Mm (he:h=h0) (hs:Sub ρ1 ρ:=by exact sb rfl) (e:Nat.ble ops.size i=true:=by exact rfl):RQ P n ops i ρ h (fun ρ'=>h=h0/\Sub ρ1 ρ'):=RQ.done e ⟨he,hs⟩
end
section
variable {P:Program}{f:FuncId}{fn:Func}{k:List It}{ρ ρ1:Env}{h:ai}{R:Ending->ai->Prop}{p:List Nat}
theorem p8 {fuel:Nat}{M:Nat->Prop}{keeps:Nat->Bool}{listed:Array Bool}{X:List PanicEntry->ai->Prop}(next:G P f fn k ρ h R) (hr:Region.ready .any ops listed=[]:=by kernel_rfl) :
 RD P n ops M keeps fuel listed ρ h (fun ρ' h'=>G P f fn k ρ' h' R) X:=RD.done hr next
theorem vF (sz:Nat) (M:Nat->Prop) (keeps:Nat->Bool) (next:RD P fn.ntmps (opsOf (Lw.sub (av fn) p)) M keeps sz (Array.replicate sz false) ρ h (fun ρ' h'=>G P f fn k ρ' h' R) (fun ch h'=>R (.panicked ch) h')) [c:bZ P f fn] [m:Nq P]
 (hk:kind (Lw.sub (av fn) p)=6:=by exact rfl) (hsz:(opsOf (Lw.sub (av fn) p)).size=sz:=by exact rfl):G P f fn (.code p::k) ρ h R:=cG M keeps c.e m.e hk hsz rfl next
theorem Mn (sz bar:Nat) (next:RD P fn.ntmps (opsOf (Lw.sub (av fn) p)) (fun b=>h.size<=b) (fun i=>Nat.blt i bar) sz (Array.replicate sz false) ρ h (fun ρ' h'=>G P f fn k ρ' h' R) (fun ch h'=>R (.panicked ch) h')) [c:bZ P f fn] [m:Nq P]
 (hk:kind (Lw.sub (av fn) p)=6:=by exact rfl) (hsz:(opsOf (Lw.sub (av fn) p)).size=sz:=by exact rfl):G P f fn (.code p::k) ρ h R:=cG _ _ c.e m.e hk hsz rfl next
theorem j9 (new:Env) (e:oF (opsOf (Lw.sub (av fn) p)).toList ρ []=some ρ1) (eE:RW P fn.ntmps (opsOf (Lw.sub (av fn) p)) 0 ρ h (fun ρ' h'=>h'=h/\Sub (new++ρ1) ρ') (fun _ _=>False))
 (next:G P f fn k (new++ρ1) h R) [c:bZ P f fn] (hk:kind (Lw.sub (av fn) p)=5:=by exact rfl):G P f fn (.code p::k) ρ h R:=G.fF new ρ1 (sB e) c.e hk eE next
theorem Pr (E:σ->ai->Prop) (new:σ->Env) (e:oF (opsOf (Lw.sub (av fn) p)).toList ρ []=some ρ1) (eE:RW P fn.ntmps (opsOf (Lw.sub (av fn) p)) 0 ρ h (fun ρ' h'=>∃s,E s h'/\Sub (new s++ρ1) ρ') (fun ch h'=>R (.panicked ch) h'))
 (next:∀s h',E s h'->G P f fn k (new s++ρ1) h' R) [c:bZ P f fn] (hk:kind (Lw.sub (av fn) p)=5:=by exact rfl):G P f fn (.code p::k) ρ h R:=G.D3 E new ρ1 (sB e) c.e hk eE next
theorem Mo (sz:Nat) (M:Nat->Prop) (keeps:Nat->Bool) (new:Env) (e:oF (opsOf (Lw.sub (av fn) p)).toList ρ []=some ρ1) (eE:RD P fn.ntmps (opsOf (Lw.sub (av fn) p)) M keeps sz (Array.replicate sz false) ρ h (fun ρ' h'=>h'=h/\Sub (new++ρ1) ρ') (fun ch h'=>R (.panicked ch) h'))
 (next:G P f fn k (new++ρ1) h R) [c:bZ P f fn] [m:Nq P] (hk:kind (Lw.sub (av fn) p)=6:=by exact rfl) (hsz:(opsOf (Lw.sub (av fn) p)).size=sz:=by exact rfl):G P f fn (.code p::k) ρ h R:=G.pS new ρ1 (sB e) M keeps c.e m.e hk hsz rfl eE next
theorem NK (sz:Nat) (M:Nat->Prop) (keeps:Nat->Bool) (E:σ->ai->Prop) (new:σ->Env) (e:oF (opsOf (Lw.sub (av fn) p)).toList ρ []=some ρ1) (eE:RD P fn.ntmps (opsOf (Lw.sub (av fn) p)) M keeps sz (Array.replicate sz false) ρ h (fun ρ' h'=>∃s,E s h'/\Sub (new s++ρ1) ρ') (fun ch h'=>R (.panicked ch) h'))
 (next:∀s h',E s h'->G P f fn k (new s++ρ1) h' R) [c:bZ P f fn] [m:Nq P] (hk:kind (Lw.sub (av fn) p)=6:=by exact rfl) (hsz:(opsOf (Lw.sub (av fn) p)).size=sz:=by exact rfl):G P f fn (.code p::k) ρ h R:=G.sK E new ρ1 (sB e) M keeps c.e m.e hk hsz rfl eE next
end
def Ki:Code->Nat->Bool
 |.region _ ops _,i=>wr ops.toList i
 |.seq a b,i=>Ki a i ||Ki b i
 |.cond _ a b,i=>Ki a i ||Ki b i
 |.block _ b,i=>Ki b i
 |.loop b,i=>Ki b i
 |.scope b,i=>Ki b i
 |.rangeFunc ..,_=>true
 |_,_=>false
def xh (c:Code):Env->Env->Option Env
 | [],acc=>some acc
 |(i,v)::r,acc=>match Ki c i with
  |true=>xh c r acc
  |false=>match acc.at i with
   |some _=>xh c r acc
   |none=>xh c r ((i,v)::acc)
theorem pJ {c:Code}{ρ0:Env}:∀{ρ acc ρ1:Env},xh c ρ acc=some ρ1->Sub acc ρ0->(∀j v,Ki c j=false->acc.at j=none->ρ.at j=some v->ρ0.at j=some v)->Sub ρ1 ρ0
 | [],acc,ρ1,e,h,_=>by simp only[xh,Option.some.injEq] at e;subst e;exact h
 |(i,v)::r,acc,ρ1,e,h,hr=>by
  rw[xh] at e;have key:∀j u,Ki c j=false->acc.at j=none->j≠i->Env.at r j=some u->ρ0.at j=some u:=fun j u h0 h1 h2 h3=>hr j u h0 h1 (by rw[Env.fR,if_neg (Ne.symm h2)];exact h3)
  split at e
  · rename_i hw;exact pJ e h fun j u h0 h1 h3=>key j u h0 h1 (fun q=>by subst q;rw[hw] at h0;cases h0) h3
  · rename_i hw;split at e
    · rename_i x hx;exact pJ e h fun j u h0 h1 h3=>key j u h0 h1 (fun q=>by subst q;rw[hx] at h1;cases h1) h3
    · rename_i hx;refine pJ e ⟨hr i v hw hx (by rw[Env.fR,if_pos rfl]),h⟩ fun j u h0 h1 h3=>?_
      rw[Env.fR] at h1;split at h1
      · cases h1
      · rename_i q;exact key j u h0 h1 (fun q'=>q q'.symm) h3
theorem Sub.app:∀{a b ρ:Env},Sub a ρ->Sub b ρ->Sub (a++b) ρ
 | [],_,_,_,h=>h
 |(_,_)::_,_,_,⟨h1,h2⟩,h=>⟨h1,Sub.app h2 h⟩
section
variable {P:Program}{f:FuncId}{fn:Func}{k:List It}{ρ ρ1:Env}{h:ai}{R:Ending->ai->Prop}{p:List Nat}
theorem nO (new:σ->Env) (I:σ->ai->Prop) (μ:σ->Nat) (s0:σ) (h0:I s0 h) (e:xh (Lw.sub (av fn) p) ρ []=some ρ1)
 (round:∀s h,I s h->(∀s' {h' ρ'},I s' h'->(hm:μ s' < μ s:=by first|(dsimp only;omega)|omega)->(hs:Sub (new s'++ρ1) ρ':=by exact sb rfl)->G P f fn (.loop (0::p)::k) ρ' h' R)->G P f fn (.code (0::p):: .loop (0::p)::k) (new s++ρ1) h R)
 (hk:kind (Lw.sub (av fn) p)=3:=by exact rfl) (hs:Sub (new s0) ρ:=by exact sb rfl):G P f fn (.code p::k) ρ h R :=
 gj (fun s=>new s++ρ1) I μ s0 hk (Sub.app hs (pJ e trivial fun _ _ _ _ h=>h)) h0 (fun s h hi ih=>round s h hi (fun s' _ _ h1 h2 h3=>ih s' _ _ h3 h1 h2))
theorem j7:iq P ρ h [] []:=.nil
theorem Kp {t:Tmp}(k:iq P ρ h rs vs) (hx:ρ.at t=some v:=by exact rfl):iq P ρ h (.tmp t::rs) (v::vs):=.cons (cZ.tmp hx) k
theorem QH {a:Tmp}{q:Addr}(hx:ρ.at a=some (.pointer (some q))) (hc:cellAt h q=some v) (k:iq P ρ h rs vs) [c:nL P t false]:iq P ρ h (.cell a t::rs) (v::vs):=.cons (cZ.cell c.e hx hc) k
theorem jo {a:Tmp}{o:Nat}(hx:ρ.at a=some (.pointer (some ⟨b,o,none⟩))) (hc:rowAt h b o cs) (k:iq P ρ h rs vs) [c:nL P t true] [d:qw P t sz] (hn:cs.length=sz:=by first|exact rfl|(simp;done)|(simp;omega)) :
 iq P ρ h (.cell a t::rs) (.agg cs.toArray::vs):=.cons (cZ.qC c.e d.e hx hc hn) k
theorem j8 (hr:iq P ρ h fn.results.toList vs) (hR:R (.returned (packed vs)) h) [c:bZ P f fn] (hk:kind (Lw.sub (av fn) p)=4:=by exact rfl):G P f fn (.code p::k) ρ h R:=G.tC c.e hk hr hR
end
section
variable {P:Program}{n:Nat}{ops:Array Oper}{i:Nat}{ρ:Env}{h:ai}{M:Nat->Prop}{keeps:Nat->Bool}{fuel:Nat}{listed:Array Bool}{X:List PanicEntry->ai->Prop}{N:Env->ai->Prop}
theorem hU (d:Nat){b:Bool}(ht:b=true->RW P n ops i ((d,.bool true)::ρ) h N X) (hn:b=false->RW P n ops i ((d,.bool false)::ρ) h N X) (hb:ρ.at d=some (.bool b):=by exact rfl):RW P n ops i ρ h N X:=RW.split hb ht hn
theorem Qu (d:Nat){b:Bool}(ht:b=true->RD P n ops M keeps fuel listed ((d,.bool true)::ρ) h N X) (hn:b=false->RD P n ops M keeps fuel listed ((d,.bool false)::ρ) h N X) (hb:ρ.at d=some (.bool b):=by exact rfl):RD P n ops M keeps fuel listed ρ h N X:=RD.split hb ht hn
theorem Qs {N:Env->Prop}(d:Nat){b:Bool}(ht:b=true->RQ P n ops i ((d,.bool true)::ρ) h N) (hn:b=false->RQ P n ops i ((d,.bool false)::ρ) h N) (hb:ρ.at d=some (.bool b):=by exact rfl):RQ P n ops i ρ h N:=RQ.split hb ht hn
end
structure Qo (p:Prop):Prop where
 on:p
theorem ah {g g':Prop}(next:g') (k:Qo g'->g:=by
 intro n
 repeat first
  |refine QG ?_
  |refine b6 ?_
  |refine fB ?_
  |refine QU ?_
  |refine ew ?_
  |refine Nw ?_
  |refine QI ?_
  |refine QJ ?_
  |refine QW ?_
  |refine QF ?_
 exact n.on):g:=k ⟨next⟩
end
end Go.Lw
